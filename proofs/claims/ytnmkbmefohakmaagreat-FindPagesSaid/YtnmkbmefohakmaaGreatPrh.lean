/-
 The document's reader of schemas: all types.
-/
import Derived.Test.YtnmkbmefohakmaaGreatPrl
namespace Go.Proofs.YtnmkbmefohakmaaGreat.Ab
open Go.RowKit
theorem hy_ (x:Rdr)(s:GStep)(a:Int):(putM x s a).l=x.l:=by
 unfold putM;split
 ·split
  ·rfl
  ·rfl
 ·rfl
theorem tf_ {n:Nat}{ex:Rdr->Option Rdr}(hex:∀x y,ex x=some y->y.l=x.l){x y:Rdr}(h:facM n ex x=some y):y.l=x.l:=by
 unfold facM at h;split at h;rotate_left
 ·cases h
 split at h
 ·split at h
  ·cases h
   exact(je_ x 10).1
  ·obtain⟨z,h1,h⟩:=zbi h
   split at h
   ·cases h
    have e1:=hex _ _ h1;exact(z8_ z bRp).1.trans e1
   ·cases h
 ·obtain⟨r,h1,h⟩:=zbi h
  split at h
  ·obtain⟨s,h2,h⟩:=zbi h
   cases h;exact(hy_ _ _ _).trans ((jf_ h2).1.trans (jf_ h1).1)
  ·cases h
   exact(hy_ _ _ _).trans (jf_ h1).1
theorem px_ {n:Nat}{ex:Rdr->Option Rdr}(hex:∀x y,ex x=some y->y.l=x.l):∀(c:Nat) {x y:Rdr},dp_ n ex c x=some y->y.l=x.l
 |0,_,_,h=>by cases h
 |c+1,x,y,h=>by
  unfold dp_ at h;split at h;rotate_left
  ·cases h
  split at h
  ·obtain⟨z,h1,h⟩:=zbi h
   split at h
   ·have e2:=tf_ hex h1
    exact(px_ hex c h).trans ((hy_ _ _ _).trans e2)
   ·cases h
  ·cases h
   rfl
theorem py_ {n c:Nat}{ex:Rdr->Option Rdr}(hex:∀x y,ex x=some y->y.l=x.l){x y:Rdr}(h:uS_ n ex c x=some y):y.l=x.l:=by
 unfold uS_ at h;obtain⟨z,h1,h⟩:=zbi h;exact(px_ hex c h).trans (tf_ hex h1)
theorem pz_ {trm:Rdr->Option Rdr}(ht:∀x y,trm x=some y->y.l=x.l):∀(c:Nat) {x y:Rdr},dq_ trm c x=some y->y.l=x.l
 |0,_,_,h=>by cases h
 |c+1,x,y,h=>by
  unfold dq_ at h;split at h;rotate_left
  ·cases h
  split at h
  ·obtain⟨z,h1,h⟩:=zbi h
   split at h
   ·have e2:=ht _ _ h1
    exact(pz_ ht c h).trans ((hy_ _ _ _).trans e2)
   ·cases h
  ·cases h
   rfl
theorem fs_ {n c:Nat}:∀(f:Nat) (x y:Rdr),kX_ n c f x=some y->y.l=x.l
 |0,_,_,h=>by cases h
 |f+1,x,y,h=>by
  unfold kX_ at h;obtain⟨z,h1,h⟩:=zbi h;exact(pz_ (fun x y h=>py_ (fs_ f) h) c h).trans (py_ (fs_ f) h1)
theorem pA_ {n:Nat}:∀(c:Nat) {x:Rdr} {ss:List GSub} {y:Rdr × List GSub},ui_ n c x ss=some y->y.1.l=x.l
 |0,_,_,_,h=>by cases h
 |c+1,x,ss,y,h=>by
  unfold ui_ at h;split at h;rotate_left
  ·cases h
  split at h
  ·obtain⟨r1,h1,h⟩:=zbi h
   have e1:r1.1.l=x.l:=by
    have:=(jf_ h1).1
    split at this
    ·exact this.trans (je_ x 8).1
    ·exact this
   obtain⟨r2,h2,h⟩:=zbi h;have e2:r2.1.l=r1.1.l:=by
    split at h2
    ·exact(jf_ h2).1
    ·cases h2
     rfl
   split at h
   ·have e3:=pA_ c h
    exact e3.trans (e2.trans e1)
   ·cases h
    exact(z8_ _ _).1.trans (e2.trans e1)
  ·cases h
   rfl
theorem tg_ {n c f:Nat}{x:Rdr}{y:Rdr × GRel}(h:relM n c f x=some y):y.1.l=x.l:=by
 unfold relM at h;split at h;rotate_left
 ·cases h
 obtain⟨r,h1,h⟩:=zbi h;have e1:=(jf_ h1).1;split at h
 ·obtain⟨z,h2,h⟩:=zbi h
  split at h
  ·cases h
   have e2:=fs_ f _ _ h2;exact(z8_ _ _).1.trans (e2.trans e1)
  ·cases h
 ·obtain⟨p,h2,rfl⟩:=Option.map_eq_some_iff.1 h
  exact(pA_ c h2).trans ((z8_ _ _).1.trans e1)
def mpS (f:Nat->Nat)(a:Rec):Rec:=if a.g then⟨[sent],a.ks.map f,true⟩ else vL_ f a
theorem gj_ {f:Nat->Nat}{a:Rec}:(mpS f a).ks=a.ks.map f:=by
 unfold mpS;split
 ·rfl
 ·rfl
theorem mpS_g {f:Nat->Nat}{a:Rec}:(mpS f a).g=a.g:=by
 unfold mpS;split
 ·rename_i h
  exact h.symm
 ·rfl
theorem bg_ {f:Nat->Nat}{a:Rec}(h:a.g=true):wild (mpS f a)=true:=by
 unfold mpS;rw[if_pos h];simp[wild]
theorem td_ {a:Rec}(h:wild a=true):a.g=true:=by
 unfold wild at h;rw[Bool.and_eq_true] at h;exact h.1
theorem cP_ {xs ys:List Nat}(h:meet xs ys=true):xs≠[]/\ys≠[]:=by
 unfold meet at h;simp only[List.any_eq_true,List.contains_iff_mem] at h;obtain⟨i,h1,h2⟩:=h;exact⟨List.ne_nil_of_mem h1,List.ne_nil_of_mem h2⟩
theorem te_ {f:Nat->Nat}{a b:Rec}(h:meet a.ks b.ids=true):meet (mpS f a).ks (mpS f b).ids=true\/(wild (mpS f b)=true/\(mpS f a).ks≠[]):=by
 cases hb:b.g with
 |true=>exact .inr ⟨bg_ hb,by rw[gj_];simpa using(cP_ h).1⟩
 |false=>
  refine .inl ?_;rw[gj_];unfold mpS;rw[hb,if_neg (by decide)];exact bj_ h
theorem sl_ {xs ys zs:List Nat}:meet xs (ys++zs)=(meet xs ys||meet xs zs):=by
 unfold meet;rw[Bool.eq_iff_iff];simp only[List.any_eq_true,List.contains_iff_mem,List.mem_append,Bool.or_eq_true];constructor
 ·rintro⟨i,h1,h2 |h2⟩
  ·exact .inl ⟨i,h1,h2⟩
  ·exact .inr ⟨i,h1,h2⟩
 ·rintro(⟨i,h1,h2⟩ |⟨i,h1,h2⟩)
  ·exact⟨i,h1,.inl h2⟩
  ·exact⟨i,h1,.inr h2⟩
theorem sm_ {f:Nat->Nat}{a b:Rec}(h:zj_ a b=true):zj_ (mpS f a) (mpS f b)=true:=by
 simp only[zj_,zZ_,sl_,Bool.or_eq_true,Bool.and_eq_true,Bool.not_eq_true',List.isEmpty_eq_false_iff] at h⊢;rcases h with((((h |h) |h) |h) |h |h)
 ·rcases te_ (f:=f) h with h1 |h1
  ·exact .inl (.inl (.inl (.inl h1)))
  ·exact .inr (.inr h1)
 ·exact .inl (.inl (.inl (.inr (by rw[gj_,gj_];exact bj_ h))))
 ·rcases te_ (f:=f) h with h1 |h1
  ·exact .inl (.inl (.inr h1))
  ·exact .inr (.inl h1)
 ·exact .inl (.inr ⟨by rw[mpS_g];exact h.1,by rw[mpS_g];exact h.2⟩)
 ·exact .inr (.inl ⟨bg_ (td_ h.1),by rw[gj_];simpa using h.2⟩)
 ·exact .inr (.inr ⟨bg_ (td_ h.1),by rw[gj_];simpa using h.2⟩)
theorem sn_ {f:Nat->Nat}{ops:Array Oper}{rs:List Rec}(h:wq_ ops (rs.map (mpS f))=true):wq_ ops rs=true:=by
 simp only[wq_,ko_,Bool.and_eq_true,List.all_eq_true] at h⊢;refine⟨h.1,fun j hj i hi=> ?_⟩;have h1:=h.2 j hj i hi;rw[List.getElem?_map,List.getElem?_map] at h1;cases hx:rs[i]? with
 |none=>
  rw[hx] at h1;exact h1
 |some a=>
  cases hy:rs[j]? with
  |none=>
   rw[hx,hy] at h1;exact h1
  |some b=>
   rw[hx,hy] at h1;simp only[Option.map_some] at h1⊢;cases hc:zj_ a b with
   |false=>
    rw[Bool.or_eq_true] at h1⊢;rcases h1 with h1 |h1
    ·exact .inl h1
    ·refine .inr ?_
     rw[Bool.and_eq_true] at h1⊢;exact⟨h1.1,rfl⟩
   |true=>
    rw[sm_ hc] at h1;simpa using h1
theorem fr_ {P:Program}{tab:Nat->TI}{ops:Array Oper}{nx0 nx i:Nat}{k:List It}{Q:Ex->St->Prop}{acc:List Rec}{fr:Fr}{hp:Hp}(f:Nat->Nat)(rs:List Rec)(hr:acc.reverse.map (mpS f)=rs)(h1:yM_ ops rs=true)(h2:run P tab k Q ⟨fr,hp,nx⟩):Rd P tab ops nx0 nx k Q i [] acc fr hp:=
 ⟨sn_ (wM_ (hr▸h1)),h2⟩
theorem mpS_f {f:Nat->Nat}{ids ks:List Nat}:mpS f ⟨ids,ks,false⟩=⟨ids.map f,ks.map f,false⟩:=rfl
theorem mpS_s {f:Nat->Nat}{ids ks:List Nat}:mpS f ⟨ids,ks,true⟩=⟨[sent],ks.map f,true⟩:=rfl
structure PaI (q oid over:Nat) (bl:Bool) (ov:AV) (x:Rdr) (ts:List GType) (hp:Hp) (nx:Nat):Prop where
 box:hp q=some (boxRd x bl ov)
 out:ts≠[]->hp oid=some (.rw (ts.map eGType) 2 over false false)/\oid≠q/\oid<nx
 new:∀j,nx<=j->hp j=none
 qn:q<nx
structure PbI (q oid over t rid rver:Nat) (bl:Bool) (ov:AV) (x:Rdr) (ts:List GType) (nm:ByteArray) (rs:List GRel) (hp:Hp) (nx:Nat):Prop where
 a:PaI q oid over bl ov x ts hp nx
 tb:hp t=some (.bx [.v (.string nm),accV rid rver (rs.map eGRel)])
 row:rs≠[]->hp rid=some (.rw (rs.map eGRel) 3 rver false false)/\rid≠q/\rid≠t/\(ts≠[]->rid≠oid)/\rid<nx
 tq:t≠q
 to:ts≠[]->t≠oid
 tn:t<nx
theorem PaI.put {q oid over:Nat}{bl:Bool}{ov ov2:AV}{x x2:Rdr}{ts:List GType}{hp:Hp}{nx nx2:Nat}(h:PaI q oid over bl ov x ts hp nx)(hn:nx<=nx2):PaI q oid over bl ov2 x2 ts (upd q (some (boxRd x2 bl ov2)) hp) nx2 where
 box:=qd_ _ _ _
 out:=fun hs=>by
  have h1:=h.out hs;exact⟨by rw[qb_ _ _ h1.2.1];exact h1.1,h1.2.1,by omega⟩
 new:=fun j h1=>by have:=h.qn;rw[qb_ _ _ (by omega)];exact h.new j (by omega)
 qn:=by have:=h.qn;omega
theorem PaI.up {q oid over:Nat}{bl:Bool}{ov:AV}{x:Rdr}{ts:List GType}{hp:Hp}{nx nx2:Nat}(h:PaI q oid over bl ov x ts hp nx)(hn:nx<=nx2):PaI q oid over bl ov x ts hp nx2 where
 box:=h.box
 out:=fun hs=>by
  have h1:=h.out hs;exact⟨h1.1,h1.2.1,by omega⟩
 new:=fun j h1=>h.new j (by omega)
 qn:=by have:=h.qn;omega
theorem PbI.put {q oid over t rid rver:Nat}{bl:Bool}{ov ov2:AV}{x x2:Rdr}{ts:List GType}{nm:ByteArray}{rs:List GRel}{hp:Hp}{nx nx2:Nat}(h:PbI q oid over t rid rver bl ov x ts nm rs hp nx)(hn:nx<=nx2):PbI q oid over t rid rver bl ov2 x2 ts nm rs (upd q (some (boxRd x2 bl ov2)) hp) nx2 where
 a:=h.a.put hn
 tb:=by rw[qb_ _ _ h.tq];exact h.tb
 row:=fun hs=>by
  have h1:=h.row hs;exact⟨by rw[qb_ _ _ h1.2.1];exact h1.1,h1.2.1,h1.2.2.1,h1.2.2.2.1,by omega⟩
 tq:=h.tq
 to:=h.to
 tn:=by have:=h.tn;omega
theorem PbI.up {q oid over t rid rver:Nat}{bl:Bool}{ov:AV}{x:Rdr}{ts:List GType}{nm:ByteArray}{rs:List GRel}{hp:Hp}{nx nx2:Nat}(h:PbI q oid over t rid rver bl ov x ts nm rs hp nx)(hn:nx<=nx2):PbI q oid over t rid rver bl ov x ts nm rs hp nx2 where
 a:=h.a.up hn
 tb:=h.tb
 row:=fun hs=>by
  have h1:=h.row hs;exact⟨h1.1,h1.2.1,h1.2.2.1,h1.2.2.2.1,by omega⟩
 tq:=h.tq
 to:=h.to
 tn:=by have:=h.tn;omega
def accH (id sz ver:Nat)(es:List (List D))(hp:Hp):Hp:=if es= [] then hp else upd id (some (.rw es sz ver false false)) hp
def hpE (q oid over t rid rver:Nat)(bx:AO)(ts:List GType)(nm:ByteArray)(rs:List GRel):Hp:=
 upd q (some bx) (upd t (some (.bx [.v (.string nm),accV rid rver (rs.map eGRel)])) (accH oid 2 over (ts.map eGType) (accH rid 3 rver (rs.map eGRel) noHp)))
def Cl (v:AV):Prop:=∀ρ,renA ρ v=some v
theorem tc_ {eq:Bool}{g:GRel}{ov:AV}(h:Cl ov):Cl (ovD eq g ov):=by
 unfold ovD;split
 ·exact fun _=>rfl
 ·exact h
theorem xy_ {id sz ver j:Nat}{es:List (List D)}{hp:Hp}(h:es≠[]->j≠id):accH id sz ver es hp j=hp j:=by
 unfold accH;split
 ·rfl
 ·rename_i hn
  exact qb_ _ _ (h hn)
theorem zN_ {id sz ver:Nat}{es:List (List D)}{hp:Hp}(h:es≠[]):accH id sz ver es hp id=some (.rw es sz ver false false):=by
 unfold accH;rw[if_neg h,qd_]
structure Dis (q oid t rid:Nat) (ts:List GType) (rs:List GRel) (nx:Nat):Prop where
 oq:ts≠[]->oid≠q/\oid<nx
 row:rs≠[]->rid≠q/\rid≠t/\(ts≠[]->rid≠oid)/\rid<nx
 tq:t≠q
 to:ts≠[]->t≠oid
 tn:t<nx
 qn:q<nx
theorem Dis.b {q oid t rid over rver:Nat}{ts:List GType}{rs:List GRel}{nx:Nat}{bl:Bool}{ov:AV}{x:Rdr}{nm:ByteArray}(h:Dis q oid t rid ts rs nx):PbI q oid over t rid rver bl ov x ts nm rs (hpE q oid over t rid rver (boxRd x bl ov) ts nm rs) nx where
 a:={
  box:=qd_ _ _ _
  out:=fun hs=>by
   have h1:=h.oq hs;refine⟨?_,h1.1,h1.2⟩;unfold hpE;rw[qb_ _ _ h1.1,qb_ _ _ (h.to hs).symm,zN_ (by simpa using hs)]
  new:=fun j hj=>by
   have:=h.qn
   have:=h.tn
   unfold hpE;rw[qb_ _ _ (by omega),qb_ _ _ (by omega),xy_ (fun hs=>by have:=(h.oq (by simpa using hs)).2;omega),xy_ (fun hs=>by have:=(h.row (by simpa using hs)).2.2.2;omega)];rfl
  qn:=h.qn }
 tb:=by unfold hpE;rw[qb_ _ _ h.tq,qd_]
 row:=fun hs=>by
  obtain⟨h1,h2,h3,h4⟩:=h.row hs;refine⟨?_,h1,h2,h3,h4⟩;unfold hpE;rw[qb_ _ _ h1,qb_ _ _ h2,xy_ (fun hn=>h3 (by simpa using hn)),zN_ (by simpa using hs)]
 tq:=h.tq
 to:=h.to
 tn:=h.tn
theorem PbI.dis {q oid over t rid rver:Nat}{bl:Bool}{ov:AV}{x:Rdr}{ts:List GType}{nm:ByteArray}{rs:List GRel}{hp:Hp}{nx:Nat}(h:PbI q oid over t rid rver bl ov x ts nm rs hp nx):Dis q oid t rid ts rs nx:=
 ⟨fun hs=>(h.a.out hs).2,fun hs=>(h.row hs).2,h.tq,h.to,h.tn,h.a.qn⟩
theorem PbI.toE {q oid over t rid rver:Nat}{bl:Bool}{ov:AV}{x:Rdr}{ts:List GType}{nm:ByteArray}{rs:List GRel}{hp:Hp}{nx:Nat}(h:PbI q oid over t rid rver bl ov x ts nm rs hp nx)(i:Nat):hpE q oid over t rid rver (boxRd x bl ov) ts nm rs i=none\/hpE q oid over t rid rver (boxRd x bl ov) ts nm rs i=hp i:=by
 have hb:=(h.dis.b (over:=over) (rver:=rver) (bl:=bl) (ov:=ov) (x:=x) (nm:=nm));by_cases e1:i=q
 ·exact .inr (by rw[e1,hb.a.box,h.a.box])
 by_cases e2:i=t
 ·exact .inr (by rw[e2,hb.tb,h.tb])
 by_cases e3:ts≠[]/\i=oid
 ·exact .inr (by rw[e3.2,(hb.a.out e3.1).1,(h.a.out e3.1).1])
 by_cases e4:rs≠[]/\i=rid
 ·exact .inr (by rw[e4.2,(hb.row e4.1).1,(h.row e4.1).1])
 ·refine .inl ?_
  unfold hpE;rw[qb_ _ _ e1,qb_ _ _ e2,xy_ (fun hn=>fun h=>e3 ⟨by simpa using hn,h⟩),xy_ (fun hn=>fun h=>e4 ⟨by simpa using hn,h⟩)];rfl
theorem bf_ {nx i:Nat}{o:AO}{hp:Hp}(h:Shut nx hp)(ho:renO (oldR nx) o=some o):Shut nx (upd i (some o) hp):=fun j p hj=>by
 by_cases e:j=i
 ·subst e
  rw[qd_] at hj;cases hj;exact ho
 ·rw[qb_ _ _ e] at hj
  exact h j p hj
theorem hx_ {nx id sz ver:Nat}{es:List (List D)}{hp:Hp}(h:Shut nx hp):Shut nx (accH id sz ver es hp):=by
 unfold accH;split
 ·exact h
 ·exact bf_ h rfl
theorem Dis.shut {q oid t rid over rver:Nat}{ts:List GType}{rs:List GRel}{nx nx2:Nat}{bl:Bool}{ov:AV}{x:Rdr}{nm:ByteArray}(h:Dis q oid t rid ts rs nx)(hn:nx<=nx2)(hv:Cl ov):Shut nx2 (hpE q oid over t rid rver (boxRd x bl ov) ts nm rs):=by
 unfold hpE;refine bf_ (bf_ (hx_ (hx_ fun j o hj=>by cases hj)) ?_) ?_
 ·cases rs with
  |nil=>rfl
  |cons a r=>
   have h1:=(h.row (by simp)).2.2.2
   have:oldR nx2 rid=some rid:=if_pos (by omega)
   simp[renO,renL,renA,accV,this]
 ·simp[boxRd,renO,renL,renA,hv (oldR nx2)]
theorem Dis.up {q oid t rid:Nat}{ts:List GType}{rs:List GRel}{nx nx2:Nat}(h:Dis q oid t rid ts rs nx)(hn:nx<=nx2):Dis q oid t rid ts rs nx2:=
 ⟨fun hs=>by have:=h.oq hs;exact⟨this.1,by omega⟩,fun hs=>by have:=h.row hs;exact⟨this.1,this.2.1,this.2.2.1,by omega⟩,h.tq,h.to,by have:=h.tn;omega,by have:=h.qn;omega⟩
theorem pv_ (x:Rdr)(b:ByteArray):(j9_ x b).l=x.l:=by
 unfold j9_;split
 ·split
  ·rfl
  ·exact(je_ x 9).1
 ·rfl
set_option maxRecDepth 8000 in
theorem sk_ {n c f:Nat}{s:ByteArray}{y:List GType × Int × Int}(h:un_ n c f s=some y):PureOK Tryz.prog 26 [D.v (.string s)] (D.tu [D.sl (y.1.map eGType),D.v (.int .i64 y.2.1),D.v (.int .i64 y.2.2)]) false:=by
 unfold un_ at h;obtain⟨t,ht,h⟩:=zbi h;refine ZP qf_ fol (rs:= #[.tmp 2,.tmp 3,.tmp 4]) Tryz.func26 ?_;refine zsq (ZT 1 ?_);refine Z0 ?_;refine zsq (ZT 1 ?_);refine Z0 ?_;refine ZC0 (uQ_ ht) ?_;refine Z0 ?_;refine zsq (zsq ?_);refine ZT 1 ?_;cases he:(t.2.2==0) with
 |false=>
  have he2:(t.2.2 != 0)=true:=by rw[bne,he];rfl
  rw[he,if_neg (by decide)] at h;cases h;refine Z1 he2 ?_;refine qs_ (c:=true) rfl rfl ?_;refine zsq (ZT 1 ?_);refine Z0 ?_;refine ZT 1 ?_;refine Z0 ?_;exact ZE0
 |true=>
  have he2:(t.2.2 != 0)=false:=by rw[bne,he];rfl
  rw[he,if_pos rfl] at h;obtain⟨r,hr,h⟩:=zbi h;refine Z1 he2 ?_;refine qg_ (c:=false) rfl rfl ?_;refine ZT 1 ?_;refine Z0 ?_;refine zsq (ZT 1 ?_);refine Z0 ?_;refine zsq (ZT 1 ?_);refine Z0 ?_;refine zsq (zbk ?_)
  have L0:PaI 18 0 0 false (.v (.slice none 0 0)) ⟨t.1,0,(s.size:Int),0,0,0,[],0⟩ [] (upd 18 (some (boxRd ⟨t.1,0,(s.size:Int),0,0,0,[],0⟩ false (.v (.slice none 0 0)))) noHp) 21:=
   ⟨qd_ _ _ _,fun hn=>absurd rfl hn,fun j hj=>by rw[qb_ _ _ (by omega)];rfl,by decide⟩
  refine zlp (α:={ z:Nat × Rdr × List GType × Nat × Nat × AV × Hp × Nat // PaI 18 z.2.2.2.1 z.2.2.2.2.1 false z.2.2.2.2.2.1 z.2.1 z.2.2.1 z.2.2.2.2.2.2.1 z.2.2.2.2.2.2.2/\z.2.1.l=t.1/\kL_ n c f z.1 z.2.1 z.2.2.1=some r/\Cl z.2.2.2.2.2.1 })
   (fun z=>⟨upd 5 (.d (.sl (t.1.map eGToken)) false) (upd 8 (.pt 18 0) (upd 9 (accV z.1.2.2.2.1 z.1.2.2.2.2.1 (z.1.2.2.1.map eGType)) noFr)),z.1.2.2.2.2.2.2.1,z.1.2.2.2.2.2.2.2⟩) (fun z=>z.1.1)
   ⟨(c,⟨t.1,0,(s.size:Int),0,0,0,[],0⟩,[],0,0,.v (.slice none 0 0),_,21),L0,rfl,hr,fun _=>rfl⟩ ?_ ?_
  ·exact wkI (qa_ rfl (qa_ rfl (qa_ rfl (qh_ _))))
  ·rintro⟨⟨k,x,ts,oid,over,ov,hpz,nxz⟩,L,hxl,m,hov⟩
   dsimp only at L hxl m hov;cases k with
   |zero=>cases m
   |succ k=>
   unfold kL_ at m;split at m;rotate_left
   ·cases m
   rename_i hw;obtain⟨⟨z1,z2,z3,z4⟩,z5,z6⟩:=hw;have hsl:(x.l.map eGToken).length=t.1.length:=by rw[hxl,List.length_map]
   have z2':x.p<=t.1.length:=by rw[<-hxl];exact z2
   refine zsq (zsq ?_);refine ZT 1 ?_;cases he:(x.e==0) with
   |false=>
    have he2:(x.e != 0)=true:=by rw[bne,he];rfl
    rw[he,Bool.false_and,if_neg (by decide)] at m;obtain⟨m1,m2⟩:=Prod.mk.inj (Option.some.inj m);rw[<-m1,he,if_neg (by decide)] at h;cases h;refine Z1 (And.intro L.box he) ?_;refine ZT 1 ?_;refine Z0 ?_;refine zsq (zsq ?_);refine ZT 1 ?_;refine Z1 (And.intro L.box he2) ?_;refine qs_ (c:=true) rfl rfl ?_;refine zsq (ZT 1 ?_);refine Z1 L.box ?_;refine qj_ (by rfl) ?_;refine ZT 1 ?_
    refine Z0 ?_;exact ZE0
   |true=>
    have he2:(x.e != 0)=false:=by rw[bne,he];rfl
    by_cases hlt:x.p<t.1.length
    rotate_left
    ·have c1:(decide ((x.p:Int)<(t.1.length:Int)))=false:=decide_eq_false (by omega)
     rw[he,Bool.true_and,if_neg (by rw[decide_eq_true_eq,hxl];exact hlt)] at m;obtain⟨m1,m2⟩:=Prod.mk.inj (Option.some.inj m);rw[<-m1,<-m2,he,if_pos rfl] at h;cases h;refine Z1 (And.intro L.box (And.intro he c1)) ?_;refine ZT 1 ?_;refine Z0 ?_;refine zsq (zsq ?_);refine ZT 1 ?_;refine Z1 (And.intro L.box he2) ?_;refine qg_ (c:=false) rfl rfl ?_;refine ZT 1 ?_;refine Z0 ?_
     refine zsq (ZT 1 ?_);refine Z0 ?_;refine ZT 1 ?_;refine Z0 ?_;have hto:∃is,toR hpz (.tu [accV oid over (ts.map eGType),.v (.int .i64 0),.v (.int .i64 0)])=some (D.tu [D.sl (ts.map eGType),D.v (.int .i64 0),D.v (.int .i64 0)],false,is):=by
      cases ts with
      |nil=>exact⟨_,rfl⟩
      |cons a u=>
       have lo:=(L.out (by simp)).1;exact⟨[oid],by simp[toR,toDl,toD,toD1,accV,lo,gW_]⟩
     obtain⟨is,hto⟩:=hto;exact xM_ (v:=.tu [accV oid over (ts.map eGType),.v (.int .i64 0),.v (.int .i64 0)]) (by simp -implicitDefEqProofs only[go_sem, ↓reduceIte,qd_,Nat.reduceEqDiff]<;>rfl) hto rfl fun _=>rfl
    have c1:(decide ((x.p:Int)<(t.1.length:Int)))=true:=decide_eq_true (by omega);rw[he,Bool.true_and,if_pos (by rw[decide_eq_true_eq,hxl];exact hlt)] at m;obtain⟨tt,htt,m⟩:=zbi m;refine Z1 (And.intro L.box (And.intro he c1)) ?_;refine ZT 1 ?_;refine Z0 ?_;refine zbk ?_;obtain⟨zz,hzz⟩:∃zz,zz=(if ts.length=200 then j4_ x 8 else x):=⟨_,rfl⟩
    rw[<-hzz] at htt;have kz:zz.l=x.l/\zz.out=x.out/\zz.deep=x.deep/\zz.p=x.p:=by
     rw[hzz];split
     ·exact je_ x 8
     ·exact⟨rfl,rfl,rfl,rfl⟩
    refine zsq (zjn (α:={ k:Nat // nxz<=k }) (fun y=>⟨upd 5 (.d (.sl (t.1.map eGToken)) false) (upd 8 (.pt 18 0) (upd 9 (accV oid over (ts.map eGType)) noFr)),upd 18 (some (boxRd zz false ov)) hpz,y.1⟩) ?_ ?_)
    ·refine zsq (ZT 1 ?_)
     have lo:=L.out;cases ts with
     |nil=>
      rw[if_neg (by decide)] at hzz;refine Z0 ?_;refine qg_ (c:=false) rfl rfl ?_;refine ZT 1 ?_;refine Z0 ?_;rw[hzz];exact⟨⟨_,by omega⟩,wkH (qQ_ L.box) (qa_ rfl (qa_ rfl (qa_ rfl (qh_ _))))⟩
     |cons a u=>
      have lo:=(L.out (by simp)).1;by_cases h50:(a::u).length=200
      ·have c50:(((u.length+1:Nat):Int)==200)=true:=by simp at h50⊢;omega
       rw[if_pos h50] at hzz;refine Z1 (And.intro lo c50) ?_;refine ZT 1 ?_;refine Z0 ?_;refine qe_ ((zM_ L.box (by omega)).mono ?_);rintro v hp5 nx5 ⟨rfl,rfl,hle5⟩;dsimp only at hle5;refine Z0 ?_;rw[hzz];exact⟨⟨_,by omega⟩,wkI (qa_ rfl (qa_ rfl (qa_ rfl (qh_ _))))⟩
      ·have c50:(((u.length+1:Nat):Int)==200)=false:=by simp at h50⊢;omega
       rw[if_neg h50] at hzz;refine Z1 (And.intro lo c50) ?_;refine qg_ (c:=false) rfl rfl ?_;refine ZT 1 ?_;refine Z0 ?_;rw[hzz];exact⟨⟨_,by omega⟩,wkH (qQ_ L.box) (qa_ rfl (qa_ rfl (qa_ rfl (qh_ _))))⟩
    ·rintro⟨nxk,hk⟩
     have L1:=L.put (x2:=zz) (ov2:=ov) hk;refine zsq ?_;obtain⟨zy,hzy⟩:∃zy,zy=tyM zz:=⟨_,rfl⟩;unfold mm_ at htt;rw[<-hzy] at htt;refine zjn (α:={ k:Nat // nxk<=k }) (fun y=>⟨upd 5 (.d (.sl (t.1.map eGToken)) false) (upd 8 (.pt 18 0) (upd 9 (accV oid over (ts.map eGType)) noFr)),upd 18 (some (boxRd zy false ov)) (upd 18 (some (boxRd zz false ov)) hpz),y.1⟩) ?_ ?_
     ·refine zsq (ZT 1 ?_)
      have et:t.1[zz.p]? =some t.1[x.p]:=by rw[kz.2.2.2];exact List.getElem?_eq_getElem hlt
      have e2:(t.1.map eGToken)[zz.p]? =some [D.v (.int .i64 t.1[x.p].kind),D.v (.int .i64 t.1[x.p].at_),D.v (.string t.1[x.p].text)]:=qn_ eGToken et;unfold tyM at hzy;rw[kz.1,hxl,et] at hzy;dsimp only at hzy;have w:=And.intro L1.box (And.intro e2 (And.intro (zno .i64 (show(0:Int)<=(zz.p:Int) by omega)) (show((zz.p:Int)).toNat=zz.p from Int.toNat_natCast _)))
      cases he3:(zz.e==0) with
      |false=>
       rw[he3,if_neg (by decide)] at hzy;refine Z1 (And.intro he3 w) ?_;refine qg_ (c:=false) rfl rfl ?_;refine ZT 1 ?_;refine Z0 ?_;rw[hzy];exact⟨⟨_,by omega⟩,wkH (qI_ ..) (qa_ rfl (qa_ rfl (qa_ rfl (qh_ _))))⟩
      |true=>
       rw[he3,if_pos rfl] at hzy;cases hk1:(t.1[x.p].kind==1) with
       |false=>
        have hk2:(t.1[x.p].kind != 1)=true:=by rw[bne,hk1];rfl
        rw[hk1,if_neg (by decide)] at hzy;refine Z1 (And.intro he3 (And.intro hk2 w)) ?_;refine ZT 1 ?_;refine Z0 ?_;refine qe_ ((zM_ L1.box (by rw[kz.1];omega)).mono ?_);rintro v hp5 nx5 ⟨rfl,rfl,hle5⟩;dsimp only at hle5;refine Z0 ?_;rw[hzy];exact⟨⟨_,by omega⟩,wkI (qa_ rfl (qa_ rfl (qa_ rfl (qh_ _))))⟩
       |true=>
        have hk2:(t.1[x.p].kind != 1)=false:=by rw[bne,hk1];rfl
        rw[hk1,if_pos rfl] at hzy;cases hty:(t.1[x.p].text.toList==bType.toList) with
        |true=>
         have hty2:(t.1[x.p].text.toList==({ data:= #[116,121,112,101] }:ByteArray).toList)=true:=hty;rw[hty,if_pos rfl] at hzy;refine Z1 (And.intro he3 (And.intro hk2 (And.intro hty2 w))) ?_;refine qg_ (c:=false) rfl rfl ?_;refine ZT 1 ?_;refine Z0 ?_;rw[hzy];exact⟨⟨_,by omega⟩,wkH (qI_ ..) (qa_ rfl (qa_ rfl (qa_ rfl (qh_ _))))⟩
        |false=>
         have hty2:(t.1[x.p].text.toList==({ data:= #[116,121,112,101] }:ByteArray).toList)=false:=hty;rw[hty,if_neg (by decide)] at hzy;refine Z1 (And.intro he3 (And.intro hk2 (And.intro hty2 w))) ?_;refine ZT 1 ?_;refine Z0 ?_;refine qe_ ((zM_ L1.box (by rw[kz.1];omega)).mono ?_);rintro v hp5 nx5 ⟨rfl,rfl,hle5⟩;dsimp only at hle5;refine Z0 ?_;rw[hzy]
         exact⟨⟨_,by omega⟩,wkI (qa_ rfl (qa_ rfl (qa_ rfl (qh_ _))))⟩
     ·rintro⟨nxl,hl⟩
      have kzy:zy.l=t.1/\zy.p=x.p/\zy.deep=x.deep:=by
       have k8:=(je_ zz 9);rw[hzy];unfold tyM;rw[<-hxl,<-kz.1,<-kz.2.2.2,<-kz.2.2.1];split
       ·split
        ·split
         ·split
          ·exact⟨rfl,rfl,rfl⟩
          ·exact⟨k8.1,k8.2.2.2,k8.2.2.1⟩
         ·exact⟨k8.1,k8.2.2.2,k8.2.2.1⟩
        ·exact⟨k8.1,k8.2.2.2,k8.2.2.1⟩
       ·exact⟨rfl,rfl,rfl⟩
      have L2:=(L1.put (x2:=zy) (ov2:=ov) hl);rw[qI_] at L2⊢;obtain⟨r1,hr1,htt⟩:=zbi htt;refine zsq (ZT 1 ?_);refine Z1 (And.intro L2.box (w64a (n:=zy.p) (by rw[kzy.2.1];omega))) ?_;refine zsq (ZT 1 ?_);refine Z0 ?_;have L3:=L2.put (x2:={ zy with p:=zy.p+1 }) (ov2:=ov) (Nat.le_refl _)
      refine qe_ ((vI_ L3.box (by show zy.l.length<_;rw[kzy.1,<-hxl];omega) hr1).mono ?_);rintro v hp6 nx6 ⟨rfl,rfl,hle6⟩;dsimp only at hle6;refine Z0 ?_
      have L4:PbI 18 oid over (nxl+8+3) 0 0 false ov r1.1 ts r1.2 [] (upd (nxl+8+3) (some (.bx [.v (.string r1.2),.v (.slice none 0 0)])) (upd (nxl+8+3) (some (.bx [.v (.string ByteArray.empty),.v (.slice none 0 0)])) (upd 18 (some (boxRd r1.1 false ov)) (upd 18 (some (boxRd { zy with p:=zy.p+1 } false ov)) (upd 18 (some (boxRd zy false ov)) hpz))))) nx6:=by
       have L5:=L3.put (x2:=r1.1) (ov2:=ov) (nx2:=nx6) (by omega);have hq1:=L2.qn;refine⟨⟨by rw[qb_ _ _ (by omega),qb_ _ _ (by omega)];exact L5.box,fun hs=> ?_,fun j hj=>by rw[qb_ _ _ (by omega),qb_ _ _ (by omega)];exact L5.new j hj,L5.qn⟩,qd_ _ _ _,fun hn=>absurd rfl hn,by omega,fun hs=> ?_,by omega⟩
       ·have h1:=L5.out hs
        have h2:=(L2.out hs).2.2;exact⟨by rw[qb_ _ _ (by omega),qb_ _ _ (by omega)];exact h1.1,h1.2⟩
       ·have h2:=(L2.out hs).2.2
        omega
      generalize eH:(upd (nxl+8+3) (some _) _:Hp)=hp7 at L4⊢;obtain⟨q,hq,htt⟩:=zbi htt;cases htt;have kr1:=jf_ hr1;have kr1l:r1.1.l=t.1:=kr1.1.trans kzy.1;have ht60:t.1.length<1152921504606846976:=by rw[<-hxl];exact z1
      refine zsq (zjn (α:={ z:Nat × Nat × AV × Hp × Nat // PbI 18 oid over (nxl+8+3) z.1 z.2.1 false z.2.2.1 q.1 ts r1.2 q.2 z.2.2.2.1 z.2.2.2.2/\Cl z.2.2.1/\q.1.l=t.1 }) (fun z=>⟨upd 5 (.d (.sl (t.1.map eGToken)) false) (upd 8 (.pt 18 0) (upd 9 (accV oid over (ts.map eGType)) (upd 10 (.pt (nxl+8+3) 0) noFr))),z.1.2.2.2.1,z.1.2.2.2.2⟩) ?_ ?_)
      ·refine zsq (ZT 1 ?_)
       cases he1:(r1.1.e==0) with
       |false=>
        rw[he1,Bool.false_and,if_neg (by decide)] at hq;cases hq;refine Z1 (And.intro L4.a.box he1) ?_;refine qg_ (c:=false) rfl rfl ?_;refine ZT 1 ?_;refine Z0 ?_;exact⟨⟨(0,0,ov,hp7,_),L4.up (by dsimp only;omega),hov,kr1l⟩,wkI (qa_ rfl (qa_ rfl (qa_ rfl (qa_ rfl (qh_ _)))))⟩
       |true=>
        rw[he1,Bool.true_and] at hq;refine Z1 (And.intro L4.a.box he1) ?_;refine qe_ ((w4_ L4.a.box (by rw[kr1l];omega)).mono ?_);rintro v hp8 nx8 ⟨rfl,rfl,hle8⟩;dsimp only at hle8;cases hi:isM r1.1 bLb with
        |false=>
         have hi':isM r1.1 { data:= #[123] }=false:=hi;rw[hi,if_neg (by decide)] at hq;cases hq;refine Z1 hi' ?_;refine qg_ (c:=false) rfl rfl ?_;refine ZT 1 ?_;refine Z0 ?_;exact⟨⟨(0,0,ov,hp8,_),L4.up (by dsimp only;omega),hov,kr1l⟩,wkI (qa_ rfl (qa_ rfl (qa_ rfl (qa_ rfl (qh_ _)))))⟩
        |true=>
         have hi':isM r1.1 { data:= #[123] }=true:=hi;have lt1:=xe_ hi;rw[kr1l] at lt1;rw[hi,if_pos rfl] at hq;obtain⟨⟨xf,rsf⟩,hrs,rfl⟩:=Option.map_eq_some_iff.1 hq;refine Z1 hi' ?_;refine qs_ (c:=true) rfl rfl ?_;refine zsq (ZT 1 ?_);refine Z1 (And.intro L4.a.box (w64a (n:=r1.1.p) (by omega))) ?_
         have L5:=L4.put (x2:={ r1.1 with p:=r1.1.p+1 }) (ov2:=ov) (nx2:=nx8+8) (by omega);refine zsq (zbk ?_);refine zlp (α:={ z:Nat × Rdr × List GRel × Nat × Nat × AV × Nat // Dis 18 oid (nxl+8+3) z.2.2.2.1 ts z.2.2.1 z.2.2.2.2.2.2/\Cl z.2.2.2.2.2.1/\z.2.1.l=t.1/\bh_ n c f z.1 z.2.1 z.2.2.1=some (xf,rsf) })
          (fun z=>⟨upd 5 (.d (.sl (t.1.map eGToken)) false) (upd 8 (.pt 18 0) (upd 9 (accV oid over (ts.map eGType)) (upd 10 (.pt (nxl+8+3) 0) noFr))),hpE 18 oid over (nxl+8+3) z.1.2.2.2.1 z.1.2.2.2.2.1 (boxRd z.1.2.1 false z.1.2.2.2.2.2.1) ts r1.2 z.1.2.2.1,z.1.2.2.2.2.2.2⟩) (fun z=>z.1.1)
          ⟨(c,{ r1.1 with p:=r1.1.p+1 },[],0,0,ov,nx8+8),L5.dis,hov,kr1l,hrs⟩ ?_ ?_
         ·exact .weak ⟨qa_ rfl (qa_ rfl (qa_ rfl (qa_ rfl (qh_ _)))),fun i=>L5.toE i,Nat.le_refl _⟩
         ·rintro⟨⟨kk,w,rs,rid,rver,ow,nxw⟩,D,how,hwl,mw⟩
          dsimp only at D how hwl mw;cases kk with
          |zero=>cases mw
          |succ kk=>
          unfold bh_ at mw;split at mw;rotate_left
          ·cases mw
          rename_i hww;obtain⟨⟨w1,w2,w3,w4⟩,w5,w6⟩:=hww;have B:=D.b (over:=over) (rver:=rver) (bl:=false) (ov:=ow) (x:=w) (nm:=r1.2);have w2':w.p<=t.1.length:=by rw[<-hwl];exact w2
          refine zsq (zsq ?_);refine ZT 1 ?_;cases hew:(w.e==0) with
          |false=>
           rw[hew,Bool.false_and,if_neg (by decide)] at mw;refine Z1 (And.intro B.a.box hew) ?_;obtain⟨mw1,mw2⟩:=Prod.mk.inj (Option.some.inj mw);subst mw1;subst mw2;refine ZT 1 ?_;refine Z0 ?_;refine ZT 1 ?_;refine Z0 ?_;refine qe_ ((wv_ B.a.box (by rw[hwl];omega) (by omega)).mono ?_);rintro v hpA nxA ⟨rfl,rfl,hleA⟩;dsimp only at hleA;refine Z0 ?_
           exact⟨⟨(rid,rver,ow,_,_),B.put (by dsimp only;omega),how,(pv_ w bRb).trans hwl⟩,wkI (qa_ rfl (qa_ rfl (qa_ rfl (qa_ rfl (qh_ _)))))⟩
          |true=>
           rw[hew,Bool.true_and] at mw;refine Z1 (And.intro B.a.box hew) ?_;refine qe_ ((w4_ B.a.box (by rw[hwl];omega)).mono ?_);rintro v hpB nxB ⟨rfl,rfl,hleB⟩;dsimp only at hleB;cases hiw:isM w bRb with
           |true=>
            have hi':isM w { data:= #[125] }=true:=hiw;rw[hiw,if_neg (by decide)] at mw;refine Z1 hi' ?_;obtain⟨mw1,mw2⟩:=Prod.mk.inj (Option.some.inj mw);subst mw1;subst mw2;refine ZT 1 ?_;refine Z0 ?_;refine ZT 1 ?_;refine Z0 ?_;refine qe_ ((wv_ B.a.box (by rw[hwl];omega) (by omega)).mono ?_);rintro v hpA nxA ⟨rfl,rfl,hleA⟩;dsimp only at hleA;refine Z0 ?_
            exact⟨⟨(rid,rver,ow,_,_),B.put (by dsimp only;omega),how,(pv_ w bRb).trans hwl⟩,wkI (qa_ rfl (qa_ rfl (qa_ rfl (qa_ rfl (qh_ _)))))⟩
           |false=>
            have hi':isM w { data:= #[125] }=false:=hiw;rw[hiw,if_pos (by decide)] at mw;refine Z1 hi' ?_;refine ZT 1 ?_;refine Z0 ?_;refine zbk ?_;obtain⟨zw,hzw⟩:∃zw,zw=(if rs.length=200 then j4_ w 8 else w):=⟨_,rfl⟩
            refine zsq (zjn (α:={ k:Nat // nxB<=k }) (fun y=>⟨upd 5 (.d (.sl (t.1.map eGToken)) false) (upd 8 (.pt 18 0) (upd 9 (accV oid over (ts.map eGType)) (upd 10 (.pt (nxl+8+3) 0) noFr))),hpE 18 oid over (nxl+8+3) rid rver (boxRd zw false ow) ts r1.2 rs,y.1⟩) ?_ ?_)
            ·refine zsq (ZT 1 ?_)
             have lt:=B.tb;cases rs with
             |nil=>
              rw[if_neg (by decide)] at hzw;refine Z1 lt ?_;refine qg_ (c:=false) rfl rfl ?_;refine ZT 1 ?_;refine Z0 ?_;rw[hzw];exact⟨⟨_,by omega⟩,wkI (qa_ rfl (qa_ rfl (qa_ rfl (qa_ rfl (qh_ _)))))⟩
             |cons a u=>
              by_cases h50:(a::u).length=200
              ·have c50:(((u.length+1:Nat):Int)==200)=true:=by simp at h50⊢;omega
               rw[if_pos h50] at hzw;refine Z1 (And.intro lt c50) ?_;refine ZT 1 ?_;refine Z0 ?_;refine qe_ ((zM_ B.a.box (by rw[hwl];omega)).mono ?_);rintro v hp5 nx5 ⟨rfl,rfl,hle5⟩;dsimp only at hle5;refine Z0 ?_;rw[hzw]
               exact⟨⟨_,by omega⟩,.weak ⟨qa_ rfl (qa_ rfl (qa_ rfl (qa_ rfl (qh_ _)))),fun i=>(B.put (x2:=j4_ w 8) (ov2:=ow) (Nat.le_refl _)).toE i,Nat.le_refl _⟩⟩
              ·have c50:(((u.length+1:Nat):Int)==200)=false:=by simp at h50⊢;omega
               rw[if_neg h50] at hzw;refine Z1 (And.intro lt c50) ?_;refine qg_ (c:=false) rfl rfl ?_;refine ZT 1 ?_;refine Z0 ?_;rw[hzw];exact⟨⟨_,by omega⟩,wkI (qa_ rfl (qa_ rfl (qa_ rfl (qa_ rfl (qh_ _)))))⟩
            ·rintro⟨nxk,hk⟩
             have Dz:=D.up (nx2:=nxk) (by omega);have Bz:=Dz.b (over:=over) (rver:=rver) (bl:=false) (ov:=ow) (x:=zw) (nm:=r1.2);have kzw:zw.l=w.l/\zw.p=w.p:=by
              rw[hzw];split
              ·exact⟨(je_ w 8).1,(je_ w 8).2.2.2⟩
              ·exact⟨rfl,rfl⟩
             refine zsq (ZT 1 ?_);by_cases h200:rs.length=200
             ·rw[if_pos h200] at hzw mw
              have hez:(zw.e==0)=false:=by rw[hzw];exact uj_ hew rfl
              rw[<-hzw] at mw;refine Z1 (And.intro Bz.a.box hez) ?_;refine qg_ (c:=false) rfl rfl ?_;refine ZT 1 ?_;refine Z0 ?_;exact⟨⟨(kk,zw,rs,rid,rver,ow,_),Dz.up (by dsimp only;omega),how,kzw.1.trans hwl,mw⟩,wkI (qa_ rfl (qa_ rfl (qa_ rfl (qa_ rfl (qh_ _))))),Nat.lt_succ_self kk⟩
             ·rw[if_neg h200] at hzw mw
              subst hzw;obtain⟨yy,hyy,mw⟩:=zbi mw;refine Z1 (And.intro Bz.a.box hew) ?_;refine ZT 1 ?_;cases rs with
              |nil=>
               refine Z1 Bz.tb ?_;refine j1_ (δ:=[(18,boxRd yy.1 false (ovD (vJ_ n zw) yy.2 ow))]) (pw_ (fun j hj=>Bz.a.new j (by omega)) (Dz.shut (by omega) how) Bz.a.box hyy) ?_;have g1:(nxl+8+3=18)=False:=eq_false Bz.tq;have g2:(nxl+8+3=nxk+5+4)=False:=eq_false (by have:=Bz.tn;omega)
               have g3:(nxl+8+3=nxk+5+5)=False:=eq_false (by have:=Bz.tn;omega);refine Z1 (And.intro Bz.tb (And.intro g1 (And.intro g2 g3))) ?_;have v1:nw4 (nxl+8+3) 18 (nxk+5+4) (nxk+5+5) (nxl+8+3)=1:=by simp[nw4]
               have v2:nw4 (nxl+8+3) 18 (nxk+5+4) (nxk+5+5) 18=2:=by unfold nw4;rw[if_neg (Ne.symm Bz.tq),if_pos rfl]
               have v3:nw4 (nxl+8+3) 18 (nxk+5+4) (nxk+5+5) (nxk+5+4)=3:=by unfold nw4;rw[if_neg (by have:=Bz.tn;omega),if_neg (by have:=Bz.a.qn;omega),if_pos rfl]
               have v4:nw4 (nxl+8+3) 18 (nxk+5+4) (nxk+5+5) (nxk+5+5)=4:=by unfold nw4;rw[if_neg (by have:=Bz.tn;omega),if_neg (by have:=Bz.a.qn;omega),if_neg (by omega),if_pos rfl]
               refine fr_ (nw4 (nxl+8+3) 18 (nxk+5+4) (nxk+5+5)) _ rfl (by simp only[List.reverse_cons,List.reverse_nil,List.nil_append,List.cons_append,List.map_cons,List.map_nil,mpS_f,mpS_s,v1,v2,v3,v4];rfl) ?_;generalize eU:(upd (nxl+8+3) (some _) _:Hp)=hpU
               have u1:hpU (nxl+8+3)=some (.bx [.v (.string r1.2),.so (nxk+5+5) 0 0 1]):=by rw[<-eU,qd_]
               have u2:hpU (nxk+5+5)=some (.rw ([[.v (.string yy.2.name),.sl (yy.2.subs.map eGSub),.sl (yy.2.expr.map eGStep)]]) 3 (0) false false):=by rw[<-eU,qb_ _ _ (by have:=Bz.tn;omega),qd_]
               have u3:∀j,j≠nxl+8+3->j≠nxk+5+5->j≠nxk+5+4->hpU j=upd 18 (some (boxRd yy.1 false (ovD (vJ_ n zw) yy.2 ow))) (hpE 18 oid over (nxl+8+3) rid rver (boxRd zw false ow) ts r1.2 ([])) j:=fun j h1 h2 h3=>by rw[<-eU,qb_ _ _ h1,qb_ _ _ h2,qb_ _ _ h3]
               have tn:=Bz.tn;have qn:=Bz.a.qn;have L9:PbI 18 oid over (nxl+8+3) (nxk+5+5) (0) false (ovD (vJ_ n zw) yy.2 ow) yy.1 ts r1.2 ([]++[yy.2]) hpU (nxk+5+8):=by
                refine⟨⟨(u3 18 (Ne.symm Bz.tq) (by omega) (by omega)).trans (qd_ _ _ _),fun hs=> ?_,fun j hj=> ?_,by omega⟩,u1.trans (by rfl),fun _=>⟨u2.trans (by rfl),by have:=Bz.a.qn;omega,by have:=Bz.tn;omega,fun hs=> ?_,by omega⟩,Bz.tq,Bz.to,by omega⟩
                ·have h1:=Bz.a.out hs
                 exact⟨(u3 oid (Bz.to hs).symm (by have:=h1.2.2;omega) (by have:=h1.2.2;omega)).trans (by rw[qb_ _ _ h1.2.1];exact h1.1),h1.2.1,by have:=h1.2.2;omega⟩
                ·exact(u3 j (by omega) (by omega) (by omega)).trans (by rw[qb_ _ _ (by omega)];exact Bz.a.new j (by omega))
                ·have:=(Bz.a.out hs).2.2
                 omega
               exact⟨⟨(kk,yy.1,[]++[yy.2],nxk+5+5,0,ovD (vJ_ n zw) yy.2 ow,nxk+5+8),L9.dis,tc_ how,(tg_ hyy).trans hwl,mw⟩,.weak ⟨qa_ rfl (qa_ rfl (qa_ rfl (qa_ rfl (qh_ _)))),fun i=>L9.toE i,Nat.le_refl _⟩,Nat.lt_succ_self kk⟩
              |cons a u=>
               refine Z1 Bz.tb ?_;refine j1_ (δ:=[(18,boxRd yy.1 false (ovD (vJ_ n zw) yy.2 ow))]) (pw_ (fun j hj=>Bz.a.new j (by omega)) (Dz.shut (by omega) how) Bz.a.box hyy) ?_;have g1:(nxl+8+3=18)=False:=eq_false Bz.tq;have g2:(nxl+8+3=nxk+5+4)=False:=eq_false (by have:=Bz.tn;omega);have hrow:=Bz.row (by simp)
               have g3:(nxl+8+3=rid)=False:=eq_false hrow.2.2.1.symm;have g4:(rid=18)=False:=eq_false hrow.2.1;have g5:(rid=nxk+5+4)=False:=eq_false (by have:=hrow.2.2.2.2;omega);have hlt:(u.length+1+1<=4294967296)=True:=eq_true (by simp only[List.length_cons] at w6;omega)
               refine Z1 (And.intro Bz.tb (And.intro hrow.1 (And.intro g1 (And.intro g2 (And.intro g3 (And.intro g4 (And.intro g5 hlt))))))) ?_;have v1:nw4 (nxl+8+3) 18 (nxk+5+4) (rid) (nxl+8+3)=1:=by simp[nw4]
               have v2:nw4 (nxl+8+3) 18 (nxk+5+4) (rid) 18=2:=by unfold nw4;rw[if_neg (Ne.symm Bz.tq),if_pos rfl]
               have v3:nw4 (nxl+8+3) 18 (nxk+5+4) (rid) (nxk+5+4)=3:=by unfold nw4;rw[if_neg (by have:=Bz.tn;omega),if_neg (by have:=Bz.a.qn;omega),if_pos rfl]
               have v4:nw4 (nxl+8+3) 18 (nxk+5+4) (rid) (rid)=4:=by unfold nw4;rw[if_neg (hrow.2.2.1),if_neg (hrow.2.1),if_neg (by have:=hrow.2.2.2.2;omega),if_pos rfl]
               refine fr_ (nw4 (nxl+8+3) 18 (nxk+5+4) (rid)) _ rfl (by simp only[List.reverse_cons,List.reverse_nil,List.nil_append,List.cons_append,List.map_cons,List.map_nil,mpS_f,mpS_s,v1,v2,v3,v4];rfl) ?_;generalize eU:(upd (nxl+8+3) (some _) _:Hp)=hpU
               have u1:hpU (nxl+8+3)=some (.bx [.v (.string r1.2),.so rid (rver+1) 0 (u.length+1+1)]):=by rw[<-eU,qd_]
               have u2:hpU (rid)=some (.rw (eGRel a::(u.map eGRel++[[.v (.string yy.2.name),.sl (yy.2.subs.map eGSub),.sl (yy.2.expr.map eGStep)]])) 3 (rver+1) false false):=by rw[<-eU,qb_ _ _ (hrow.2.2.1),qd_]
               have u3:∀j,j≠nxl+8+3->j≠rid->j≠nxk+5+4->hpU j=upd 18 (some (boxRd yy.1 false (ovD (vJ_ n zw) yy.2 ow))) (hpE 18 oid over (nxl+8+3) rid rver (boxRd zw false ow) ts r1.2 ((a::u))) j:=fun j h1 h2 h3=>by rw[<-eU,qb_ _ _ h1,qb_ _ _ h2,qb_ _ _ h3]
               have tn:=Bz.tn;have qn:=Bz.a.qn;have L9:PbI 18 oid over (nxl+8+3) (rid) (rver+1) false (ovD (vJ_ n zw) yy.2 ow) yy.1 ts r1.2 ((a::u)++[yy.2]) hpU (nxk+5+8):=by
                refine⟨⟨(u3 18 (Ne.symm Bz.tq) (Ne.symm hrow.2.1) (by omega)).trans (qd_ _ _ _),fun hs=> ?_,fun j hj=> ?_,by omega⟩,u1.trans (by simp[accV]),fun _=>⟨u2.trans (by simp),hrow.2.1,hrow.2.2.1,fun hs=> ?_,by have:=hrow.2.2.2.2;omega⟩,Bz.tq,Bz.to,by omega⟩
                ·have h1:=Bz.a.out hs
                 exact⟨(u3 oid (Bz.to hs).symm (fun e=>hrow.2.2.2.1 hs e.symm) (by have:=h1.2.2;omega)).trans (by rw[qb_ _ _ h1.2.1];exact h1.1),h1.2.1,by have:=h1.2.2;omega⟩
                ·exact(u3 j (by omega) (by have:=hrow.2.2.2.2;omega) (by omega)).trans (by rw[qb_ _ _ (by omega)];exact Bz.a.new j (by omega))
                ·exact hrow.2.2.2.1 hs
               exact⟨⟨(kk,yy.1,(a::u)++[yy.2],rid,rver+1,ovD (vJ_ n zw) yy.2 ow,nxk+5+8),L9.dis,tc_ how,(tg_ hyy).trans hwl,mw⟩,.weak ⟨qa_ rfl (qa_ rfl (qa_ rfl (qa_ rfl (qh_ _)))),fun i=>L9.toE i,Nat.le_refl _⟩,Nat.lt_succ_self kk⟩
      ·rintro⟨⟨rid,rver,ov2,hp9,nx9⟩,M,hov2,hql⟩
       obtain⟨qx,qr⟩:=q;dsimp only at M hov2 hql m;refine ZT 1 ?_;have tn:=M.tn;have qn:=M.a.qn;cases qr with
       |nil=>
        cases ts with
        |nil=>
         refine Z1 M.tb ?_;generalize eV:(upd (nx9+3) (some _) _:Hp)=hpV;have u2:hpV (nx9+3)=some (.rw ((([]++[(⟨r1.2,[]⟩:GType)]):List GType).map eGType) 2 (0) false false):=by rw[<-eV,qd_];simp
         have u3:∀j,j≠nx9+3->j≠nx9+2->hpV j=hp9 j:=fun j h1 h2=>by rw[<-eV,qb_ _ _ h1,qb_ _ _ h2]
         have PA:PaI 18 (nx9+3) (0) false ov2 qx ([]++[⟨r1.2,[]⟩]) hpV (nx9+5):=⟨(u3 18 (Ne.symm (by omega)) (by omega)).trans M.a.box,fun _=>⟨u2,by omega,by omega⟩,fun j hj=>(u3 j (by omega) (by omega)).trans (M.a.new j (by omega)),by omega⟩
         exact⟨⟨(k,qx,[]++[⟨r1.2,[]⟩],nx9+3,0,ov2,hpV,nx9+5),PA,hql,m,hov2⟩,wkI (qa_ rfl (qa_ rfl (qa_ (by simp[accV,upd]) (qh_ _)))),Nat.lt_succ_self k⟩
        |cons a u=>
         have hout:=M.a.out (by simp);have g1:(oid=nx9+2)=False:=eq_false (by omega);have hlt:(u.length+1+1<=4294967296)=True:=eq_true (by simp only[List.length_cons] at z6;omega);refine Z1 (And.intro M.tb (And.intro hout.1 (And.intro g1 hlt))) ?_;generalize eV:(upd (oid) (some _) _:Hp)=hpV
         have u2:hpV (oid)=some (.rw ((((a::u)++[(⟨r1.2,[]⟩:GType)]):List GType).map eGType) 2 (over+1) false false):=by rw[<-eV,qd_];simp
         have u3:∀j,j≠oid->j≠nx9+2->hpV j=hp9 j:=fun j h1 h2=>by rw[<-eV,qb_ _ _ h1,qb_ _ _ h2]
         have PA:PaI 18 (oid) (over+1) false ov2 qx ((a::u)++[⟨r1.2,[]⟩]) hpV (nx9+5):=⟨(u3 18 (Ne.symm (hout.2.1)) (by omega)).trans M.a.box,fun _=>⟨u2,hout.2.1,by have:=hout.2.2;omega⟩,fun j hj=>(u3 j (by have:=hout.2.2;omega) (by omega)).trans (M.a.new j (by omega)),by omega⟩
         exact⟨⟨(k,qx,(a::u)++[⟨r1.2,[]⟩],oid,over+1,ov2,hpV,nx9+5),PA,hql,m,hov2⟩,wkI (qa_ rfl (qa_ rfl (qa_ (by simp[accV,upd]) (qh_ _)))),Nat.lt_succ_self k⟩
       |cons b w=>
        have hrow:=M.row (by simp);cases ts with
        |nil=>
         have g2:(rid=nx9+2)=False:=eq_false (by omega);refine Z1 (And.intro M.tb (And.intro hrow.1 g2)) ?_;generalize eV:(upd (nx9+3) (some _) _:Hp)=hpV;have u2:hpV (nx9+3)=some (.rw ((([]++[(⟨r1.2,(b::w)⟩:GType)]):List GType).map eGType) 2 (0) false false):=by rw[<-eV,qd_];simp
         have u3:∀j,j≠nx9+3->j≠nx9+2->j≠rid->hpV j=hp9 j:=fun j h1 h2 h3=>by rw[<-eV,qb_ _ _ h1,qb_ _ _ h2,qb_ _ _ h3]
         have PA:PaI 18 (nx9+3) (0) false ov2 qx ([]++[⟨r1.2,(b::w)⟩]) hpV (nx9+5):=⟨(u3 18 (Ne.symm (by omega)) (by omega) (Ne.symm hrow.2.1)).trans M.a.box,fun _=>⟨u2,by omega,by omega⟩,fun j hj=>(u3 j (by omega) (by omega) (by have:=hrow.2.2.2.2;omega)).trans (M.a.new j (by omega)),by omega⟩
         exact⟨⟨(k,qx,[]++[⟨r1.2,(b::w)⟩],nx9+3,0,ov2,hpV,nx9+5),PA,hql,m,hov2⟩,wkI (qa_ rfl (qa_ rfl (qa_ (by simp[accV,upd]) (qh_ _)))),Nat.lt_succ_self k⟩
        |cons a u=>
         have hout:=M.a.out (by simp);have g1:(oid=nx9+2)=False:=eq_false (by omega);have g2:(rid=nx9+2)=False:=eq_false (by omega);have g3:(oid=rid)=False:=eq_false (fun e=>hrow.2.2.2.1 (by simp) e.symm);have hlt:(u.length+1+1<=4294967296)=True:=eq_true (by simp only[List.length_cons] at z6;omega)
         refine Z1 (And.intro M.tb (And.intro hrow.1 (And.intro hout.1 (And.intro g1 (And.intro g2 (And.intro g3 hlt)))))) ?_;generalize eV:(upd (oid) (some _) _:Hp)=hpV;have u2:hpV (oid)=some (.rw ((((a::u)++[(⟨r1.2,(b::w)⟩:GType)]):List GType).map eGType) 2 (over+1) false false):=by rw[<-eV,qd_];simp
         have u3:∀j,j≠oid->j≠nx9+2->j≠rid->hpV j=hp9 j:=fun j h1 h2 h3=>by rw[<-eV,qb_ _ _ h1,qb_ _ _ h2,qb_ _ _ h3]
         have PA:PaI 18 (oid) (over+1) false ov2 qx ((a::u)++[⟨r1.2,(b::w)⟩]) hpV (nx9+5):=⟨(u3 18 (Ne.symm (hout.2.1)) (by omega) (Ne.symm hrow.2.1)).trans M.a.box,fun _=>⟨u2,hout.2.1,by have:=hout.2.2;omega⟩,fun j hj=>(u3 j (by have:=hout.2.2;omega) (by omega) (by have:=hrow.2.2.2.2;omega)).trans (M.a.new j (by omega)),by omega⟩
         exact⟨⟨(k,qx,(a::u)++[⟨r1.2,(b::w)⟩],oid,over+1,ov2,hpV,nx9+5),PA,hql,m,hov2⟩,wkI (qa_ rfl (qa_ rfl (qa_ (by simp[accV,upd]) (qh_ _)))),Nat.lt_succ_self k⟩
end Go.Proofs.YtnmkbmefohakmaaGreat.Ab
