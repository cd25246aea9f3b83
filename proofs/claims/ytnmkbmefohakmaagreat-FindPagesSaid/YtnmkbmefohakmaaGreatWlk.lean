/-
 A schema's names are collected.
-/
import Derived.Test.YtnmkbmefohakmaaGreatPrh
namespace Go.Proofs.YtnmkbmefohakmaaGreat.Ab
open Go.RowKit
theorem conc_nil {hp:Hp}{nx:Nat}:InlOK Tryz.prog 167 [.v (.slice none 0 0)] hp nx fun v hp2 nx2=>v= .v (.slice none 0 0)/\hp2=hp/\nx<=nx2:=by
 refine qX_ qf_ Tryz.func167 (by rfl) (by kernel_rfl) (by kernel_rfl) (by exact Nat.le_of_ble_eq_true rfl) ?_;refine zsq (ZT 1 ?_);refine Z0 ?_;refine zsq (ZT 1 ?_);refine Z0 ?_;refine zsq (zsq ?_);refine ZT 1 ?_;refine Z0 ?_;refine zjn (α:={ k:Nat // nx<=k }) (fun k=>⟨upd 0 (.v (.slice none 0 0)) (upd 3 (.v (.int .i64 0)) noFr),hp,k.1⟩) ?_ ?_
 ·refine zbk ?_
  refine zlp (α:=Unit) (fun _=>⟨upd 0 (.v (.slice none 0 0)) (upd 3 (.v (.int .i64 0)) (upd 10 (.v (.int .i64 0)) (upd 11 (.v (.int .i64 0)) noFr))),hp,nx+5⟩) (fun _=>0) () ?_ ?_
  ·exact wkI (qa_ rfl (qa_ rfl (qa_ rfl (qa_ rfl (qh_ _)))))
  ·rintro⟨⟩
   refine zsq (ZT 1 ?_);refine Z0 ?_;refine zsq (ZT 1 ?_);refine Z0 ?_;exact⟨⟨_,by omega⟩,wkI (qa_ rfl (qa_ rfl (qh_ _)))⟩
 ·rintro⟨k,hk⟩
  refine zsq (ZT 1 ?_);refine Z0 ?_;refine qe_ ((p1_ (k:=0) (Nat.zero_le _)).mono ?_);rintro v hp2 nx2 ⟨hle,g0,g1⟩;dsimp only at hle g0 g1;obtain⟨rfl,rfl⟩:=g0 rfl;refine Z0 ?_;refine zsq (zsq ?_);refine ZT 1 ?_;refine Z0 ?_;refine zjn (α:={ k:Nat // nx<=k }) (fun k=>⟨upd 6 (.v (.slice none 0 0)) noFr,hp2,k.1⟩) ?_ ?_
  ·refine zbk ?_
   refine zlp (α:=Unit) (fun _=>⟨upd 6 (.v (.slice none 0 0)) (upd 26 (.v (.int .i64 0)) (upd 27 (.v (.int .i64 0)) noFr)),hp2,nx2+3⟩) (fun _=>0) () ?_ ?_
   ·exact wkI (qa_ rfl (qa_ rfl (qa_ rfl (qh_ _))))
   ·rintro⟨⟩
    refine zsq (ZT 1 ?_);refine Z0 ?_;refine zsq (ZT 1 ?_);refine Z0 ?_;exact⟨⟨_,by omega⟩,wkI (qa_ rfl (qh_ _))⟩
  ·rintro⟨k2,hk2⟩
   refine zsq (ZT 1 ?_);refine Z0 ?_;refine ZT 1 ?_;refine Z0 ?_;exact⟨_,_,rfl,⟨fun _=>.inr rfl⟩,rfl,rfl,by dsimp only;omega⟩
theorem steps_nil {hp:Hp}{nx:Nat}{x:AV}{t:ByteArray}{b:Bool}:InlOK Tryz.prog 141 [x,.v (.string t),.d (.sl []) b] hp nx fun v hp2 nx2=>v= .v (.slice none 0 0)/\hp2=hp/\nx<=nx2:=by
 refine qX_ qf_ Tryz.func141 (by rfl) (by kernel_rfl) (by kernel_rfl) (by exact Nat.le_of_ble_eq_true rfl) ?_;refine zsq (ZT 1 ?_);refine Z0 ?_;refine zsq (ZT 1 ?_);refine Z0 ?_;refine zsq (zsq ?_);refine ZT 1 ?_;refine Z0 ?_;refine zjn (α:={ k:Nat // nx<=k }) (fun k=>⟨upd 7 (.v (.slice none 0 0)) noFr,hp,k.1⟩) ?_ ?_
 ·refine zbk ?_
  refine zlp (α:=Unit) (fun _=>⟨upd 7 (.v (.slice none 0 0)) (upd 14 (.v (.int .i64 0)) (upd 15 (.v (.int .i64 0)) noFr)),hp,nx+5⟩) (fun _=>0) () ?_ ?_
  ·exact wkI (qa_ rfl (qa_ rfl (qa_ rfl (qh_ _))))
  ·rintro⟨⟩
   refine zsq (ZT 1 ?_);refine Z0 ?_;refine zsq (ZT 1 ?_);refine Z0 ?_;exact⟨⟨_,by omega⟩,wkI (qa_ rfl (qh_ _))⟩
 ·rintro⟨k,hk⟩
  refine zsq (ZT 1 ?_);refine Z0 ?_;refine qe_ (conc_nil.mono ?_);rintro v hp2 nx2 ⟨rfl,rfl,hle⟩;dsimp only at hle;refine Z0 ?_;refine ZT 1 ?_;refine Z0 ?_;exact⟨_,_,rfl,⟨fun _=>.inr rfl⟩,rfl,rfl,by dsimp only;omega⟩
theorem bw_ {id sz ver:Nat}{es:List (List D)}{hp:Hp}(h:es≠[]->hp id=some (.rw es sz ver false false))(i:Nat):accH id sz ver es noHp i=none\/accH id sz ver es noHp i=hp i:=by
 by_cases e:es≠[]/\i=id
 ·exact .inr (by rw[e.2,zN_ e.1,h e.1])
 ·exact .inl (by rw[xy_ fun hn hi=>e ⟨hn,hi⟩];rfl)
def vu_:List GSub->List WellWay
 |[]=>[]
 |s::r=>if s.rel.toList==ByteArray.empty.toList then vu_ r else⟨⟨s.type_,s.rel⟩,0⟩::vu_ r
theorem v8_ (s:GSub)(r:List GSub):vu_ (s::r)=if s.rel.toList==ByteArray.empty.toList then vu_ r else⟨⟨s.type_,s.rel⟩,0⟩::vu_ r:=rfl
def fC_ (n:Nat)(S:WellSchema)(m:WellName):Option (List WellWay):=
 match qk_ m ⟨ByteArray.empty,[],[]⟩ S.rels with
 |⟨_,ss,[]⟩=>if ss.length<=1000000 then some (vu_ ss) else none
 |⟨_,[],e::r⟩=>jH_ n S m.typ (e::r)
 |_=>none
theorem aa_ {n:Nat}{S:WellSchema}{m:WellName}{r:List WellWay}(h:fC_ n S m=some r):PureOK Tryz.prog 114 [D.pt (eWellSchema S) 0,D.ag (eWellName m)] (D.sl (r.map eWellWay)) true:=by
 obtain⟨a,b⟩:=m;refine ZP qf_ fol (rs:= #[.tmp 4]) Tryz.func114 ?_;refine zsq (ZT 1 ?_);refine Z0 ?_;refine zsq (ZT 1 ?_)
 have h1:j6_ (true,[.string,.string]) (.agg #[.string a,.string b]) (.d (.ag [.v (.string ByteArray.empty),.sl [],.sl []]) true) false (xt_ true (qi_ qc_ true eGRel S.rels))=some (.d (.ag (eGRel (qk_ (⟨a,b⟩:WellName) (⟨ByteArray.empty,[],[]⟩:GRel) S.rels))) true,[]):=lookD (b:=true) (ag:=true) (enc:=eGRel) jn_ (⟨a,b⟩:WellName) ((⟨ByteArray.empty,[],[]⟩:GRel):GRel) false S.rels
 unfold fC_ at h;generalize qk_ (⟨a,b⟩:WellName) (⟨ByteArray.empty,[],[]⟩:GRel) S.rels=g at h h1;obtain⟨gn,gs,ge⟩:=g;refine Z1 h1 ?_;refine qj_ (by rfl) ?_;refine Z1 h1 ?_;cases ge with
 |nil=>
  dsimp only at h;split at h;rotate_left
  ·cases h
  rename_i hlen;cases h;refine zsq (ZT 1 ?_);refine Z0 ?_;refine qe_ (steps_nil.mono ?_);rintro v hp2 nx2 ⟨rfl,rfl,hle⟩;dsimp only at hle;refine Z0 ?_;refine zsq (zsq ?_);refine ZT 1 ?_;refine Z0 ?_
  refine zjn (α:={ t:Nat × Nat × Nat // vu_ gs≠[]->t.1<t.2.2 }) (fun t=>⟨upd 6 (accV t.1.1 t.1.2.1 ((vu_ gs).map eWellWay)) noFr,accH t.1.1 3 t.1.2.1 ((vu_ gs).map eWellWay) noHp,t.1.2.2⟩) ?_ ?_
  ·refine zbk ?_
   refine zlp (α:={ t:Nat × List WellWay × Nat × Nat × Nat // t.1<=gs.length/\t.2.1++vu_ (gs.drop t.1)=vu_ gs/\t.2.1.length<=t.1/\(t.2.1≠[]->t.2.2.1<t.2.2.2.2) })
    (fun t=>⟨upd 6 (accV t.1.2.2.1 t.1.2.2.2.1 (t.1.2.1.map eWellWay)) (upd 22 (.d (.sl (gs.map eGSub)) true) (upd 23 (.v (.int .i64 (gs.length:Int))) (upd 24 (.v (.int .i64 (t.1.1:Int))) noFr))),accH t.1.2.2.1 3 t.1.2.2.2.1 (t.1.2.1.map eWellWay) noHp,t.1.2.2.2.2⟩) (fun t=>gs.length-t.1.1)
    ⟨(0,[],0,0,nx2+5),Nat.zero_le _,rfl,Nat.le_refl _,fun hn=>absurd rfl hn⟩ ?_ ?_
   ·exact .weak ⟨qa_ rfl (qa_ rfl (qa_ rfl (qa_ rfl (qh_ _)))),fun _=>.inl rfl,by dsimp only;omega⟩
   ·rintro⟨⟨i,out,oid,over,nxi⟩,hi,ho,hl,hid⟩
    dsimp only at hi ho hl hid;refine zsq (ZT 1 ?_);by_cases hlt:i<gs.length
    ·have c1:(decide ((i:Int)<(gs.length:Int)))=true:=decide_eq_true (by omega)
     have e1:gs[i]? =some gs[i]:=List.getElem?_eq_getElem hlt;have e2:(gs.map eGSub)[i]? =some (eGSub gs[i]):=qn_ eGSub e1;have ed:gs.drop i=gs[i]::gs.drop (i+1):=List.drop_eq_getElem_cons hlt;refine Z1 c1 ?_;refine zsq (ZT 1 ?_);refine Z0 ?_
     refine zsq (zjn (α:={ t:List WellWay × Nat × Nat × Nat // t.1++vu_ (gs.drop (i+1))=vu_ gs/\t.1.length<=i+1/\(t.1≠[]->t.2.1<t.2.2.2) }) (fun t=>⟨upd 6 (accV t.1.2.1 t.1.2.2.1 (t.1.1.map eWellWay)) (upd 22 (.d (.sl (gs.map eGSub)) true) (upd 23 (.v (.int .i64 (gs.length:Int))) (upd 24 (.v (.int .i64 (i:Int))) noFr))),accH t.1.2.1 3 t.1.2.2.1 (t.1.1.map eWellWay) noHp,t.1.2.2.2⟩) ?_ ?_)
     ·refine zbk ?_
      refine zsq (ZT 1 ?_);have w:=And.intro e2 (And.intro (zno .i64 (show(0:Int)<=(i:Int) by omega)) (show((i:Int)).toNat=i from Int.toNat_natCast _));refine Z1 w ?_;refine zsq (ZT 1 ?_);refine Z0 ?_;cases hr:(gs[i].rel.toList==ByteArray.empty.toList) with
      |true=>
       have hr2:(gs[i].rel.toList==({ data:= #[] }:ByteArray).toList)=true:=hr;refine ZT 1 ?_;refine Z1 hr2 ?_;refine⟨⟨(out,oid,over,nxi+1+4+3),?_,Nat.le_succ_of_le hl,fun hn=>by have:=hid hn;dsimp only;omega⟩,.weak ⟨qa_ rfl (qa_ rfl (qa_ rfl (qa_ rfl (qh_ _)))),bw_ fun hn=> ?_,by dsimp only;omega⟩⟩
       ·rw[ed,v8_,hr,if_pos rfl] at ho
        exact ho
       ·have:=hid (by simpa using hn)
        dsimp only;rw[qb_ _ _ (by omega),qb_ _ _ (by omega),zN_ hn]
      |false=>
       have hr2:(gs[i].rel.toList==({ data:= #[] }:ByteArray).toList)=false:=hr;rw[ed,v8_,hr,if_neg (by decide)] at ho;generalize eA:(upd (nxi+1+2) (some _) _:Hp)=hpA;have a1:hpA (nxi+1+2)=some (.bx [.v (.string gs[i].type_),.v (.string gs[i].id_),.v (.string gs[i].rel)]):=by rw[<-eA,qd_]
       have a2:out≠[]->hpA oid=some (.rw (out.map eWellWay) 3 over false false):=fun hn=>by
        have:=hid hn
        rw[<-eA,qb_ _ _ (by omega),qb_ _ _ (by omega),zN_ (by simpa using hn)]
       refine ZT 1 ?_;cases out with
       |nil=>
        refine Z1 (And.intro hr2 a1) ?_;refine⟨⟨([⟨⟨gs[i].type_,gs[i].rel⟩,0⟩],nxi+1+4+3+8,0,nxi+1+4+3+10),ho,by simp,fun _=>by dsimp only;omega⟩,.weak ⟨qa_ rfl (qa_ rfl (qa_ rfl (qa_ rfl (qh_ _)))),?_,by dsimp only;omega⟩⟩;dsimp only;exact bw_ fun hn=>qd_ _ _ _
       |cons b u=>
        have a3:=a2 (by simp);have i3:=hid (by simp);have g1:(u.length+1+1<=4294967296)=True:=eq_true (by simp only[List.length_cons] at hl;omega);have g2:(oid=nxi+1+4+3+7)=False:=eq_false (by omega);refine Z1 (And.intro hr2 (And.intro a1 (And.intro a3 (And.intro g1 g2)))) ?_
        refine⟨⟨((b::u)++[⟨⟨gs[i].type_,gs[i].rel⟩,0⟩],oid,over+1,nxi+1+4+3+10),by rw[List.append_assoc];exact ho,by rw[List.length_append,List.length_singleton];omega,fun _=>by dsimp only;omega⟩,.weak ⟨qa_ (by simp[accV,upd]) (qa_ rfl (qa_ rfl (qa_ rfl (qh_ _)))),?_,by dsimp only;omega⟩⟩;dsimp only;exact bw_ fun hn=>(qd_ _ _ _).trans (by simp)
     ·rintro⟨⟨out2,oid2,over2,nxj⟩,ho2,hl2,hid2⟩
      refine ZT 1 ?_;refine Z1 (w64a (n:=i) (by omega)) ?_;exact⟨⟨(i+1,out2,oid2,over2,nxj+2),hlt,ho2,hl2,fun hn=>Nat.lt_of_lt_of_le (hid2 hn) (Nat.le_add_right _ _)⟩,wkI (qa_ rfl (qa_ rfl (qa_ rfl (qa_ rfl (qh_ _))))),by dsimp only;omega⟩
    ·have c1:(decide ((i:Int)<(gs.length:Int)))=false:=decide_eq_false (by omega)
     obtain rfl:i=gs.length:=by omega
     rw[List.drop_length] at ho;rw[show vu_ ([]:List GSub)= [] from rfl,List.append_nil] at ho;subst ho;refine Z1 c1 ?_;refine zsq (ZT 1 ?_);refine Z0 ?_;exact⟨⟨(oid,over,_),fun hn=>Nat.lt_of_lt_of_le (hid hn) (Nat.le_add_right _ _)⟩,wkI (qa_ rfl (qh_ _))⟩
  ·rintro⟨⟨oid,over,nxj⟩,hid⟩
   refine zsq (ZT 1 ?_);refine Z0 ?_;refine ZT 1 ?_;refine Z0 ?_;generalize vu_ gs=out;cases out with
   |nil=>exact ZE0
   |cons a r=>
    refine xM_ (v:=accV oid over ((a::r).map eWellWay)) (b:=false) (is:=[oid]) (by simp -implicitDefEqProofs only[go_sem, ↓reduceIte,qd_]<;>rfl) ?_ rfl fun _=>rfl;simp[toR,toD,toD1,accV,zN_,gW_]
 |cons e re=>
  cases gs with
  |cons a u=>cases h
  |nil=>
   dsimp only at h;refine zsq (ZT 1 ?_);refine Z0 ?_;refine ZC0 (wd_ h) ?_;refine Z0 ?_;refine zsq (zsq ?_);refine ZT 1 ?_;refine Z0 ?_;refine zjn (α:=Unit) (fun _=>⟨upd 6 (.d (.sl (r.map eWellWay)) false) noFr,noHp,30⟩) ?_ ?_
   ·refine zbk ?_
    refine zlp (α:=Unit) (fun _=>⟨upd 6 (.d (.sl (r.map eWellWay)) false) (upd 23 (.v (.int .i64 0)) (upd 24 (.v (.int .i64 0)) noFr)),noHp,29⟩) (fun _=>0) () ?_ ?_
    ·exact .weak ⟨qa_ rfl (qa_ rfl (qa_ rfl (qh_ _))),fun _=>.inl rfl,by dsimp only;omega⟩
    ·rintro⟨⟩
     refine zsq (ZT 1 ?_);refine Z0 ?_;refine zsq (ZT 1 ?_);refine Z0 ?_;exact⟨(),.weak ⟨qa_ rfl (qh_ _),fun _=>.inl rfl,by dsimp only;omega⟩⟩
   ·rintro⟨⟩
    refine zsq (ZT 1 ?_);refine Z0 ?_;refine ZT 1 ?_;refine Z0 ?_;exact ZE0
def cR (g:GRel):List AV:=[.v (.string g.name),.d (.sl (g.subs.map eGSub)) true,.d (.sl (g.expr.map eGStep)) true]
def vR (g:GRel):AV:=.ag (cR g)
def zR:List AV:=[.v (.string ByteArray.empty),.v (.slice none 0 0),.v (.slice none 0 0)]
theorem p2_ {K V:Type}[BEq K]{q:Bool × List TK}{kv:K->Value}{ev:V->AV}(hk:KeyE q kv)(k:K)(z:AV)(ok:Bool)(m:List (K × V)):j6_ q (kv k) z ok (encM kv ev m)=some (if ok then .tu [(match mget k m with |some w=>ev w |none=>z),.v (.bool (mhas k m))] else(match mget k m with |some w=>ev w |none=>z),[]):=by
 obtain⟨o,h1,h2,h3⟩:=xS_ (ev:=ev) hk k m;unfold j6_;rw[h1];cases hm:mget k m with
 |none=>
  obtain⟨e1,e2⟩:=h3 hm;subst e1;simp[mhas,hm]
 |some w=>
  obtain⟨i,e1,e2⟩:=h2 w hm;subst e1;simp[mhas,hm]
def oR:Option GRel->List AV
 |some g=>cR g
 |none=>zR
section
variable {hp:Hp}{nx q m1 m2 m3:Nat}{R:List (WellName × GRel)}
theorem c5_ {a b:ByteArray}{dl:Bool}(hf:∀j,nx<=j->hp j=none)(hq:hp q=some (.bx [.mo m1,.mo m2,.mo m3]))(hm:hp m2=some (.mo (encM qc_ vR R) dl)):
  InlOK Tryz.prog 65 [.pt q 0,.v (.string a),.v (.string b)] hp nx fun v hp2 nx2=>v= .tu [.ag (oR (mget ⟨a,b⟩ R)),.v (.bool (mhas ⟨a,b⟩ R))]/\hp2=hp/\nx<=nx2:=by
 have hqn:=qm_ hf hq;have hmn:=qm_ hf hm;refine qN_ qf_ fol Tryz.func65 (by rfl) (by kernel_rfl) (by kernel_rfl) (by exact Nat.le_of_ble_eq_true rfl) ?_;have f1:(q=nx)=False:=eq_false (by omega);have f2:(m2=nx)=False:=eq_false (by omega);have f3:(nx=nx+2+11)=False:=eq_false (by omega)
 have hl:j6_ (true,[.string,.string]) (.agg #[.string a,.string b]) (.ag zR) true (encM qc_ vR R)=some (.tu [(.ag (oR (mget ⟨a,b⟩ R))),.v (.bool (mhas ⟨a,b⟩ R))],[]):=by
  refine(p2_ jn_ ⟨a,b⟩ (.ag zR) true R).trans ?_;cases mget (⟨a,b⟩:WellName) R<;>rfl
 unfold zR at hl;generalize mhas (⟨a,b⟩:WellName) R=bo at hl⊢;generalize mget (⟨a,b⟩:WellName) R=g at hl⊢;cases g with
 |none=>
  unfold oR zR at hl⊢;refine Z1 (And.intro f3 (And.intro f1 (And.intro f2 (And.intro hq (And.intro hm hl))))) ?_;refine⟨_,hp,by simp -implicitDefEqProofs only[go_sem, ↓reduceIte,Tryz.f65,qd_,Nat.reduceEqDiff]<;>rfl,⟨fun i=> ?_⟩,rfl,rfl,by dsimp only;omega⟩;by_cases h:i<nx
  ·exact .inr (by dsimp only;repeat rw[qb_ _ _ (by omega)])
  ·exact .inl (hf i (by omega))
 |some g=>
  unfold oR cR at hl⊢;refine Z1 (And.intro f3 (And.intro f1 (And.intro f2 (And.intro hq (And.intro hm hl))))) ?_;refine⟨_,hp,by simp -implicitDefEqProofs only[go_sem, ↓reduceIte,Tryz.f65,qd_,Nat.reduceEqDiff]<;>rfl,⟨fun i=> ?_⟩,rfl,rfl,by dsimp only;omega⟩;by_cases h:i<nx
  ·exact .inr (by dsimp only;repeat rw[qb_ _ _ (by omega)])
  ·exact .inl (hf i (by omega))
end
def uV_ (a:ByteArray):List GRel->List (WellName × GRel)->List (WellName × GRel) × Bool
 |[],R=>(R,false)
 |g::r,R=>if mhas ⟨a,g.name⟩ R then(R,true) else uV_ a r (mset ⟨a,g.name⟩ g R)
def za_:List GType->List (ByteArray × Int)->List (WellName × GRel)->List (ByteArray × Int) × List (WellName × GRel) × Int
 |[],T,R=>(T,R,0)
 |t::r,T,R=>if decide (0<qk_ t.name 0 T) then(T,R,11) else(fun p=>if p.2 then(mset t.name 1 T,p.1,11) else za_ r (mset t.name 1 T) p.1) (uV_ t.name t.rels R)
def hpC (m1 m2:Nat)(T:List (ByteArray × Int))(R:List (WellName × GRel))(hp:Hp):Hp:=upd m2 (some (.mo (encM qc_ vR R) false)) (upd m1 (some (.mo (encM .string vI T) false)) hp)
section
variable {hp:Hp}{nx q m1 m2 m3:Nat}
set_option maxRecDepth 8000 in
theorem c8_ {l:List GType}{T0 T1:List (ByteArray × Int)}{R0 R1:List (WellName × GRel)}{e:Int}(hf:∀j,nx<=j->hp j=none)(hl:l.length<1000000)(hrl:∀t∈l,t.rels.length<1000000)(hq:hp q=some (.bx [.mo m1,.mo m2,.mo m3]))(hm1:hp m1=some (.mo (encM .string vI T0) false))(hm2:hp m2=some (.mo (encM qc_ vR R0) false))(hd1:q≠m1)(hd2:q≠m2)(hd3:m1≠m2)(h:za_ l T0 R0=(T1,R1,e)):
  InlOK Tryz.prog 88 [.pt q 0,.d (.sl (l.map eGType)) true] hp nx fun v hp2 nx2=>v= .v (.int .i64 e)/\hp2=hpC m1 m2 T1 R1 hp/\nx<=nx2:=by
 have hqn:=qm_ hf hq;have hmn1:=qm_ hf hm1;have hmn2:=qm_ hf hm2;have C1:∀(T:List (ByteArray × Int)) (R:List (WellName × GRel)),hpC m1 m2 T R hp m1=some (.mo (encM .string vI T) false):=fun T R=>by unfold hpC;rw[qb_ _ _ hd3,qd_]
 have C2:∀(T:List (ByteArray × Int)) (R:List (WellName × GRel)),hpC m1 m2 T R hp m2=some (.mo (encM qc_ vR R) false):=fun T R=>qd_ _ _ _;have Cq:∀(T:List (ByteArray × Int)) (R:List (WellName × GRel)),hpC m1 m2 T R hp q=some (.bx [.mo m1,.mo m2,.mo m3]):=fun T R=>by unfold hpC;rw[qb_ _ _ hd2,qb_ _ _ hd1];exact hq
 have Cf:∀(T:List (ByteArray × Int)) (R:List (WellName × GRel)) (j:Nat),nx<=j->hpC m1 m2 T R hp j=none:=fun T R j hj=>by unfold hpC;rw[qb_ _ _ (by omega),qb_ _ _ (by omega)];exact hf j hj
 refine qX_ qf_ Tryz.func88 (by rfl) (by kernel_rfl) (by kernel_rfl) (by exact Nat.le_of_ble_eq_true rfl) ?_;refine zsq (ZT 1 ?_);refine Z0 ?_;refine zsq (zsq ?_);refine ZT 1 ?_;refine Z0 ?_;refine zbk ?_;refine zlp (α:={ t:Nat × List (ByteArray × Int) × List (WellName × GRel) × Nat // t.1<=l.length/\nx<=t.2.2.2/\za_ (l.drop t.1) t.2.1 t.2.2.1=(T1,R1,e) })
  (fun t=>⟨upd 0 (.pt q 0) (upd 11 (.d (.sl (l.map eGType)) true) (upd 12 (.v (.int .i64 (l.length:Int))) (upd 13 (.v (.int .i64 (t.1.1:Int))) noFr))),hpC m1 m2 t.1.2.1 t.1.2.2.1 hp,t.1.2.2.2⟩) (fun t=>l.length-t.1.1)
  ⟨(0,T0,R0,nx+4),Nat.zero_le _,Nat.le_add_right _ _,h⟩ ?_ ?_
 ·refine wkH ?_ (qa_ rfl (qa_ rfl (qa_ rfl (qa_ rfl (qh_ _)))))
  unfold hpC;dsimp only;rw[qQ_ hm1,qQ_ hm2]
 ·rintro⟨⟨i,T,R,nxi⟩,hi,hn,hc⟩
  dsimp only at hi hn hc;refine zsq (ZT 1 ?_);by_cases hlt:i<l.length
  ·have c1:(decide ((i:Int)<(l.length:Int)))=true:=decide_eq_true (by omega)
   have e1:l[i]? =some l[i]:=List.getElem?_eq_getElem hlt;have ed:l.drop i=l[i]::l.drop (i+1):=List.drop_eq_getElem_cons hlt;have hrt:=hrl _ (List.getElem_mem hlt);rw[ed] at hc;generalize l[i]=ty at e1 hc hrt;have e2:(l.map eGType)[i]? =some (eGType ty):=qn_ eGType e1;unfold za_ at hc;refine Z1 c1 ?_;refine zsq (ZT 1 ?_);refine Z0 ?_;refine zsq (zbk ?_)
   refine zsq (ZT 1 ?_);have w:=And.intro e2 (And.intro (zno .i64 (show(0:Int)<=(i:Int) by omega)) (show((i:Int)).toNat=i from Int.toNat_natCast _));refine Z1 w ?_;generalize eA:(upd (nxi+1+2) (some _) _:Hp)=hpA;have aq:hpA q=some (.bx [.mo m1,.mo m2,.mo m3]):=by rw[<-eA,qb_ _ _ (by omega),qb_ _ _ (by omega)];exact Cq T R
   have a1:hpA m1=some (.mo (encM .string vI T) false):=by rw[<-eA,qb_ _ _ (by omega),qb_ _ _ (by omega)];exact C1 T R
   have a2:hpA m2=some (.mo (encM qc_ vR R) false):=by rw[<-eA,qb_ _ _ (by omega),qb_ _ _ (by omega)];exact C2 T R
   have at_:hpA (nxi+1+2)=some (.bx [.v (.string ty.name),.d (.sl (ty.rels.map eGRel)) true]):=by rw[<-eA,qd_]
   have aa:∀j,j≠nxi+1+2->hpA j=hpC m1 m2 T R hp j:=fun j h1=>by rw[<-eA,qb_ _ _ h1,qb_ _ _ h1]
   refine zsq (zsq ?_);refine ZT 1 ?_;cases ht:decide (0<qk_ ty.name 0 T) with
   |true=>
    rw[ht,if_pos rfl] at hc;simp only[Prod.mk.injEq] at hc;obtain⟨rfl,rfl,rfl⟩:=hc;refine Z1 (And.intro aq (And.intro a1 (And.intro at_ ht))) ?_;refine qj_ (by rfl) ?_;refine Z0 ?_;refine qs_ (c:=true) rfl rfl ?_;refine zsq (ZT 1 ?_);refine Z0 ?_;refine ZT 1 ?_;refine Z0 ?_;refine⟨_,hpC m1 m2 T R hp,rfl,⟨fun j=> ?_⟩,rfl,rfl,by dsimp only;omega⟩;by_cases hj:j=nxi+1+2
    ·exact .inl (Cf T R j (by omega))
    ·exact .inr (aa j hj).symm
   |false=>
    rw[ht,if_neg (by decide)] at hc;refine Z1 (And.intro aq (And.intro a1 (And.intro at_ ht))) ?_;refine qj_ (by rfl) ?_;refine Z0 ?_;refine qg_ (c:=false) rfl rfl ?_;refine ZT 1 ?_;refine Z0 ?_;refine zsq (ZT 1 ?_);have f1:(m1=nxi+1+2)=False:=eq_false (by omega);refine Z1 (And.intro aq (And.intro a1 (And.intro at_ f1))) ?_
    have v1:nw4 q m1 (nxi+1+2) m2 q=1:=by simp[nw4]
    have v2:nw4 q m1 (nxi+1+2) m2 m1=2:=by unfold nw4;rw[if_neg hd1.symm,if_pos rfl]
    have v3:nw4 q m1 (nxi+1+2) m2 (nxi+1+2)=3:=by unfold nw4;rw[if_neg (by omega),if_neg (by omega),if_pos rfl]
    refine x2_ (nw4 q m1 (nxi+1+2) m2) _ rfl (by simp only[List.reverse_cons,List.reverse_nil,List.nil_append,List.cons_append,List.map_cons,List.map_nil,vL_,v1,v2,v3];rfl) (by rfl) ?_;refine Z0 ?_;refine zsq (ZT 1 ?_);obtain⟨tb,etb⟩:∃tb,tb=nxi+1+2:=⟨_,rfl⟩;obtain⟨T',eT'⟩:∃T',T'=mset ty.name 1 T:=⟨_,rfl⟩;rw[<-eT'] at hc⊢;rw[<-etb] at at_ aa f1⊢
    have htn:tb<nxi+1+4+8+7:=by omega
    have ht1:tb≠m1:=by omega
    have ht2:tb≠m2:=by omega
    have htq:tb≠q:=by omega
    have hB:(upd m1 (some (.mo (encM .string vI T') false)) hpA:Hp)=upd tb (some (.bx [.v (.string ty.name),.d (.sl (ty.rels.map eGRel)) true])) (hpC m1 m2 T' R hp):=by
     funext k;by_cases h1:k=tb
     ·rw[h1,qb_ _ _ ht1,at_,qd_]
     ·rw[qb_ _ _ h1]
      by_cases h2:k=m1
      ·rw[h2,qd_,C1]
      ·rw[qb_ _ _ h2,aa k h1]
       unfold hpC;by_cases h3:k=m2
       ·rw[h3,qd_,qd_]
       ·rw[qb_ _ _ h3,qb_ _ _ h3,qb_ _ _ h2,qb_ _ _ h2]
    rw[hB];refine Z1 (qd_ tb (some (.bx [.v (.string ty.name),.d (.sl (ty.rels.map eGRel)) true])) (hpC m1 m2 T' R hp)) ?_;refine zbk ?_
    refine zlp (α:={ t:Nat × List (WellName × GRel) × Nat // t.1<=ty.rels.length/\nx<=t.2.2/\tb<t.2.2/\(fun p:List (WellName × GRel) × Bool=>if p.2 then(T',p.1,11) else za_ (l.drop (i+1)) T' p.1) (uV_ ty.name (ty.rels.drop t.1) t.2.1)=(T1,R1,e) })
     (fun t=>⟨upd 0 (.pt q 0) (upd 6 (.pt tb 0) (upd 11 (.d (.sl (l.map eGType)) true) (upd 12 (.v (.int .i64 (l.length:Int))) (upd 13 (.v (.int .i64 (i:Int))) (upd 32 (.d (.sl (ty.rels.map eGRel)) true) (upd 33 (.v (.int .i64 (ty.rels.length:Int))) (upd 34 (.v (.int .i64 (t.1.1:Int))) noFr))))))),upd tb (some (.bx [.v (.string ty.name),.d (.sl (ty.rels.map eGRel)) true])) (hpC m1 m2 T' t.1.2.1 hp),t.1.2.2⟩) (fun t=>ty.rels.length-t.1.1)
     ⟨(0,R,nxi+1+4+8+7+4),Nat.zero_le _,by dsimp only;omega,by dsimp only;omega,hc⟩ ?_ ?_
    ·exact wkI (qa_ rfl (qa_ rfl (qa_ rfl (qa_ rfl (qa_ rfl (qa_ rfl (qa_ rfl (qa_ rfl (qh_ _)))))))))
    ·rintro⟨⟨j,R',nxj⟩,hj,hnj,htj,hcj⟩
     dsimp only at hj hnj htj hcj;refine zsq (ZT 1 ?_);by_cases hjl:j<ty.rels.length
     ·have c2:(decide ((j:Int)<(ty.rels.length:Int)))=true:=decide_eq_true (by omega)
      have e3:ty.rels[j]? =some ty.rels[j]:=List.getElem?_eq_getElem hjl;have ed2:ty.rels.drop j=ty.rels[j]::ty.rels.drop (j+1):=List.drop_eq_getElem_cons hjl;rw[ed2] at hcj;generalize ty.rels[j]=g at e3 hcj;have e4:(ty.rels.map eGRel)[j]? =some (eGRel g):=qn_ eGRel e3;refine Z1 c2 ?_;refine zsq (ZT 1 ?_);refine Z0 ?_;refine zsq (zbk ?_);refine zsq (ZT 1 ?_)
      have w2:=And.intro e4 (And.intro (zno .i64 (show(0:Int)<=(j:Int) by omega)) (show((j:Int)).toNat=j from Int.toNat_natCast _));refine Z1 w2 ?_;generalize eD:(upd (nxj+1+2) (some _) _:Hp)=hpD;have dq:hpD q=some (.bx [.mo m1,.mo m2,.mo m3]):=by rw[<-eD,qb_ _ _ (by omega),qb_ _ _ (by omega),qb_ _ _ htq.symm];exact Cq T' R'
      have d2:hpD m2=some (.mo (encM qc_ vR R') false):=by rw[<-eD,qb_ _ _ (by omega),qb_ _ _ (by omega),qb_ _ _ ht2.symm];exact C2 T' R'
      have dt:hpD tb=some (.bx [.v (.string ty.name),.d (.sl (ty.rels.map eGRel)) true]):=by rw[<-eD,qb_ _ _ (by omega),qb_ _ _ (by omega),qd_]
      have dr:hpD (nxj+1+2)=some (.bx (cR g)):=by rw[<-eD,qd_];rfl
      have da:∀k,k≠nxj+1+2->hpD k=upd tb (some (.bx [.v (.string ty.name),.d (.sl (ty.rels.map eGRel)) true])) (hpC m1 m2 T' R' hp) k:=fun k h1=>by rw[<-eD,qb_ _ _ h1,qb_ _ _ h1]
      have df:∀k,nxj+1+4<=k->hpD k=none:=fun k hk=>by rw[da k (by omega),qb_ _ _ (by omega)];exact Cf T' R' k (by omega)
      unfold cR at dr;refine zsq (zsq ?_);refine ZT 1 ?_;refine Z1 (And.intro dq (And.intro dt dr)) ?_;refine qe_ ((c5_ (a:=ty.name) (b:=g.name) (fun k hk=>df k (by dsimp only at hk;omega)) dq d2).mono ?_);rintro v hpE nxe ⟨rfl,rfl,hle⟩;dsimp only at hle;unfold uV_ at hcj;cases hg:mget (⟨ty.name,g.name⟩:WellName) R' with
      |some g0=>
       have hh:mhas (⟨ty.name,g.name⟩:WellName) R'=true:=by unfold mhas;rw[hg];rfl
       rw[hh,if_pos rfl,if_pos rfl] at hcj;simp only[Prod.mk.injEq] at hcj;obtain⟨rfl,rfl,rfl⟩:=hcj;unfold oR cR;refine Z1 hh ?_;refine zsq (ZT 1 ?_);refine Z0 ?_;refine qs_ (c:=true) rfl rfl ?_;refine zsq (ZT 1 ?_);refine Z0 ?_;refine ZT 1 ?_;refine Z0 ?_;refine⟨_,hpC m1 m2 T' R' hp,rfl,⟨fun k=> ?_⟩,rfl,rfl,by dsimp only;omega⟩;by_cases hk:k<nx
       ·refine .inr ?_
        dsimp only;rw[qb_ _ _ (by omega),qb_ _ _ (by omega),da k (by omega),qb_ _ _ (by omega)]
       ·exact .inl (Cf T' R' k (by omega))
      |none=>
       have hh:mhas (⟨ty.name,g.name⟩:WellName) R'=false:=by unfold mhas;rw[hg];rfl
       simp only[hh,Bool.false_eq_true, ↓reduceIte] at hcj;unfold oR zR;refine Z1 hh ?_;refine zsq (ZT 1 ?_);refine Z0 ?_;refine qg_ (c:=false) rfl rfl ?_;refine ZT 1 ?_;refine Z0 ?_;refine ZT 1 ?_;generalize eF:(upd (nxj+1+4+9) (some _) _:Hp)=hpF;have fq:hpF q=some (.bx [.mo m1,.mo m2,.mo m3]):=by rw[<-eF,qb_ _ _ (by omega),qb_ _ _ (by omega)];exact dq
       have f2:hpF m2=some (.mo (encM qc_ vR R') false):=by rw[<-eF,qb_ _ _ (by omega),qb_ _ _ (by omega)];exact d2
       have ft:hpF tb=some (.bx [.v (.string ty.name),.d (.sl (ty.rels.map eGRel)) true]):=by rw[<-eF,qb_ _ _ (by omega),qb_ _ _ (by omega)];exact dt
       have fr:hpF (nxj+1+2)=some (.bx [.v (.string g.name),.d (.sl (g.subs.map eGSub)) true,.d (.sl (g.expr.map eGStep)) true]):=by rw[<-eF,qb_ _ _ (by omega),qb_ _ _ (by omega)];exact dr
       have fa:∀k,k<nxj->hpF k=upd tb (some (.bx [.v (.string ty.name),.d (.sl (ty.rels.map eGRel)) true])) (hpC m1 m2 T' R' hp) k:=fun k h1=>by rw[<-eF,qb_ _ _ (by omega),qb_ _ _ (by omega)];exact da k (by omega)
       have hput:mput (true,[.string,.string]) (.agg #[.string ty.name,.string g.name]) (.ag [.v (.string g.name),.d (.sl (g.subs.map eGSub)) true,.d (.sl (g.expr.map eGStep)) true]) (encM qc_ vR R')=some (encM qc_ vR (mset ⟨ty.name,g.name⟩ g R')):=k8_ (ev:=vR) jn_ ⟨ty.name,g.name⟩ g R';refine Z1 (And.intro fq (And.intro f2 (And.intro ft (And.intro fr hput)))) ?_
       have v1:nw4 q m2 tb (nxj+1+2) q=1:=by simp[nw4]
       have v2:nw4 q m2 tb (nxj+1+2) m2=2:=by unfold nw4;rw[if_neg hd2.symm,if_pos rfl]
       have v3:nw4 q m2 tb (nxj+1+2) tb=3:=by unfold nw4;rw[if_neg htq,if_neg ht2,if_pos rfl]
       have v4:nw4 q m2 tb (nxj+1+2) (nxj+1+2)=4:=by unfold nw4;rw[if_neg (by omega),if_neg (by omega),if_neg (by omega),if_pos rfl]
       refine x2_ (nw4 q m2 tb (nxj+1+2)) _ rfl (by simp only[List.reverse_cons,List.reverse_nil,List.nil_append,List.cons_append,List.map_cons,List.map_nil,vL_,v1,v2,v3,v4];rfl) (by rfl) ?_;refine Z0 ?_;refine ZT 1 ?_;refine Z1 (w64a (n:=j) (by omega)) ?_
       refine⟨⟨(j+1,mset ⟨ty.name,g.name⟩ g R',nxe+1+11+2),hjl,by dsimp only;omega,by dsimp only;omega,hcj⟩,.weak ⟨qa_ rfl (qa_ rfl (qa_ rfl (qa_ rfl (qa_ rfl (qa_ rfl (qa_ rfl (qa_ rfl (qh_ _)))))))),fun k=> ?_,by dsimp only;omega⟩,by dsimp only;omega⟩;dsimp only;by_cases h2:k=m2
       ·exact .inr (by rw[h2,qb_ _ _ ht2.symm,qd_,C2])
       by_cases hk:k<nxj
       ·refine .inr ?_
        rw[qb_ _ _ h2,fa k hk];by_cases h1:k=tb
        ·rw[h1,qd_,qd_]
        ·rw[qb_ _ _ h1,qb_ _ _ h1]
         unfold hpC;rw[qb_ _ _ h2,qb_ _ _ h2]
       ·exact .inl (by rw[qb_ _ _ (by omega)];exact Cf T' _ k (by omega))
     ·have c2:(decide ((j:Int)<(ty.rels.length:Int)))=false:=decide_eq_false (by omega)
      obtain rfl:j=ty.rels.length:=by omega
      rw[List.drop_length] at hcj;refine Z1 c2 ?_;refine zsq (ZT 1 ?_);refine Z0 ?_;refine ZT 1 ?_;refine Z1 (w64a (n:=i) (by omega)) ?_;refine⟨⟨(i+1,T',R',nxj+6),hlt,by dsimp only;omega,hcj⟩,.weak ⟨qa_ rfl (qa_ rfl (qa_ rfl (qa_ rfl (qh_ _)))),fun k=> ?_,by dsimp only;omega⟩,by dsimp only;omega⟩;dsimp only;by_cases hk:k=tb
      ·exact .inl (Cf T' R' k (by omega))
      ·exact .inr (qb_ _ _ hk).symm
  ·have c1:(decide ((i:Int)<(l.length:Int)))=false:=decide_eq_false (by omega)
   obtain rfl:i=l.length:=by omega
   rw[List.drop_length] at hc;simp only[za_,Prod.mk.injEq] at hc;obtain⟨rfl,rfl,rfl⟩:=hc;refine Z1 c1 ?_;refine zsq (ZT 1 ?_);refine Z0 ?_;refine zsq (ZT 1 ?_);refine Z0 ?_;refine ZT 1 ?_;refine Z0 ?_;exact⟨_,_,rfl,⟨fun _=>.inr rfl⟩,rfl,rfl,by dsimp only;omega⟩
end
end Go.Proofs.YtnmkbmefohakmaaGreat.Ab
