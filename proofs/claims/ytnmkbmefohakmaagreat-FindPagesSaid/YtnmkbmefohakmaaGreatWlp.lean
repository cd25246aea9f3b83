/-
 Schemas that hold together: what names and ways are told. No program in sight.
-/
import Derived.Test.YtnmkbmefohakmaaGreatWlr
namespace Go.Proofs.YtnmkbmefohakmaaGreat.Ab
open Go.RowKit
theorem sJ_ {hp:Hp}{nx:Nat}{x:AV}(hf:∀j,nx<=j->hp j=none):InlOK Tryz.prog 91 [x,.v (.slice none 0 0)] hp nx fun v hp2 nx2=>v= .v (.bool true)/\hp2=hp/\nx<=nx2:=by
 refine qX_ qf_ Tryz.func91 (by rfl) (by kernel_rfl) (by kernel_rfl) (by exact Nat.le_of_ble_eq_true rfl) ?_;refine zsq (ZT 1 ?_);refine Z0 ?_;refine zsq (ZT 1 ?_);refine Z0 ?_;refine zsq (zsq ?_);refine ZT 1 ?_;refine Z0 ?_;refine zjn (α:={ k:Nat // nx<=k }) (fun k=>⟨upd 1 (.v (.slice none 0 0)) noFr,upd (nx+1) (some (.mo [] false)) hp,k.1⟩) ?_ ?_
 ·refine zbk ?_
  refine zlp (α:=Unit) (fun _=>⟨upd 1 (.v (.slice none 0 0)) (upd 16 (.v (.int .i64 0)) (upd 17 (.v (.int .i64 0)) noFr)),upd (nx+1) (some (.mo [] false)) hp,nx+1+2+3⟩) (fun _=>0) () ?_ ?_
  ·exact wkI (qa_ rfl (qa_ rfl (qa_ rfl (qh_ _))))
  ·rintro⟨⟩
   refine zsq (ZT 1 ?_);refine Z0 ?_;refine zsq (ZT 1 ?_);refine Z0 ?_;exact⟨⟨_,by omega⟩,wkI (qa_ rfl (qh_ _))⟩
 ·rintro⟨k,hk⟩
  refine zsq (zsq ?_);refine ZT 1 ?_;refine Z0 ?_;refine zbk ?_;refine zlp (α:={ t:Bool × Nat // nx<=t.2 }) (fun t=>⟨upd 1 (.v (.slice none 0 0)) (upd 8 (.v (.bool t.1.1)) noFr),upd (nx+1) (some (.mo [] false)) hp,t.1.2⟩) (fun t=>if t.1.1 then 1 else 0) ⟨(true,k+1),by dsimp only;omega⟩ ?_ ?_
  ·exact wkI (qa_ rfl (qa_ rfl (qh_ _)))
  ·rintro⟨⟨b,nxa⟩,ha⟩
   dsimp only at ha;refine zsq (zsq ?_);refine ZT 1 ?_;cases b with
   |false=>
    refine Z0 ?_;refine ZT 1 ?_;refine Z0 ?_;refine zsq (ZT 1 ?_);refine Z0 ?_;refine ZT 1 ?_;refine Z0 ?_;refine⟨_,hp,rfl,⟨fun i=> ?_⟩,rfl,rfl,by dsimp only;omega⟩;by_cases hi:i=nx+1
    ·exact .inl (hf i (by omega))
    ·exact .inr (qb_ _ _ hi).symm
   |true=>
    refine Z0 ?_;refine ZT 1 ?_;refine Z0 ?_;refine zbk ?_;refine zsq (ZT 1 ?_);refine Z0 ?_;refine zsq (ZT 1 ?_);refine Z0 ?_;refine zbk ?_;refine zlp (α:=Unit) (fun _=>⟨upd 1 (.v (.slice none 0 0)) (upd 8 (.v (.bool false)) (upd 29 (.v (.int .i64 0)) (upd 30 (.v (.int .i64 0)) noFr))),upd (nx+1) (some (.mo [] false)) hp,nxa+1+1+3⟩) (fun _=>0) () ?_ ?_
    ·exact wkI (qa_ rfl (qa_ rfl (qa_ rfl (qa_ rfl (qh_ _)))))
    ·rintro⟨⟩
     refine zsq (ZT 1 ?_);refine Z0 ?_;refine zsq (ZT 1 ?_);refine Z0 ?_;exact⟨⟨(false,nxa+1+1+3+1),by dsimp only;omega⟩,wkI (qa_ rfl (qa_ rfl (qh_ _))),Nat.zero_lt_one⟩
def kP_ (n:Nat)(S:WellSchema)(a:ByteArray):List GRel->List WellName->Option (List WellName ⊕ Int)
 |[],ns=>some (.inl ns)
 |g::r,ns=>if ns.length<1000000000 then(jG_ n S a g).bind fun e=>if e==0 then kP_ n S a r (ns++[⟨a,g.name⟩]) else some (.inr e) else none
def kQ_ (n:Nat)(S:WellSchema):List GType->List WellName->Option (List WellName ⊕ Int)
 |[],ns=>some (.inl ns)
 |t::r,ns=>(kP_ n S t.name t.rels ns).bind fun
  | .inl ns2=>kQ_ n S r ns2
  | .inr e=>some (.inr e)
def wellR (n:Nat)(T:List (ByteArray × Int))(R:List (WellName × GRel)):List WellName ⊕ Int->Option (WellSchema ⊕ Int)
 | .inr e=>some (.inr e)
 | .inl []=>some (.inl ⟨T,R,[]⟩)
 | .inl (m::r)=>(revR n (m::r) 0 r.length).bind fun os=>(fA_ n ⟨T,R,[]⟩ os []).bind fun W=>
   if (∀m∈os,(mget m W).isSome=true)/\(∀p∈W,p.2.length<1000000000)/\os.length<1000000000 then
    (dR_ W (os.length:Int) os n []).bind fun
     |none=>some (.inr 14)
     |some K=>some (.inl ⟨T,R,K⟩) else none
def ke_ (n:Nat)(l:List GType):Option (WellSchema ⊕ Int):=
 if l.length<1000000/\∀t∈l,t.rels.length<1000000 then
  (if (za_ l [] []).2.2==0 then(kQ_ n ⟨(za_ l [] []).1,(za_ l [] []).2.1,[]⟩ l []).bind (wellR n (za_ l [] []).1 (za_ l [] []).2.1) else some (.inr (za_ l [] []).2.2)) else none
def dWell:WellSchema ⊕ Int->D
 | .inl S=>.tu [.pt (eWellSchema S) 0,.v (.int .i64 0)]
 | .inr e=>.tu [.v (.pointer none),.v (.int .i64 e)]
set_option maxRecDepth 8000 in
theorem dS_ {n:Nat}{l:List GType}{r:WellSchema ⊕ Int}(h:ke_ n l=some r):PureA Tryz.prog 62 [.d (.sl (l.map eGType))] (dWell r) false:=by
 unfold ke_ at h;split at h;rotate_left
 ·cases h
 rename_i hg;obtain⟨hg1,hg2⟩:=hg;obtain⟨T,eT⟩:∃T,T=(za_ l [] []).1:=⟨_,rfl⟩;obtain⟨R,eR⟩:∃R,R=(za_ l [] []).2.1:=⟨_,rfl⟩;obtain⟨e,ee⟩:∃e,e=(za_ l [] []).2.2:=⟨_,rfl⟩;have hc:za_ l [] []=(T,R,e):=by rw[eT,eR,ee]
 rw[hc] at h;dsimp only at h;refine ZPX qf_ fol (rs:= #[.tmp 2,.tmp 3]) Tryz.func62 ?_;refine zsq (ZT 1 ?_);refine Z0 ?_;refine zsq (ZT 1 ?_);refine Z0 ?_
 have hH:upd 6 (some (.bx [.mo 2,.mo 3,.mo 4])) (upd 4 (some (.mo [] false)) (upd 3 (some (.mo [] false)) (upd 2 (some (.mo [] false)) noHp)))=(upd 6 (some (.bx [.mo 2,.mo 3,.mo 4])) (upd 4 (some (.mo (encM qc_ vI []) false)) (upd 3 (some (.mo (encM qc_ vR []) false)) (upd 2 (some (.mo (encM .string vI []) false)) noHp))):Hp):=rfl;rw[hH]
 obtain⟨hp0,e0⟩:∃hp0,hp0=(upd 6 (some (.bx [.mo 2,.mo 3,.mo 4])) (upd 4 (some (.mo (encM qc_ vI []) false)) (upd 3 (some (.mo (encM qc_ vR []) false)) (upd 2 (some (.mo (encM .string vI []) false)) noHp))):Hp):=⟨_,rfl⟩;rw[<-e0];have q0:hp0 6=some (.bx [.mo 2,.mo 3,.mo 4]):=by rw[e0];rfl
 have q1:hp0 2=some (.mo (encM .string vI []) false):=by rw[e0];rfl
 have q2:hp0 3=some (.mo (encM qc_ vR []) false):=by rw[e0];rfl
 have q3:hp0 4=some (.mo (encM qc_ vI []) false):=by rw[e0];rfl
 have qf:∀j,7<=j->hp0 j=none:=fun j hj=>by rw[e0,qb_ _ _ (by omega),qb_ _ _ (by omega),qb_ _ _ (by omega),qb_ _ _ (by omega)];rfl
 refine zsq (ZT 1 ?_);refine Z0 ?_;refine qe_ ((c8_ (nx:=12) (fun j hj=>qf j (by omega)) hg1 hg2 q0 q1 q2 (by decide) (by decide) (by decide) hc).mono ?_);rintro v hpS nx2 ⟨rfl,eS,hle⟩;have s0:hpS 6=some (.bx [.mo 2,.mo 3,.mo 4]):=by rw[eS];unfold hpC;rw[qb_ _ _ (by decide),qb_ _ _ (by decide)];exact q0
 have s1:hpS 2=some (.mo (encM .string vI T) false):=by rw[eS];unfold hpC;rw[qb_ _ _ (by decide),qd_]
 have s2:hpS 3=some (.mo (encM qc_ vR R) false):=by rw[eS];unfold hpC;rw[qd_]
 have s3:hpS 4=some (.mo (encM qc_ vI []) false):=by rw[eS];unfold hpC;rw[qb_ _ _ (by decide),qb_ _ _ (by decide)];exact q3
 have sf:∀j,7<=j->hpS j=none:=fun j hj=>by rw[eS];unfold hpC;rw[qb_ _ _ (by omega),qb_ _ _ (by omega)];exact qf j hj
 cases he:(e==0) with
 |false=>
  have he2:(e != 0)=true:=by rw[bne,he];rfl
  rw[he,if_neg (by decide)] at h;cases h;refine Z1 he2 ?_
  exact xN_ (b:=true) (v:=.tu [.v (.pointer none),.v (.int .i64 e)]) (by simp -implicitDefEqProofs only[go_sem, ↓reduceIte,qd_,Nat.reduceEqDiff]<;>rfl) (.tu (PW.cons (ToXV.one (ToX.one (b':=false) (is:=[]) rfl (fun _=>rfl)) rfl) (PW.cons (ToXV.one (ToX.one (b':=false) (is:=[]) rfl (fun _=>rfl)) rfl) PW.nil))) fun h=>nomatch h
 |true=>
  have he2:(e != 0)=false:=by rw[bne,he];rfl
  rw[he,if_pos rfl] at h;obtain⟨ro,hro,h⟩:=zbi h;refine Z1 he2 ?_;refine zsq (ZT 1 ?_);refine Z0 ?_;refine zsq (zsq ?_);refine ZT 1 ?_;refine Z0 ?_;have A:∀(oid over:Nat) (ns:List WellName),(ns≠[]->7<=oid)->∀j,j<7->accH oid 2 over (ns.map eWellName) hpS j=hpS j:=fun oid over ns ho j hj=>xy_ fun hn=>by have:=ho (by simpa using hn);omega
  have Af:∀(oid over nx:Nat) (ns:List WellName),(ns≠[]->oid<nx)->7<=nx->∀j,nx<=j->accH oid 2 over (ns.map eWellName) hpS j=none:=fun oid over nx ns ho h7 j hj=>by rw[xy_ fun hn=>by have:=ho (by simpa using hn);omega];exact sf j (by omega)
  refine zjn (α:={ t:List WellName × Nat × Nat × Nat // (t.1≠[]->7<=t.2.1/\t.2.1<t.2.2.2)/\7<=t.2.2.2/\t.1.length<=1000000000/\ro= .inl t.1 }) (fun t=>⟨upd 4 (.pt 6 0) (upd 6 (accV t.1.2.1 t.1.2.2.1 (t.1.1.map eWellName)) noFr),accH t.1.2.1 2 t.1.2.2.1 (t.1.1.map eWellName) hpS,t.1.2.2.2⟩) ?_ ?_
  ·refine zbk ?_
   refine zlp (α:={ t:Nat × List WellName × Nat × Nat × Nat // t.1<=l.length/\(t.2.1≠[]->7<=t.2.2.1/\t.2.2.1<t.2.2.2.2)/\7<=t.2.2.2.2/\t.2.1.length<=1000000000/\kQ_ n ⟨T,R,[]⟩ (l.drop t.1) t.2.1=some ro })
    (fun t=>⟨upd 4 (.pt 6 0) (upd 6 (accV t.1.2.2.1 t.1.2.2.2.1 (t.1.2.1.map eWellName)) (upd 23 (.d (.sl (l.map eGType)) true) (upd 24 (.v (.int .i64 (l.length:Int))) (upd 25 (.v (.int .i64 (t.1.1:Int))) noFr)))),accH t.1.2.2.1 2 t.1.2.2.2.1 (t.1.2.1.map eWellName) hpS,t.1.2.2.2.2⟩) (fun t=>l.length-t.1.1)
    ⟨(0,[],0,0,nx2+2+1+3),Nat.zero_le _,fun hn=>absurd rfl hn,by dsimp only;omega,Nat.zero_le _,hro⟩ ?_ ?_
   ·exact wkI (qa_ rfl (qa_ rfl (qa_ rfl (qa_ rfl (qa_ rfl (qh_ _))))))
   ·rintro⟨⟨i,ns,oid,over,nxi⟩,hi,ho,h7,hnl,hs⟩
    dsimp only at hi ho h7 hnl hs;refine zsq (ZT 1 ?_);by_cases hlt:i<l.length
    ·have c1:(decide ((i:Int)<(l.length:Int)))=true:=decide_eq_true (by omega)
     have e1:l[i]? =some l[i]:=List.getElem?_eq_getElem hlt;have ed:l.drop i=l[i]::l.drop (i+1):=List.drop_eq_getElem_cons hlt;have hrt:=hg2 _ (List.getElem_mem hlt);rw[ed] at hs;generalize l[i]=ty at e1 hs hrt;have e2:(l.map eGType)[i]? =some (eGType ty):=qn_ eGType e1;unfold kQ_ at hs;obtain⟨rr,hrr,hs⟩:=zbi hs;refine Z1 c1 ?_;refine zsq (ZT 1 ?_);refine Z0 ?_
     refine zsq (zbk ?_);refine zsq (ZT 1 ?_);have w:=And.intro e2 (And.intro (zno .i64 (show(0:Int)<=(i:Int) by omega)) (show((i:Int)).toNat=i from Int.toNat_natCast _));refine Z1 w ?_;obtain⟨tb,etb⟩:∃tb,tb=nxi+1+2:=⟨_,rfl⟩;rw[<-etb,qI_];refine zsq (ZT 1 ?_)
     refine Z1 (qd_ tb (some (.bx [.v (.string ty.name),.d (.sl (ty.rels.map eGRel)) true])) (accH oid 2 over (ns.map eWellName) hpS)) ?_;refine zbk ?_
     refine zlp (α:={ t:Nat × List WellName × Nat × Nat × Nat // t.1<=ty.rels.length/\(t.2.1≠[]->7<=t.2.2.1/\t.2.2.1<t.2.2.2.2/\t.2.2.1≠tb)/\tb<t.2.2.2.2/\t.2.1.length<=1000000000/\kP_ n ⟨T,R,[]⟩ ty.name (ty.rels.drop t.1) t.2.1=some rr })
      (fun t=>⟨upd 4 (.pt 6 0) (upd 6 (accV t.1.2.2.1 t.1.2.2.2.1 (t.1.2.1.map eWellName)) (upd 8 (.pt tb 0) (upd 23 (.d (.sl (l.map eGType)) true) (upd 24 (.v (.int .i64 (l.length:Int))) (upd 25 (.v (.int .i64 (i:Int))) (upd 30 (.d (.sl (ty.rels.map eGRel)) true) (upd 31 (.v (.int .i64 (ty.rels.length:Int))) (upd 32 (.v (.int .i64 (t.1.1:Int))) noFr)))))))),upd tb (some (.bx [.v (.string ty.name),.d (.sl (ty.rels.map eGRel)) true])) (accH t.1.2.2.1 2 t.1.2.2.2.1 (t.1.2.1.map eWellName) hpS),t.1.2.2.2.2⟩) (fun t=>ty.rels.length-t.1.1)
      ⟨(0,ns,oid,over,nxi+1+4+4),Nat.zero_le _,fun hn=>by have:=ho hn;dsimp only;omega,by dsimp only;omega,hnl,hrr⟩ ?_ ?_
     ·exact wkI (qa_ rfl (qa_ rfl (qa_ rfl (qa_ rfl (qa_ rfl (qa_ rfl (qa_ rfl (qa_ rfl (qa_ rfl (qh_ _))))))))))
     ·rintro⟨⟨j,ms,od2,ov2,nxj⟩,hj,hod,htj,hml,hsj⟩
      dsimp only at hj hod htj hml hsj;refine zsq (ZT 1 ?_);by_cases hjl:j<ty.rels.length
      ·have c2:(decide ((j:Int)<(ty.rels.length:Int)))=true:=decide_eq_true (by omega)
       have e3:ty.rels[j]? =some ty.rels[j]:=List.getElem?_eq_getElem hjl;have ed2:ty.rels.drop j=ty.rels[j]::ty.rels.drop (j+1):=List.drop_eq_getElem_cons hjl;rw[ed2] at hsj;generalize ty.rels[j]=g at e3 hsj;have e4:(ty.rels.map eGRel)[j]? =some (eGRel g):=qn_ eGRel e3;unfold kP_ at hsj;split at hsj;rotate_left
       ·cases hsj
       rename_i hm9;obtain⟨en,hen,hsj⟩:=zbi hsj;refine Z1 c2 ?_;refine zsq (ZT 1 ?_);refine Z0 ?_;refine zsq (zbk ?_);refine zsq (ZT 1 ?_);have w2:=And.intro e4 (And.intro (zno .i64 (show(0:Int)<=(j:Int) by omega)) (show((j:Int)).toNat=j from Int.toNat_natCast _));refine Z1 w2 ?_;generalize eD:(upd (nxj+1+2) (some _) _:Hp)=hpD
       have da:∀k,k≠nxj+1+2->hpD k=upd tb (some (.bx [.v (.string ty.name),.d (.sl (ty.rels.map eGRel)) true])) (accH od2 2 ov2 (ms.map eWellName) hpS) k:=fun k h1=>by rw[<-eD,qb_ _ _ h1,qb_ _ _ h1]
       have dS:∀k,k<7->hpD k=hpS k:=fun k hk=>by rw[da k (by omega),qb_ _ _ (by omega),A od2 ov2 ms (fun hn=>(hod hn).1) k hk]
       have dt:hpD tb=some (.bx [.v (.string ty.name),.d (.sl (ty.rels.map eGRel)) true]):=by rw[da tb (by omega),qd_]
       have dr:hpD (nxj+1+2)=some (.bx [.v (.string g.name),.d (.sl (g.subs.map eGSub)) true,.d (.sl (g.expr.map eGStep)) true]):=by rw[<-eD,qd_]
       have dw:ms≠[]->hpD od2=some (.rw (ms.map eWellName) 2 ov2 false false):=fun hn=>by have:=hod hn;rw[da od2 (by omega),qb_ _ _ this.2.2,zN_ (by simpa using hn)]
       refine zsq (zsq ?_);refine ZT 1 ?_;refine Z1 (And.intro dt dr) ?_
       refine dc_ (b:=true) (PW.cons (ToXA.d (ToXV.one (sch_X ((dS 6 (by decide)).trans s0) ((dS 2 (by decide)).trans s1) ((dS 3 (by decide)).trans s2) ((dS 4 (by decide)).trans s3)) rfl)) (PW.cons (ToXA.d (ToXV.one (ToX.one (b':=false) (is:=[]) rfl (fun _=>rfl)) rfl)) (PW.cons (ToXA.d (ToXV.agP (PW.cons (ToX.one (b':=false) (is:=[]) rfl (fun _=>rfl)) (PW.cons (ToX.one (b':=true) (is:=[]) rfl (fun _=>rfl)) (PW.cons (ToX.one (b':=true) (is:=[]) rfl (fun _=>rfl)) PW.nil))))) PW.nil))) (PureA.of_pure (wc_ hen)) ?_
       refine Z0 ?_;refine zsq (ZT 1 ?_);cases hz:(en==0) with
       |false=>
        have hz2:(en != 0)=true:=by rw[bne,hz];rfl
        rw[hz,if_neg (by decide)] at hsj;cases hsj;cases hs;cases h;refine Z1 hz2 ?_;refine qs_ (c:=true) rfl rfl ?_;refine zsq (ZT 1 ?_);refine Z0 ?_;refine ZT 1 ?_;refine Z0 ?_
        exact xN_ (b:=true) (v:=.tu [.v (.pointer none),.v (.int .i64 en)]) (by simp -implicitDefEqProofs only[go_sem, ↓reduceIte,qd_,Nat.reduceEqDiff]<;>rfl) (.tu (PW.cons (ToXV.one (ToX.one (b':=false) (is:=[]) rfl (fun _=>rfl)) rfl) (PW.cons (ToXV.one (ToX.one (b':=false) (is:=[]) rfl (fun _=>rfl)) rfl) PW.nil))) fun h=>nomatch h
       |true=>
        have hz2:(en != 0)=false:=by rw[bne,hz];rfl
        rw[hz,if_pos rfl] at hsj;refine Z1 hz2 ?_;refine qg_ (c:=false) rfl rfl ?_;refine ZT 1 ?_;refine Z0 ?_;refine ZT 1 ?_;cases ms with
        |nil=>
         refine Z1 (And.intro dt dr) ?_;generalize eU:(upd (nxj+1+4+6+2+7) (some _) _:Hp)=hpU;have u1:hpU (nxj+1+4+6+2+7)=some (.rw (([]++[(⟨ty.name,g.name⟩:WellName)]).map eWellName) 2 (0) false false):=by rw[<-eU,qd_];simp
         have u3:∀k,k≠nxj+1+4+6+2+7->k<nxj->hpU k=hpD k:=fun k h1 h2=>by rw[<-eU,qb_ _ _ h1,qb_ _ _ (by omega)]
         refine ZT 1 ?_;refine Z1 (w64a (n:=j) (by omega)) ?_
         refine⟨⟨(j+1,[]++[⟨ty.name,g.name⟩],nxj+1+4+6+2+7,0,nxj+60),hjl,fun _=>by skip;dsimp only;omega,by dsimp only;omega,by rw[List.length_append,List.length_singleton];omega,hsj⟩,.weak ⟨qa_ rfl (qa_ rfl (qa_ rfl (qa_ rfl (qa_ rfl (qa_ rfl (qa_ rfl (qa_ rfl (qa_ rfl (qh_ _))))))))),fun k=> ?_,by dsimp only;omega⟩,by dsimp only;omega⟩
         dsimp only;by_cases k1:k=nxj+1+4+6+2+7
         ·refine .inr ?_
          rw[k1,u1,qb_ _ _ (by skip;omega),zN_ (by simp)]
         by_cases k2:k<nxj
         ·refine .inr ?_
          rw[u3 k k1 k2,da k (by omega)];by_cases k3:k=tb
          ·rw[k3,qd_,qd_]
          ·rw[qb_ _ _ k3,qb_ _ _ k3,xy_ fun _=>k1];rfl
         ·exact .inl (by rw[qb_ _ _ (by omega),xy_ fun _=>k1];exact sf k (by omega))
        |cons b u=>
         have hdw:=dw (by simp);have hlt2:(u.length+1+1<=4294967296)=True:=eq_true (by simp only[List.length_cons] at hml;omega);have f1:(od2=nxj+1+4+6+2+6)=False:=eq_false (by have:=hod (by simp);omega);refine Z1 (And.intro dt (And.intro dr (And.intro f1 (And.intro hdw hlt2)))) ?_;generalize eU:(upd (od2) (some _) _:Hp)=hpU
         have u1:hpU (od2)=some (.rw (((b::u)++[(⟨ty.name,g.name⟩:WellName)]).map eWellName) 2 (ov2+1) false false):=by rw[<-eU,qd_];simp
         have u3:∀k,k≠od2->k<nxj->hpU k=hpD k:=fun k h1 h2=>by rw[<-eU,qb_ _ _ h1,qb_ _ _ (by omega)]
         refine ZT 1 ?_;refine Z1 (w64a (n:=j) (by omega)) ?_
         refine⟨⟨(j+1,(b::u)++[⟨ty.name,g.name⟩],od2,ov2+1,nxj+60),hjl,fun _=>by have:=hod (by simp);dsimp only;omega,by dsimp only;omega,by rw[List.length_append,List.length_singleton];omega,hsj⟩,.weak ⟨qa_ rfl (qa_ (by simp[accV,upd]) (qa_ rfl (qa_ rfl (qa_ rfl (qa_ rfl (qa_ rfl (qa_ rfl (qa_ rfl (qh_ _))))))))),fun k=> ?_,by dsimp only;omega⟩,by dsimp only;omega⟩
         dsimp only;by_cases k1:k=od2
         ·refine .inr ?_
          rw[k1,u1,qb_ _ _ (by have:=hod (by simp);omega),zN_ (by simp)]
         by_cases k2:k<nxj
         ·refine .inr ?_
          rw[u3 k k1 k2,da k (by omega)];by_cases k3:k=tb
          ·rw[k3,qd_,qd_]
          ·rw[qb_ _ _ k3,qb_ _ _ k3,xy_ fun _=>k1,xy_ fun hn=>k1]
         ·exact .inl (by rw[qb_ _ _ (by omega),xy_ fun _=>k1];exact sf k (by omega))
      ·have c2:(decide ((j:Int)<(ty.rels.length:Int)))=false:=decide_eq_false (by omega)
       obtain rfl:j=ty.rels.length:=by omega
       rw[List.drop_length] at hsj;cases hsj;dsimp only at hs;refine Z1 c2 ?_;refine zsq (ZT 1 ?_);refine Z0 ?_;refine ZT 1 ?_;refine Z1 (w64a (n:=i) (by omega)) ?_
       refine⟨⟨(i+1,ms,od2,ov2,nxj+1+2),hlt,fun hn=>by have:=hod hn;dsimp only;omega,by dsimp only;omega,hml,hs⟩,.weak ⟨qa_ rfl (qa_ rfl (qa_ rfl (qa_ rfl (qa_ rfl (qh_ _))))),fun k=> ?_,by dsimp only;omega⟩,by dsimp only;omega⟩;dsimp only;by_cases hk:k=tb
       ·exact .inl (by rw[xy_ fun hn=>by have:=hod (by simpa using hn);omega];exact sf k (by omega))
       ·exact .inr (qb_ _ _ hk).symm
    ·have c1:(decide ((i:Int)<(l.length:Int)))=false:=decide_eq_false (by omega)
     obtain rfl:i=l.length:=by omega
     rw[List.drop_length] at hs;refine Z1 c1 ?_;refine zsq (ZT 1 ?_);refine Z0 ?_;exact⟨⟨(ns,oid,over,nxi+1),fun hn=>by have:=ho hn;dsimp only;omega,by dsimp only;omega,hnl,(Option.some.inj hs).symm⟩,wkI (qa_ rfl (qa_ rfl (qh_ _)))⟩
  ·rintro⟨⟨ns,oid,over,nxk⟩,ho,h7,hnl,rfl⟩
   dsimp only at ho h7 hnl;cases ns with
   |nil=>
    refine zsq (ZT 1 ?_);refine Z0 ?_;refine qe_ (rev_nil.mono ?_);rintro v hpV nxV ⟨rfl,rfl,hleV⟩;dsimp only at hleV;refine Z0 ?_;refine zsq (zsq ?_);refine ZT 1 ?_;refine Z0 ?_;refine qe_ ((sJ_ fun k hk=>sf k (by dsimp only at hk;omega)).mono ?_);rintro v hpR nxR ⟨rfl,eR2,hleR⟩;dsimp only at hleR;subst eR2;cases h;refine Z0 ?_;refine qg_ (c:=false) rfl rfl ?_;refine ZT 1 ?_
    refine Z0 ?_;refine zsq (ZT 1 ?_);refine Z0 ?_;refine ZT 1 ?_;refine Z0 ?_;exact xN_ (b:=true) (v:=.tu [.pt 6 0,.v (.int .i64 0)]) (by simp -implicitDefEqProofs only[go_sem, ↓reduceIte,qd_,Nat.reduceEqDiff]<;>rfl) (.tu (PW.cons (ToXV.one (sch_X s0 s1 s2 s3) rfl) (PW.cons (ToXV.one (ToX.one (b':=false) (is:=[]) rfl (fun h=>by cases h)) rfl) PW.nil))) fun h=>nomatch h
   |cons b u=>
    have hoo:=ho (by simp);dsimp only[wellR] at h;obtain⟨os,hos,h⟩:=zbi h;obtain⟨W,hW,h⟩:=zbi h;split at h;rotate_left
    ·cases h
    rename_i hgW;obtain⟨g1,g2,g3⟩:=hgW;obtain⟨rk,hrk,h⟩:=zbi h;have hol:=hJ_ hos;refine zsq (ZT 1 ?_);refine Z0 ?_;refine qe_ ((rev_ok (xs:=b::u) (L:=(b::u).length) (zN_ (by simp)) rfl (by simp) (by omega) hos).mono ?_);rintro v hpV nxV ⟨rfl,eV,hleV⟩;dsimp only at hleV;have hol2:u.length+1=os.length:=hol.symm
    have v6:hpV 6=some (.bx [.mo 2,.mo 3,.mo 4]):=by rw[eV,qb_ _ _ (by omega)];exact(A oid over (b::u) (fun _=>hoo.1) 6 (by decide)).trans s0
    have v2:hpV 2=some (.mo (encM .string vI T) false):=by rw[eV,qb_ _ _ (by omega)];exact(A oid over (b::u) (fun _=>hoo.1) 2 (by decide)).trans s1
    have v3:hpV 3=some (.mo (encM qc_ vR R) false):=by rw[eV,qb_ _ _ (by omega)];exact(A oid over (b::u) (fun _=>hoo.1) 3 (by decide)).trans s2
    have v4:hpV 4=some (.mo (encM qc_ vI []) false):=by rw[eV,qb_ _ _ (by omega)];exact(A oid over (b::u) (fun _=>hoo.1) 4 (by decide)).trans s3
    have vo:hpV oid=some (.rw (os.map eWellName) 2 over false false):=by rw[eV,qd_]
    have vf:∀k,nxk<=k->hpV k=none:=fun k hk=>by rw[eV,qb_ _ _ (by omega)];exact Af oid over nxk (b::u) (fun _=>hoo.2) h7 k hk
    refine Z1 hol2 ?_;refine zsq (zsq ?_);refine ZT 1 ?_;refine Z0 ?_;refine qe_ ((c7_ (fun k hk=>vf k (by dsimp only at hk;omega)) (by omega) g3 v6 v2 v3 v4 vo ⟨by decide,by decide,by decide,by decide,by decide,by decide⟩ ⟨by omega,by omega,by omega,by omega⟩ hW g1 g2 hrk).mono ?_);rintro v hpR nxR ⟨rfl,⟨K,hK,eR2⟩,hleR⟩;dsimp only at hleR;cases rk with
    |none=>
     cases h;refine Z0 ?_;refine qs_ (c:=true) rfl rfl ?_;refine zsq (ZT 1 ?_);refine Z0 ?_;refine ZT 1 ?_;refine Z0 ?_
     exact xN_ (b:=true) (v:=.tu [.v (.pointer none),.v (.int .i64 14)]) (by simp -implicitDefEqProofs only[go_sem, ↓reduceIte,qd_,Nat.reduceEqDiff]<;>rfl) (.tu (PW.cons (ToXV.one (ToX.one (b':=false) (is:=[]) rfl (fun _=>rfl)) rfl) (PW.cons (ToXV.one (ToX.one (b':=false) (is:=[]) rfl (fun _=>rfl)) rfl) PW.nil))) fun h=>nomatch h
    |some K'=>
     cases h;obtain rfl:=hK K' rfl;subst eR2;have x6:(upd 4 (some (.mo (encM qc_ vI K') false)) hpV:Hp) 6=_:=(qb_ _ _ (by decide)).trans v6;have x4:(upd 4 (some (.mo (encM qc_ vI K') false)) hpV:Hp) 4=_:=qd_ _ _ _;have x2:(upd 4 (some (.mo (encM qc_ vI K') false)) hpV:Hp) 2=_:=(qb_ _ _ (by decide)).trans v2
     have x3:(upd 4 (some (.mo (encM qc_ vI K') false)) hpV:Hp) 3=_:=(qb_ _ _ (by decide)).trans v3;refine Z0 ?_;refine qg_ (c:=false) rfl rfl ?_;refine ZT 1 ?_;refine Z0 ?_;refine zsq (ZT 1 ?_);refine Z0 ?_;refine ZT 1 ?_;refine Z0 ?_
     exact xN_ (b:=true) (v:=.tu [.pt 6 0,.v (.int .i64 0)]) (by simp -implicitDefEqProofs only[go_sem, ↓reduceIte,qd_,Nat.reduceEqDiff]<;>rfl) (.tu (PW.cons (ToXV.one (sch_X (d3:=false) x6 x2 x3 x4) rfl) (PW.cons (ToXV.one (ToX.one (b':=false) (is:=[]) rfl (fun h=>by cases h)) rfl) PW.nil))) fun h=>nomatch h
abbrev zGR:GRel:=⟨ByteArray.empty,[],[]⟩
def vR_ (S:WellSchema):Prop:=∀p∈S.rels,RelB p.2
theorem dT_ {S:WellSchema}(h:vR_ S)(m:WellName):RelB (qk_ m zGR S.rels):=by
 unfold qk_;cases hm:mget m S.rels with
 |none=>exact⟨Nat.zero_le _,Nat.zero_le _,.inl rfl,by intro _ h;cases h⟩
 |some g=>exact h _ (bu_ hm)
theorem vp_ (n:Nat)(S:WellSchema)(a b:ByteArray):qq_ n S a b=some (qk_ ⟨a,b⟩ zGR S.rels,mhas ⟨a,b⟩ S.rels):=rfl
def arrS (S:WellSchema)(b:ByteArray)(s:GSub):Prop:=mhas (⟨s.type_,b⟩:WellName) S.rels=true/\(s.rel.toList==({ data:= #[] }:ByteArray).toList)=true
theorem hI_ {n:Nat}{S:WellSchema}{x:GStep}{g:GRel}{b:Bool}(hl:g.subs.length<1000000):∀(d i c:Nat),d=g.subs.length-i->i<=g.subs.length->d<c->∃r,qD_ n S x (g,b) c (i:Int)=some r/\(r= .inl ()->∀s∈g.subs.drop i,arrS S x.b s)/\∀e,r= .inr e->e≠0
 |0,i,c,hd,hi,hc=>by
  obtain⟨c,rfl⟩:∃k,c=k+1:=⟨c-1,by omega⟩;unfold qD_;dsimp only;rw[decide_eq_false (by omega),if_neg (by decide),List.drop_of_length_le (by omega)];exact⟨_,rfl,fun _ _ h=>(by cases h),fun _ h=>(by cases h)⟩
 |d+1,i,c,hd,hi,hc=>by
  obtain⟨c,rfl⟩:∃k,c=k+1:=⟨c-1,by omega⟩;have hlt:i<g.subs.length:=by omega
  unfold qD_;dsimp only;rw[decide_eq_true (by omega),if_pos rfl,vC_,List.getElem?_eq_getElem hlt,Zo,vp_,Zo,List.drop_eq_getElem_cons hlt];dsimp only;cases h1:mhas (⟨g.subs[i].type_,x.b⟩:WellName) S.rels with
  |false=>exact⟨_,rfl,fun h=>(by cases h),fun _ h=>(by cases h;decide)⟩
  |true=>
   rw[if_pos rfl];cases h2:(g.subs[i].rel.toList==({ data:= #[] }:ByteArray).toList) with
   |false=>exact⟨_,rfl,fun h=>(by cases h),fun _ h=>(by cases h;decide)⟩
   |true=>
    rw[if_pos rfl,w64a (by omega)];obtain⟨r,e1,e2,e3⟩:=hI_ (n:=n) (S:=S) (x:=x) (b:=b) hl d (i+1) c (by omega) (by omega) (by omega);refine⟨r,e1,fun hr s hs=> ?_,e3⟩;rcases List.mem_cons.1 hs with rfl |hs
    ·exact⟨h1,h2⟩
    ·exact e2 hr s hs
def arrP (S:WellSchema)(a:ByteArray)(x:GStep):Prop:=mhas (⟨a,x.a⟩:WellName) S.rels=true/\(qk_ (⟨a,x.a⟩:WellName) zGR S.rels).subs≠[]/\∀s∈(qk_ (⟨a,x.a⟩:WellName) zGR S.rels).subs,arrS S x.b s
theorem mw_ {n:Nat}{S:WellSchema}{a:ByteArray}{x:GStep}(hS:vR_ S)(hn:1000<n):∃e,jq_ n S a x=some e/\(e=0->arrP S a x):=by
 unfold jq_;rw[vp_,Zo];dsimp only;have hb:=(dT_ hS ⟨a,x.a⟩).1;cases h1:mhas (⟨a,x.a⟩:WellName) S.rels with
 |false=>exact⟨_,rfl,fun h=>by cases h⟩
 |true=>
  rw[if_pos rfl];cases h2:(((qk_ (⟨a,x.a⟩:WellName) zGR S.rels).subs.length:Int)==0) with
  |true=>exact⟨_,rfl,fun h=>by cases h⟩
  |false=>
   rw[if_neg (by decide)];obtain⟨r,e1,e2,e3⟩:=hI_ (n:=n) (S:=S) (x:=x) (g:=qk_ (⟨a,x.a⟩:WellName) zGR S.rels) (b:=true) (by omega) _ 0 n rfl (Nat.zero_le _) (by omega);have e1:qD_ n S x (qk_ (⟨a,x.a⟩:WellName) zGR S.rels,true) n 0=some r:=e1;rw[e1,Zo];cases r with
   |inl u=>
    refine⟨0,rfl,fun _=>⟨h1,fun h=> ?_,e2 rfl⟩⟩;rw[h] at h2;cases h2
   |inr e=>exact⟨e,rfl,fun h=>absurd h (e3 e rfl)⟩
def subP (S:WellSchema)(s:GSub):Prop:=(s.rel.toList==({ data:= #[] }:ByteArray).toList)=true\/mhas (⟨s.type_,s.rel⟩:WellName) S.rels=true
theorem uF_ {n:Nat}{S:WellSchema}{g:GRel}:∀l:List GSub,∃r,xj_ (qY_ n S g) (jt_ n S g) l ()=some r/\(r= .inl ()->∀s∈l,subP S s)/\∀e,r= .inr e->e≠0
 |[]=>⟨_,rfl,fun _ _ h=>(by cases h),fun _ h=>(by cases h)⟩
 |s::l=>by
  obtain⟨r,e1,e2,e3⟩:=uF_ (n:=n) (S:=S) (g:=g) l;rw[xj_];generalize xj_ (qY_ n S g) (jt_ n S g) l=K at e1⊢;unfold qY_;dsimp only;rw[vp_,Zo,e1];dsimp only;split
  ·exact⟨_,rfl,fun h=>(by cases h),fun _ h=>(by cases h;decide)⟩
  ·split
   ·rename_i h
    refine⟨r,rfl,fun hr x hx=> ?_,e3⟩;rcases List.mem_cons.1 hx with rfl |hx
    ·exact .inl h
    ·exact e2 hr x hx
   ·split
    ·rename_i h
     refine⟨r,rfl,fun hr x hx=> ?_,e3⟩;rcases List.mem_cons.1 hx with rfl |hx
     ·exact .inr h
     ·exact e2 hr x hx
    ·exact⟨_,rfl,fun h=>(by cases h),fun _ h=>(by cases h;decide)⟩
def stpP (S:WellSchema)(a:ByteArray)(x:GStep):Prop:=(x.kind=1->mhas (⟨a,x.a⟩:WellName) S.rels=true)/\(x.kind=2->arrP S a x)
theorem uG_ {n:Nat}{S:WellSchema}{a:ByteArray}{g:GRel}(hS:vR_ S)(hn:1000<n):∀l:List GStep,∃r,xj_ (qZ_ n S a g) (ju_ n S a g) l ()=some r/\(r= .inl ()->∀x∈l,stpP S a x)/\∀e,r= .inr e->e≠0
 |[]=>⟨_,rfl,fun _ _ h=>(by cases h),fun _ h=>(by cases h)⟩
 |x::l=>by
  obtain⟨r,e1,e2,e3⟩:=uG_ (n:=n) (a:=a) (g:=g) hS hn l;rw[xj_];generalize xj_ (qZ_ n S a g) (ju_ n S a g) l=K at e1⊢;unfold qZ_;dsimp only;rw[e1];split
  ·rename_i hk
   obtain⟨e,q1,q2⟩:=mw_ (a:=a) (x:=x) hS hn;rw[q1,Zo];split
   ·rename_i h
    refine⟨_,rfl,fun h=>(by cases h),fun _ h2=> ?_⟩;cases h2;simpa using h
   ·rename_i h
    refine⟨r,rfl,fun hr y hy=> ?_,e3⟩;rcases List.mem_cons.1 hy with rfl |hy
    ·exact⟨fun h1=>(by rw[h1] at hk;cases hk),fun _=>q2 (by simpa using h)⟩
    ·exact e2 hr y hy
  ·rename_i hk
   rw[vp_,Zo];dsimp only;split
   ·rename_i h
    refine⟨r,rfl,fun hr y hy=> ?_,e3⟩;rcases List.mem_cons.1 hy with rfl |hy
    ·exact⟨fun _=>h,fun h2=>by rw[h2] at hk;exact absurd rfl hk⟩
    ·exact e2 hr y hy
   ·split
    ·exact⟨_,rfl,fun h=>(by cases h),fun _ h=>(by cases h;decide)⟩
    ·rename_i h1
     refine⟨r,rfl,fun hr y hy=> ?_,e3⟩;rcases List.mem_cons.1 hy with rfl |hy
     ·exact⟨fun h=>(by rw[h] at h1;exact absurd rfl h1),fun h2=>by rw[h2] at hk;exact absurd rfl hk⟩
     ·exact e2 hr y hy
def nmsP (S:WellSchema)(a:ByteArray)(g:GRel):Prop:=(∀s∈g.subs,subP S s)/\∀x∈g.expr,stpP S a x
theorem mx_ {n:Nat}{S:WellSchema}{a:ByteArray}{g:GRel}(hS:vR_ S)(hg:RelB g)(hn:1000<n):∃e,jG_ n S a g=some e/\(e=0->nmsP S a g):=by
 have h1:=hg.1;have h2:=hg.2.1;obtain⟨r,e1,e2,e3⟩:=uF_ (n:=n) (S:=S) (g:=g) g.subs;obtain⟨q,q1,q2,q3⟩:=uG_ (n:=n) (a:=a) (g:=g) hS hn g.expr;have f1:qE_ n S g n 0=_:=zR_ n S g (by omega) n () 0 (Nat.zero_le _) (by omega);have f2:qx_ n S a g n 0=_:=zS_ n S a g (by omega) n () 0 (Nat.zero_le _) (by omega);rw[List.drop_zero] at f1 f2;unfold jG_
 rw[f1,e1,Zo];cases r with
 |inr e=>exact⟨e,rfl,fun h=>absurd h (e3 e rfl)⟩
 |inl u=>
  dsimp only;rw[f2,q1,Zo];cases q with
  |inr e=>exact⟨e,rfl,fun h=>absurd h (q3 e rfl)⟩
  |inl u=>exact⟨0,rfl,fun _=>⟨e2 rfl,q2 rfl⟩⟩
theorem grd_w {β:Type}{c:Bool}{k:Option β}(h:c=true):grd c k=k:=by
 subst h;rfl
def uW_ (S:WellSchema)(a:ByteArray)(x:GStep):List WellWay:=if x.kind==1 then[⟨⟨a,x.a⟩,0⟩] else(qk_ (⟨a,x.a⟩:WellName) zGR S.rels).subs.map fun s=>⟨⟨s.type_,x.b⟩,0⟩
theorem p3_ {n:Nat}{x:GStep}{g:GRel}{b:Bool}(hl:g.subs.length<1000000):∀(d i c:Nat) (out:List WellWay),d=g.subs.length-i->i<=g.subs.length->d<c->out.length<=i->qH_ n x (g,b) c (out,(i:Int))=some (out++(g.subs.drop i).map fun s=>⟨⟨s.type_,x.b⟩,0⟩)
 |0,i,c,out,hd,hi,hc,ho=>by
  obtain⟨c,rfl⟩:∃k,c=k+1:=⟨c-1,by omega⟩;unfold qH_;dsimp only;rw[decide_eq_false (by omega),if_neg (by decide),List.drop_of_length_le (by omega)];simp
 |d+1,i,c,out,hd,hi,hc,ho=>by
  obtain⟨c,rfl⟩:∃k,c=k+1:=⟨c-1,by omega⟩;have hlt:i<g.subs.length:=by omega
  unfold qH_;dsimp only;rw[decide_eq_true (by omega),if_pos rfl,vC_,List.getElem?_eq_getElem hlt,Zo,appS (by simp only[List.length_singleton];omega),Zo,w64a (by omega),p3_ hl d (i+1) c _ (by omega) (by omega) (by omega) (by simp only[List.length_append,List.length_singleton];omega),List.drop_eq_getElem_cons hlt]
  simp only[List.map_cons,List.append_assoc,List.cons_append,List.nil_append]
theorem my_ {n:Nat}{S:WellSchema}{a:ByteArray}{x:GStep}(hS:vR_ S)(hn:1000<n):jx_ n S a x=some (uW_ S a x):=by
 unfold jx_ uW_;split
 ·rfl
 ·have hb:=(dT_ hS ⟨a,x.a⟩).1
  rw[vp_,Zo];have e:qH_ n x (qk_ (⟨a,x.a⟩:WellName) zGR S.rels,mhas (⟨a,x.a⟩:WellName) S.rels) n (([]:List WellWay),0)=_:=p3_ (by omega) _ 0 n [] rfl (Nat.zero_le _) (by omega) (Nat.le_refl _);rw[e];rfl
def tknW (x:GStep)(w:WellWay):WellWay:=if x.kind==4 then⟨w.to,1⟩ else w
theorem bv_ {n:Nat}{x:GStep}{l:List WellWay}(hl:l.length<4611686018427387904-1):∀(d i c:Nat) (t:List WellWay),d=l.length-i->i<=l.length->d<c->t=(l.take i).map (tknW x)++l.drop i->qv_ n x l c (t,(i:Int))=some (l.map (tknW x))
 |0,i,c,t,hd,hi,hc,ht=>by
  obtain⟨c,rfl⟩:∃k,c=k+1:=⟨c-1,by omega⟩;unfold qv_;rw[decide_eq_false (by omega),if_neg (by decide),ht,List.drop_of_length_le (by omega),List.take_of_length_le (by omega),List.append_nil]
 |d+1,i,c,t,hd,hi,hc,ht=>by
  obtain⟨c,rfl⟩:∃k,c=k+1:=⟨c-1,by omega⟩;have hlt:i<l.length:=by omega
  have e1:l.drop i=l[i]::l.drop (i+1):=List.drop_eq_getElem_cons hlt;have e2:(l.take (i+1)).map (tknW x)=(l.take i).map (tknW x)++[tknW x l[i]]:=by rw[List.take_succ_eq_append_getElem hlt,List.map_append];rfl
  have hp:((l.take i).map (tknW x)).length=i:=by rw[List.length_map,List.length_take];omega
  unfold qv_;rw[decide_eq_true (by omega),if_pos rfl,w64a (by omega)];cases hk:(x.kind==4) with
  |false=>
   rw[if_neg (by decide)];refine bv_ hl d (i+1) c t (by omega) (by omega) (by omega) ?_;rw[ht,e1,e2,show tknW x l[i]=l[i] from if_neg (by rw[hk];decide)];simp
  |true=>
   rw[if_pos rfl,vC_,ht,e1,List.getElem?_append_right (by omega),hp,Nat.sub_self];simp only[List.getElem?_cons_zero,Zo,Int.toNat_natCast];refine bv_ hl d (i+1) c _ (by omega) (by omega) (by omega) ?_;rw[e2,show tknW x l[i]=⟨l[i].to,1⟩ from if_pos hk,List.set_append_right _ _ (by omega),hp,Nat.sub_self,List.set_cons_zero,List.append_assoc];rfl
def stkW (S:WellSchema)(a:ByteArray)(st:List (List WellWay))(x:GStep):List (List WellWay):=
 if x.kind==1||x.kind==2 then st++[uW_ S a x]
 else if 2<=st.length then st.take (st.length-2)++[st.getD (st.length-2) []++(st.getD (st.length-1) []).map (tknW x)] else st
def szW (st:List (List WellWay)):Nat:=(st.map List.length).sum
theorem fB_ (a b:List (List WellWay)):szW (a++b)=szW a+szW b:=by unfold szW;rw[List.map_append,List.sum_append]
theorem p4_ {st:List (List WellWay)}(h:2<=st.length):∃p x y,st=p++[x,y]:=by
 refine⟨st.take (st.length-2),st[st.length-2],st[st.length-1],?_⟩;conv=>lhs;rw[<-List.take_append_drop (st.length-2) st]
 congr 1
 rw[List.drop_eq_getElem_cons (by omega),List.drop_eq_getElem_cons (by omega),List.drop_of_length_le (by omega)];simp only[show st.length-2+1=st.length-1 by omega]
theorem gt_ {n:Nat}{S:WellSchema}{a:ByteArray}{ex:List GStep}(hS:vR_ S)(hn:100000<n):∀(l:List GStep) (st:List (List WellWay)),(∀x∈l,stpP S a x)->(∀w∈st,w≠[])->st.length+l.length<=1000->szW st+60*l.length<=60000->
  xj_ (q0_ n S a ex) (jv_ n S a ex) l st=some (l.foldl (stkW S a) st)/\(∀w∈l.foldl (stkW S a) st,w≠[])/\(l.foldl (stkW S a) st).length<=1000/\szW (l.foldl (stkW S a) st)<=60000
 |[],st,_,hne,hl,hs=>⟨rfl,hne,by simpa using hl,by simpa using hs⟩
 |x::l,st,hp,hne,hl,hs=>by
  simp only[List.length_cons] at hl hs;have hx:=hp x (List.mem_cons_self ..);have hp2:∀y∈l,stpP S a y:=fun y hy=>hp y (List.mem_cons_of_mem _ hy);have ih:=fun st2 h1 h2 h3=>gt_ (ex:=ex) hS hn l st2 hp2 h1 h2 h3;rw[xj_,List.foldl_cons];generalize xj_ (q0_ n S a ex) (jv_ n S a ex) l=K at ih⊢;unfold q0_;dsimp only;by_cases hk:(x.kind==1||x.kind==2)=true
  ·have hb:(if (x.kind==1)=true then some true else some (x.kind==2))=some true:=by
    cases h1:(x.kind==1) with
    |true=>rfl
    |false=>rw[h1,Bool.false_or] at hk;rw[hk];rfl
   have hst:stkW S a st x=st++[uW_ S a x]:=if_pos hk;have hb2:=(dT_ hS ⟨a,x.a⟩).1;have hlw:(uW_ S a x).length<=51/\uW_ S a x≠[]:=by
    unfold uW_;split
    ·exact⟨by simp,by simp⟩
    ·rename_i h1
     have h2:x.kind=2:=by
      rw[Bool.or_eq_true] at hk;rcases hk with h |h
      ·exact absurd h h1
      ·exact eq_of_beq h
     refine⟨by rw[List.length_map];exact hb2,fun h=>(hx.2 h2).2.1 (List.map_eq_nil_iff.1 h)⟩
   rw[hb,Zo,if_pos rfl,my_ hS (by omega),Zo,appS (by simp only[List.length_singleton];omega),Zo,hst];refine ih _ (fun w hw=> ?_) (by rw[List.length_append,List.length_singleton];omega) ?_
   ·rcases List.mem_append.1 hw with h |h
    ·exact hne w h
    ·rw[List.mem_singleton.1 h];exact hlw.2
   ·rw[fB_]
    have:szW [uW_ S a x]=(uW_ S a x).length:=by simp[szW]
    omega
  ·have hb:(if (x.kind==1)=true then some true else some (x.kind==2))=some false:=by
    rw[Bool.or_eq_true] at hk;rw[if_neg fun h=>hk (.inl h)];exact congrArg some (Bool.eq_false_iff.2 fun h=>hk (.inr h))
   rw[hb,Zo,if_neg (by decide)];by_cases h2:2<=st.length
   ·obtain⟨p,u,v,rfl⟩:=p4_ h2
    have hlen:(p++[u,v]).length=p.length+2:=by rw[List.length_append];rfl
    have hst:stkW S a (p++[u,v]) x=p++[u++v.map (tknW x)]:=by
     unfold stkW;rw[if_neg hk,if_pos h2,hlen];simp
    have hu:u≠[]:=hne u (by simp);have hv:v≠[]:=hne v (by simp);have hsz:szW (p++[u,v])=szW p+(u.length+v.length):=by rw[fB_];simp[szW]
    rw[decide_eq_true (by rw[hlen];omega),if_pos rfl];have w1:IntKind.i64.wrap (((p++[u,v]).length:Int)-1)=((p.length+1:Nat):Int):=by
     rw[hlen];exact(congrArg IntKind.i64.wrap (show((p.length+2:Nat):Int)-1=((p.length+1:Nat):Int) by omega)).trans (w64 (by omega))
    have w2:IntKind.i64.wrap (((p++[u,v]).length:Int)-2)=((p.length:Nat):Int):=by
     rw[hlen];exact(congrArg IntKind.i64.wrap (show((p.length+2:Nat):Int)-2=((p.length:Nat):Int) by omega)).trans (w64 (by omega))
    have i1:idx (p++[u,v]) ((p.length+1:Nat):Int)=some v:=by rw[vC_,List.getElem?_append_right (by omega)];simp
    have i2:idx (p++[u,v]) ((p.length:Nat):Int)=some u:=by rw[vC_,List.getElem?_append_right (by omega)];simp
    have s1:slc (p++[u,v]) 0 ((p.length:Nat):Int)=some p:=by
     unfold slc;rw[if_pos ⟨Int.le_refl _,by omega,by rw[hlen];omega⟩];simp
    have hv0:v.length≠0:=fun h=>hv (List.eq_nil_of_length_eq_zero h);have hu0:u.length≠0:=fun h=>hu (List.eq_nil_of_length_eq_zero h);have l3:qv_ n x v n (v,0)=some (v.map (tknW x)):=bv_ (by omega) _ 0 n v rfl (Nat.zero_le _) (by omega) (by simp)
    rw[w1,w2,i1,i2,s1,Zo,decide_eq_false hv0,if_neg (by decide),grd_w (decide_eq_true (by omega)),l3,Zo,Zo,Zo,decide_eq_false hu0,if_neg (by decide),grd_w (decide_eq_true (by omega)),appS (by rw[List.length_map];omega),Zo,appS (by simp only[List.length_singleton];omega),Zo,hst];refine ih _ (fun w hw=> ?_) (by rw[List.length_append,List.length_singleton];omega) ?_
    ·rcases List.mem_append.1 hw with h |h
     ·exact hne w (List.mem_append_left _ h)
     ·rw[List.mem_singleton.1 h]
      intro he;exact hu (List.append_eq_nil_iff.1 he).1
    ·rw[fB_]
     have:szW [u++v.map (tknW x)]=u.length+v.length:=by simp[szW]
     omega
   ·have hst:stkW S a st x=st:=by
     unfold stkW;rw[if_neg hk,if_neg h2]
    rw[decide_eq_false (by omega),if_neg (by decide),hst];exact ih _ hne (by omega) (by omega)
end Go.Proofs.YtnmkbmefohakmaaGreat.Ab
