/-
 Schemas that hold together: any types hold together or not; ranks do not fall along ways. No program in sight.
-/
import Derived.Test.YtnmkbmefohakmaaGreatWlr
set_option linter.all false
namespace Go.Proofs.YtnmkbmefohakmaaGreat.Ab
open Go.RowKit IntKind
theorem wJ {hp:Hp}{nx:Nat}{x:AV}(hf:∀j,nx<=j->hp j=none):AK Tryz.prog 91 [x,.v (.slice none 0 0)] hp nx fun v hp2 nx2=>v= .v (.bool true)/\hp2=hp/\nx<=nx2:=by
 refine zq Tryz.func91 ?_;refine D3 ?_;refine ET ?_;refine EI (α:={ k:Nat // nx<=k }) (fun k=>⟨upd 1 (.v (.slice none 0 0)) AQ,upd (nx+1) (some (.mo [] false)) hp,k.1⟩) ?_ ?_
 ·refine CN ?_;refine DS (α:=Unit) (fun _=>⟨upd 1 (.v (.slice none 0 0)) (upd 16 (.v (.int .i64 0)) (upd 17 (.v (.int .i64 0)) AQ)),upd (nx+1) (some (.mo [] false)) hp,nx+1+2+3⟩) (fun _=>0) () ?_ ?_
  ·exact CH
  rintro⟨⟩;refine D3 ?_;exact⟨⟨_,by omega⟩,CH⟩
 rintro⟨k,hk⟩;refine ET ?_;refine CN ?_;refine DS (α:={ t:Bool × Nat // nx<=t.2 }) (fun t=>⟨upd 1 (.v (.slice none 0 0)) (upd 8 (.v (.bool t.1.1)) AQ),upd (nx+1) (some (.mo [] false)) hp,t.1.2⟩) (fun t=>if t.1.1 then 1 else 0) ⟨(true,k+1),by dsimp only;omega⟩ ?_ ?_
 ·exact CH
 rintro⟨⟨b,nxa⟩,ha⟩;dsimp only at ha;refine AW (AW ?_);refine ZT 1 ?_;cases b with
 |false=>
  refine GI ?_;refine Az ?_;refine AN ?_;refine⟨_,hp,rfl,⟨fun i=> ?_⟩,rfl,rfl,by dsimp only;omega⟩;by_cases hi:i=nx+1
  ·exact .inl (hf i (by omega))
  ·exact .inr (Ad _ _ hi).symm
 |true=>
  refine GI ?_;refine CN ?_;refine D3 ?_;refine CN ?_;refine DS (α:=Unit) (fun _=>⟨upd 1 (.v (.slice none 0 0)) (upd 8 (.v (.bool false)) (upd 29 (.v (.int .i64 0)) (upd 30 (.v (.int .i64 0)) AQ))),upd (nx+1) (some (.mo [] false)) hp,nxa+1+1+3⟩) (fun _=>0) () ?_ ?_
  ·exact CH
  rintro⟨⟩;refine D3 ?_;exact⟨⟨(false,nxa+1+1+3+1),by dsimp only;omega⟩,CH,Nat.zero_lt_one⟩
def PY (n:Nat)(S:AC)(a:ByteArray):List Ac->List AA->Option (List AA ⊕ Int)
 |[],ns=>some (.inl ns)
 |g::r,ns=>if ns.length<1000000000 then(Vy n S a g).bind fun e=>if e==0 then PY n S a r (ns++[⟨a,g.name⟩]) else some (.inr e) else none
def PZ (n:Nat)(S:AC):List AT->List AA->Option (List AA ⊕ Int)
 |[],ns=>some (.inl ns)
 |t::r,ns=>(PY n S t.name t.rels ns).bind fun | .inl ns2=>PZ n S r ns2 | .inr e=>some (.inr e)
def Hy (n:Nat)(T:List (ByteArray × Int))(R:List (AA × Ac)):List AA ⊕ Int->Option (AC ⊕ Int)
 | .inr e=>some (.inr e)
 | .inl []=>some (.inl ⟨T,R,[]⟩)
 | .inl (m::r)=>(GN n (m::r) 0 r.length).bind fun os=>(RP n ⟨T,R,[]⟩ os []).bind fun W=>if (∀m∈os,(mget m W).isSome=true)/\(∀p∈W,p.2.length<1000000000)/\os.length<1000000000 then (Kk W (os.length:Int) os n []).bind fun |none=>some (.inr 14) |some K=>some (.inl ⟨T,R,K⟩) else none
def I6 (n:Nat)(l:List AT):Option (AC ⊕ Int):=if l.length<1000000/\∀t∈l,t.rels.length<1000000 then (if (xc_ l [] []).2.2==0 then(PZ n ⟨(xc_ l [] []).1,(xc_ l [] []).2.1,[]⟩ l []).bind (Hy n (xc_ l [] []).1 (xc_ l [] []).2.1) else some (.inr (xc_ l [] []).2.2)) else none
def Vp:AC ⊕ Int->D
 | .inl S=>.tu [.pt (Ap S) 0,.v (.int .i64 0)]
 | .inr e=>.tu [.v (.pointer none),.v (.int .i64 e)]
set_option maxRecDepth 8000 in
theorem my {n:Nat}{l:List AT}{r:AC ⊕ Int}(h:I6 n l=some r):CQ Tryz.prog 62 [.d (.sl (l.map Ak))] (Vp r) false:=by
 unfold I6 at h;split at h;rotate_left
 ·cases h
 rename_i hg;obtain⟨hg1,hg2⟩:=hg;obtain⟨T,eT⟩:∃T,T=(xc_ l [] []).1:=⟨_,rfl⟩;obtain⟨R,eR⟩:∃R,R=(xc_ l [] []).2.1:=⟨_,rfl⟩;obtain⟨e,ee⟩:∃e,e=(xc_ l [] []).2.2:=⟨_,rfl⟩;have hc:xc_ l [] []=(T,R,e):=by rw[eT,eR,ee]
 rw[hc] at h;dsimp only at h;refine bj EO D7 (rs:= #[.tmp 2,.tmp 3]) Tryz.func62 ?_;refine D3 ?_;have hH:upd 6 (some (.bx [.mo 2,.mo 3,.mo 4])) (upd 4 (some (.mo [] false)) (upd 3 (some (.mo [] false)) (upd 2 (some (.mo [] false)) AS)))=(upd 6 (some (.bx [.mo 2,.mo 3,.mo 4])) (upd 4 (some (.mo (AP qb_ vI []) false)) (upd 3 (some (.mo (AP qb_ vR []) false)) (upd 2 (some (.mo (AP .string vI []) false)) AS))):Hp):=rfl;rw[hH];obtain⟨hp0,e0⟩:∃hp0,hp0=(upd 6 (some (.bx [.mo 2,.mo 3,.mo 4])) (upd 4 (some (.mo (AP qb_ vI []) false)) (upd 3 (some (.mo (AP qb_ vR []) false)) (upd 2 (some (.mo (AP .string vI []) false)) AS))):Hp):=⟨_,rfl⟩;rw[<-e0];have q0:hp0 6=some (.bx [.mo 2,.mo 3,.mo 4]):=by rw[e0];rfl
 have q1:hp0 2=some (.mo (AP .string vI []) false):=by rw[e0];rfl
 have q2:hp0 3=some (.mo (AP qb_ vR []) false):=by rw[e0];rfl
 have q3:hp0 4=some (.mo (AP qb_ vI []) false):=by rw[e0];rfl
 have qf:∀j,7<=j->hp0 j=none:=fun j hj=>by rw[e0,AR,AR,AR,AR];rfl
 refine Az ?_;refine CG ((wI (nx:=12) (fun j hj=>qf j (by omega)) hg1 hg2 q0 q1 q2 (by decide) (by decide) (by decide) hc).mono ?_);rintro v hpS nx2 ⟨rfl,eS,hle⟩;have s0:hpS 6=some (.bx [.mo 2,.mo 3,.mo 4]):=by rw[eS];unfold hpC;rw[Ad _ _ (by decide),Ad _ _ (by decide)];exact q0
 have s1:hpS 2=some (.mo (AP .string vI T) false):=by rw[eS];unfold hpC;rw[Ad _ _ (by decide),Ah]
 have s2:hpS 3=some (.mo (AP qb_ vR R) false):=by rw[eS];unfold hpC;rw[Ah]
 have s3:hpS 4=some (.mo (AP qb_ vI []) false):=by rw[eS];unfold hpC;rw[Ad _ _ (by decide),Ad _ _ (by decide)];exact q3
 have sf:∀j,7<=j->hpS j=none:=fun j hj=>by rw[eS];unfold hpC;rw[AR,AR];exact qf j hj
 cases he:(e==0) with
 |false=>
  have he2:(e != 0)=true:=by rw[bne,he];rfl
  rw[he,if_neg (by decide)] at h;cases h;refine Z1 he2 ?_;exact Mt (b:=true) (v:=.tu [.v (.pointer none),.v (.int .i64 e)]) (by simp -implicitDefEqProofs only[go_sem, ↓reduceIte,Ah,Nat.reduceEqDiff]<;>rfl) (.tu (PW.cons (CW.one (Ce.one (b':=false) (is:=[]) rfl (fun _=>rfl)) rfl) (PW.cons (CW.one (Ce.one (b':=false) (is:=[]) rfl (fun _=>rfl)) rfl) PW.nil))) fun h=>nomatch h
 |true=>
  have he2:(e != 0)=false:=by rw[bne,he];rfl
  rw[he,if_pos rfl] at h;obtain⟨ro,hro,h⟩:=AJ h;refine Ck he2 ?_;refine Z0 ?_;refine ET ?_;have A:∀(oid over:Nat) (ns:List AA),(ns≠[]->7<=oid)->∀j,j<7->Dh oid 2 over (ns.map AX) hpS j=hpS j:=fun oid over ns ho j hj=>Hh fun hn=>by have:=ho (by simpa using hn);omega
  have Af:∀(oid over nx:Nat) (ns:List AA),(ns≠[]->oid<nx)->7<=nx->∀j,nx<=j->Dh oid 2 over (ns.map AX) hpS j=none:=fun oid over nx ns ho h7 j hj=>by rw[Hh fun hn=>by have:=ho (by simpa using hn);omega];exact sf j (by omega)
  refine EI (α:={ t:List AA × Nat × Nat × Nat // (t.1≠[]->7<=t.2.1/\t.2.1<t.2.2.2)/\7<=t.2.2.2/\t.1.length<=1000000000/\ro= .inl t.1 }) (fun t=>⟨upd 4 (.pt 6 0) (upd 6 (Aa t.1.2.1 t.1.2.2.1 (t.1.1.map AX)) AQ),Dh t.1.2.1 2 t.1.2.2.1 (t.1.1.map AX) hpS,t.1.2.2.2⟩) ?_ ?_
  ·refine CN ?_;refine DS (α:={ t:Nat × List AA × Nat × Nat × Nat // t.1<=l.length/\(t.2.1≠[]->7<=t.2.2.1/\t.2.2.1<t.2.2.2.2)/\7<=t.2.2.2.2/\t.2.1.length<=1000000000/\PZ n ⟨T,R,[]⟩ (l.drop t.1) t.2.1=some ro })
    (fun t=>⟨upd 4 (.pt 6 0) (upd 6 (Aa t.1.2.2.1 t.1.2.2.2.1 (t.1.2.1.map AX)) (upd 23 (.d (.sl (l.map Ak)) true) (upd 24 (.v (.int .i64 (l.length:Int))) (upd 25 (.v (.int .i64 (t.1.1:Int))) AQ)))),Dh t.1.2.2.1 2 t.1.2.2.2.1 (t.1.2.1.map AX) hpS,t.1.2.2.2.2⟩) (fun t=>l.length-t.1.1)
    ⟨(0,[],0,0,nx2+2+1+3),Ll _,fun hn=>absurd rfl hn,by dsimp only;omega,Ll _,hro⟩ ?_ ?_
   ·exact CH
   rintro⟨⟨i,ns,oid,over,nxi⟩,hi,ho,h7,hnl,hs⟩;dsimp only at hi ho h7 hnl hs;refine AW (ZT 1 ?_);by_cases hlt:i<l.length;rotate_left
   ·have c1:(decide ((i:Int)<(l.length:Int)))=false:=Cr;obtain rfl:i=l.length:=(by omega);rw[NX] at hs;refine Ck c1 ?_;refine Z0 ?_;exact⟨⟨(ns,oid,over,nxi+1),fun hn=>by have:=ho hn;dsimp only;omega,by dsimp only;omega,hnl,(LI hs).symm⟩,CH⟩
   have c1:(decide ((i:Int)<(l.length:Int)))=true:=Cb;have e1:l[i]? =some l[i]:=Ld hlt;have ed:l.drop i=l[i]::l.drop (i+1):=Ly hlt;have hrt:=hg2 _ (NV hlt);rw[ed] at hs;generalize l[i]=ty at e1 hs hrt;have e2:(l.map Ak)[i]? =some (Ak ty):=Cs Ak e1;unfold PZ at hs;obtain⟨rr,hrr,hs⟩:=AJ hs;refine Ck c1 ?_;refine Z0 ?_;refine AW (CN ?_);refine AW (ZT 1 ?_);have w:=Y2 e2 (Y2 (Cx .i64 (show(0:Int)<=(i:Int) by omega)) (show((i:Int)).toNat=i from Lv _));refine Z1 w ?_;obtain⟨tb,etb⟩:∃tb,tb=nxi+1+2:=⟨_,rfl⟩;rw[<-etb,EL];refine AW (ZT 1 ?_);refine Z1 (Ah tb (some (.bx [.v (.string ty.name),.d (.sl (ty.rels.map Al)) true])) (Dh oid 2 over (ns.map AX) hpS)) ?_;refine CN ?_;refine DS (α:={ t:Nat × List AA × Nat × Nat × Nat // t.1<=ty.rels.length/\(t.2.1≠[]->7<=t.2.2.1/\t.2.2.1<t.2.2.2.2/\t.2.2.1≠tb)/\tb<t.2.2.2.2/\t.2.1.length<=1000000000/\PY n ⟨T,R,[]⟩ ty.name (ty.rels.drop t.1) t.2.1=some rr })
    (fun t=>⟨upd 4 (.pt 6 0) (upd 6 (Aa t.1.2.2.1 t.1.2.2.2.1 (t.1.2.1.map AX)) (upd 8 (.pt tb 0) (upd 23 (.d (.sl (l.map Ak)) true) (upd 24 (.v (.int .i64 (l.length:Int))) (upd 25 (.v (.int .i64 (i:Int))) (upd 30 (.d (.sl (ty.rels.map Al)) true) (upd 31 (.v (.int .i64 (ty.rels.length:Int))) (upd 32 (.v (.int .i64 (t.1.1:Int))) AQ)))))))),upd tb (some (.bx [.v (.string ty.name),.d (.sl (ty.rels.map Al)) true])) (Dh t.1.2.2.1 2 t.1.2.2.2.1 (t.1.2.1.map AX) hpS),t.1.2.2.2.2⟩) (fun t=>ty.rels.length-t.1.1)
    ⟨(0,ns,oid,over,nxi+1+4+4),Ll _,fun hn=>by have:=ho hn;dsimp only;omega,by dsimp only;omega,hnl,hrr⟩ ?_ ?_
   ·exact CH
   rintro⟨⟨j,ms,od2,ov2,nxj⟩,hj,hod,htj,hml,hsj⟩;dsimp only at hj hod htj hml hsj;refine AW (ZT 1 ?_);by_cases hjl:j<ty.rels.length;rotate_left
   ·have c2:(decide ((j:Int)<(ty.rels.length:Int)))=false:=Cr;obtain rfl:j=ty.rels.length:=(by omega);rw[NX] at hsj;cases hsj;dsimp only at hs;refine Ck c2 ?_;refine Z0 ?_;refine ZT 1 ?_;refine Z1 (As (n:=i)) ?_;refine⟨⟨(i+1,ms,od2,ov2,nxj+1+2),hlt,fun hn=>by have:=hod hn;dsimp only;omega,by dsimp only;omega,hml,hs⟩,.weak ⟨Cv rfl C7,fun k=> ?_,by dsimp only;omega⟩,by dsimp only;omega⟩;dsimp only;by_cases hk:k=tb
    ·exact .inl (by rw[Hh fun hn=>by have:=hod (by simpa using hn);omega];exact sf k (by omega))
    exact .inr (Ad _ _ hk).symm
   have c2:(decide ((j:Int)<(ty.rels.length:Int)))=true:=Cb;have e3:ty.rels[j]? =some ty.rels[j]:=Ld hjl;have ed2:ty.rels.drop j=ty.rels[j]::ty.rels.drop (j+1):=Ly hjl;rw[ed2] at hsj;generalize ty.rels[j]=g at e3 hsj;have e4:(ty.rels.map Al)[j]? =some (Al g):=Cs Al e3;unfold PY at hsj;split at hsj;rotate_left
   ·cases hsj
   rename_i hm9;obtain⟨en,hen,hsj⟩:=AJ hsj;refine Ck c2 ?_;refine Z0 ?_;refine AW (CN ?_);refine AW (ZT 1 ?_);have w2:=Y2 e4 (Y2 (Cx .i64 (show(0:Int)<=(j:Int) by omega)) (show((j:Int)).toNat=j from Lv _));refine Z1 w2 ?_;generalize eD:(upd (nxj+1+2) (some _) _:Hp)=hpD;have da:∀k,k≠nxj+1+2->hpD k=upd tb (some (.bx [.v (.string ty.name),.d (.sl (ty.rels.map Al)) true])) (Dh od2 2 ov2 (ms.map AX) hpS) k:=fun k h1=>(by rw[<-eD,Ad _ _ h1,Ad _ _ h1]);have dS:∀k,k<7->hpD k=hpS k:=fun k hk=>(by rw[da k (by omega),AR,A od2 ov2 ms (fun hn=>(hod hn).1) k hk]);have dt:hpD tb=some (.bx [.v (.string ty.name),.d (.sl (ty.rels.map Al)) true]):=(by rw[da tb (by omega),Ah]);have dr:hpD (nxj+1+2)=some (.bx [.v (.string g.name),.d (.sl (g.subs.map AZ)) true,.d (.sl (g.expr.map Aj)) true]):=(by rw[<-eD,Ah]);have dw:ms≠[]->hpD od2=some (.rw (ms.map AX) 2 ov2 false false):=fun hn=>(by have:=hod hn;rw[da od2 (by omega),Ad _ _ this.2.2,KZ (by simpa using hn)]);refine AW (AW ?_);refine ZT 1 ?_;refine Z1 (Y2 dt dr) ?_
   refine rq (b:=true) (PW.cons (DZ.d (CW.one (Hx ((dS 6 (by decide)).trans s0) ((dS 2 (by decide)).trans s1) ((dS 3 (by decide)).trans s2) ((dS 4 (by decide)).trans s3)) rfl)) (PW.cons (DZ.d (CW.one (Ce.one (b':=false) (is:=[]) rfl (fun _=>rfl)) rfl)) (PW.cons (DZ.d (CW.agP (PW.cons (Ce.one (b':=false) (is:=[]) rfl (fun _=>rfl)) (PW.cons (Ce.one (b':=true) (is:=[]) rfl (fun _=>rfl)) (PW.cons (Ce.one (b':=true) (is:=[]) rfl (fun _=>rfl)) PW.nil))))) PW.nil))) (CQ.of_pure (wV hen)) ?_;refine Dj ?_;cases hz:(en==0) with
   |false=>
    have hz2:(en != 0)=true:=(by rw[bne,hz];rfl);rw[hz,if_neg (by decide)] at hsj;cases hsj;cases hs;cases h;refine Z1 hz2 ?_;refine EV (c:=true) rfl rfl ?_;refine Az ?_;refine AN ?_;exact Mt (b:=true) (v:=.tu [.v (.pointer none),.v (.int .i64 en)]) (by simp -implicitDefEqProofs only[go_sem, ↓reduceIte,Ah,Nat.reduceEqDiff]<;>rfl) (.tu (PW.cons (CW.one (Ce.one (b':=false) (is:=[]) rfl (fun _=>rfl)) rfl) (PW.cons (CW.one (Ce.one (b':=false) (is:=[]) rfl (fun _=>rfl)) rfl) PW.nil))) fun h=>nomatch h
   |true=>
    have hz2:(en != 0)=false:=(by rw[bne,hz];rfl);rw[hz,if_pos rfl] at hsj;refine Z1 hz2 ?_;refine DF (c:=false) rfl rfl ?_;refine AN ?_;refine ZT 1 ?_;cases ms with
    |nil=>
     refine Z1 (Y2 dt dr) ?_;generalize eU:(upd (nxj+1+4+6+2+7) (some _) _:Hp)=hpU;have u1:hpU (nxj+1+4+6+2+7)=some (.rw (([]++[(⟨ty.name,g.name⟩:AA)]).map AX) 2 (0) false false):=(by rw[<-eU,Ah];simp);have u3:∀k,k≠nxj+1+4+6+2+7->k<nxj->hpU k=hpD k:=fun k h1 h2=>(by rw[<-eU,Ad _ _ h1,AR]);refine ZT 1 ?_;refine Z1 (As (n:=j)) ?_;refine⟨⟨(j+1,[]++[⟨ty.name,g.name⟩],nxj+1+4+6+2+7,0,nxj+60),hjl,fun _=>by skip;dsimp only;omega,by dsimp only;omega,by rw[Lf,Lr];omega,hsj⟩,.weak ⟨Cv rfl C7,fun k=> ?_,by dsimp only;omega⟩,by dsimp only;omega⟩;dsimp only
     by_cases k1:k=nxj+1+4+6+2+7
     ·refine .inr ?_;rw[k1,u1,Ad _ _ (by skip;omega),KZ (by simp)]
     by_cases k2:k<nxj
     ·refine .inr ?_;rw[u3 k k1 k2,da k (by omega)];by_cases k3:k=tb
      ·rw[k3,Ah,Ah]
      rw[Ad _ _ k3,Ad _ _ k3,Hh fun _=>k1];rfl
     ·exact .inl (by rw[AR,Hh fun _=>k1];exact sf k (by omega))
    |cons b u=>
     have hdw:=dw (by simp);have hlt2:(u.length+1+1<=4294967296)=True:=eq_true (by simp only[Lg] at hml;omega);have f1:(od2=nxj+1+4+6+2+6)=False:=eq_false (by have:=hod (by simp);omega);refine Z1 (Y5 dt dr f1 hdw hlt2) ?_;generalize eU:(upd (od2) (some _) _:Hp)=hpU;have u1:hpU (od2)=some (.rw (((b::u)++[(⟨ty.name,g.name⟩:AA)]).map AX) 2 (ov2+1) false false):=(by rw[<-eU,Ah];simp);have u3:∀k,k≠od2->k<nxj->hpU k=hpD k:=fun k h1 h2=>(by rw[<-eU,Ad _ _ h1,AR]);refine ZT 1 ?_;refine Z1 (As (n:=j)) ?_;refine⟨⟨(j+1,(b::u)++[⟨ty.name,g.name⟩],od2,ov2+1,nxj+60),hjl,fun _=>by have:=hod (by simp);dsimp only;omega,by dsimp only;omega,by rw[Lf,Lr];omega,hsj⟩,.weak ⟨Cv rfl (Cv (by simp[Aa,upd]) C7),fun k=> ?_,by dsimp only;omega⟩,by dsimp only;omega⟩;dsimp only
     by_cases k1:k=od2
     ·refine .inr ?_;rw[k1,u1,Ad _ _ (by have:=hod (by simp);omega),KZ (by simp)]
     by_cases k2:k<nxj
     ·refine .inr ?_;rw[u3 k k1 k2,da k (by omega)];by_cases k3:k=tb
      ·rw[k3,Ah,Ah]
      rw[Ad _ _ k3,Ad _ _ k3,Hh fun _=>k1,Hh fun hn=>k1]
     exact .inl (by rw[AR,Hh fun _=>k1];exact sf k (by omega))
  rintro⟨⟨ns,oid,over,nxk⟩,ho,h7,hnl,rfl⟩;dsimp only at ho h7 hnl;cases ns with
  |nil=>
   refine Az ?_;refine CG (rev_nil.mono ?_);rintro v hpV nxV ⟨rfl,rfl,hleV⟩;dsimp only at hleV;refine Z0 ?_;refine ET ?_;refine CG ((wJ fun k hk=>sf k (by dsimp only at hk;omega)).mono ?_);rintro v hpR nxR ⟨rfl,eR2,hleR⟩;dsimp only at hleR;subst eR2;cases h;refine Z0 ?_;refine DF (c:=false) rfl rfl ?_;refine AN ?_;refine Az ?_;refine AN ?_;exact Mt (b:=true) (v:=.tu [.pt 6 0,.v (.int .i64 0)]) (by simp -implicitDefEqProofs only[go_sem, ↓reduceIte,Ah,Nat.reduceEqDiff]<;>rfl) (.tu (PW.cons (CW.one (Hx s0 s1 s2 s3) rfl) (PW.cons (CW.one (Ce.one (b':=false) (is:=[]) rfl (fun h=>by cases h)) rfl) PW.nil))) fun h=>nomatch h
  |cons b u=>
   have hoo:=ho (by simp);dsimp only[Hy] at h;obtain⟨os,hos,h⟩:=AJ h;obtain⟨W,hW,h⟩:=AJ h;split at h;rotate_left
   ·cases h
   rename_i hgW;obtain⟨g1,g2,g3⟩:=hgW;obtain⟨rk,hrk,h⟩:=AJ h;have hol:=nJ hos;refine Az ?_;refine CG ((RT (xs:=b::u) (L:=(b::u).length) (KZ (by simp)) rfl (by simp) (by omega) hos).mono ?_);rintro v hpV nxV ⟨rfl,eV,hleV⟩;dsimp only at hleV;have hol2:u.length+1=os.length:=hol.symm;have v6:hpV 6=some (.bx [.mo 2,.mo 3,.mo 4]):=(by rw[eV,AR];exact(A oid over (b::u) (fun _=>hoo.1) 6 (by decide)).trans s0);have v2:hpV 2=some (.mo (AP .string vI T) false):=(by rw[eV,AR];exact(A oid over (b::u) (fun _=>hoo.1) 2 (by decide)).trans s1);have v3:hpV 3=some (.mo (AP qb_ vR R) false):=(by rw[eV,AR];exact(A oid over (b::u) (fun _=>hoo.1) 3 (by decide)).trans s2);have v4:hpV 4=some (.mo (AP qb_ vI []) false):=(by rw[eV,AR];exact(A oid over (b::u) (fun _=>hoo.1) 4 (by decide)).trans s3);have vo:hpV oid=some (.rw (os.map AX) 2 over false false):=(by rw[eV,Ah]);have vf:∀k,nxk<=k->hpV k=none:=fun k hk=>(by rw[eV,AR];exact Af oid over nxk (b::u) (fun _=>hoo.2) h7 k hk);refine Z1 hol2 ?_;refine ET ?_;refine CG ((wH (fun k hk=>vf k (by dsimp only at hk;omega)) (by omega) g3 v6 v2 v3 v4 vo ⟨by decide,by decide,by decide,by decide,by decide,by decide⟩ ⟨by omega,by omega,by omega,by omega⟩ hW g1 g2 hrk).mono ?_);rintro v hpR nxR ⟨rfl,⟨K,hK,eR2⟩,hleR⟩;dsimp only at hleR;cases rk with
   |none=>
    cases h;refine Z0 ?_;refine EV (c:=true) rfl rfl ?_;refine Az ?_;refine AN ?_;exact Mt (b:=true) (v:=.tu [.v (.pointer none),.v (.int .i64 14)]) (by simp -implicitDefEqProofs only[go_sem, ↓reduceIte,Ah,Nat.reduceEqDiff]<;>rfl) (.tu (PW.cons (CW.one (Ce.one (b':=false) (is:=[]) rfl (fun _=>rfl)) rfl) (PW.cons (CW.one (Ce.one (b':=false) (is:=[]) rfl (fun _=>rfl)) rfl) PW.nil))) fun h=>nomatch h
   |some K'=>
    cases h;obtain rfl:=hK K' rfl;subst eR2;have x6:(upd 4 (some (.mo (AP qb_ vI K') false)) hpV:Hp) 6=_:=(Ad _ _ (by decide)).trans v6;have x4:(upd 4 (some (.mo (AP qb_ vI K') false)) hpV:Hp) 4=_:=Ah _ _ _;have x2:(upd 4 (some (.mo (AP qb_ vI K') false)) hpV:Hp) 2=_:=(Ad _ _ (by decide)).trans v2;have x3:(upd 4 (some (.mo (AP qb_ vI K') false)) hpV:Hp) 3=_:=(Ad _ _ (by decide)).trans v3;refine Z0 ?_;refine DF (c:=false) rfl rfl ?_;refine AN ?_;refine Az ?_;refine AN ?_;exact Mt (b:=true) (v:=.tu [.pt 6 0,.v (.int .i64 0)]) (by simp -implicitDefEqProofs only[go_sem, ↓reduceIte,Ah,Nat.reduceEqDiff]<;>rfl) (.tu (PW.cons (CW.one (Hx (d3:=false) x6 x2 x3 x4) rfl) (PW.cons (CW.one (Ce.one (b':=false) (is:=[]) rfl (fun h=>by cases h)) rfl) PW.nil))) fun h=>nomatch h
abbrev DX:Ac:=⟨ByteArray.empty,[],[]⟩
def Fw (S:AC):Prop:=∀p∈S.rels,FR p.2
theorem Kl {S:AC}(h:Fw S)(m:AA):FR (qg_ m DX S.rels):=by
 unfold qg_;cases hm:mget m S.rels with
 |none=>exact⟨Ll _,Ll _,.inl rfl,(by intro _ h;cases h),bN⟩
 |some g=>exact h _ (dK hm)
theorem JM (n:Nat)(S:AC)(a b:ByteArray):Gm n S a b=some (qg_ ⟨a,b⟩ DX S.rels,Ar ⟨a,b⟩ S.rels):=rfl
def Vq (S:AC)(b:ByteArray)(s:AL):Prop:=Ar (⟨s.type_,b⟩:AA) S.rels=true/\(s.rel.toList==({ data:= #[] }:ByteArray).toList)=true
theorem mz {n:Nat}{S:AC}{x:AY}{g:Ac}{b:Bool}(hl:g.subs.length<1000000):∀(d i c:Nat),d=g.subs.length-i->i<=g.subs.length->d<c->∃r,S8 n S x (g,b) c (i:Int)=some r/\(r= .inl ()->∀s∈g.subs.drop i,Vq S x.b s)/\∀e,r= .inr e->e≠0
 |0,i,c,hd,hi,hc=>by
  obtain⟨c,rfl⟩:=sx c;unfold S8;dsimp only;rw[Cr,if_neg (by decide),NL (by omega)];exact⟨_,rfl,fun _ _ h=>(by cases h),fun _ h=>(by cases h)⟩
 |d+1,i,c,hd,hi,hc=>by
  obtain⟨c,rfl⟩:=sx c;have hlt:i<g.subs.length:=by omega
  unfold S8;dsimp only;rw[Cb,if_pos rfl,Mp,Ld hlt,Zo,JM,Zo,Ly hlt];dsimp only;cases h1:Ar (⟨g.subs[i].type_,x.b⟩:AA) S.rels with
  |false=>exact⟨_,rfl,fun h=>(by cases h),fun _ h=>(by cases h;decide)⟩
  |true=>
   rw[if_pos rfl];cases h2:(g.subs[i].rel.toList==({ data:= #[] }:ByteArray).toList) with
   |false=>exact⟨_,rfl,fun h=>(by cases h),fun _ h=>(by cases h;decide)⟩
   |true=>
    rw[if_pos rfl,As];obtain⟨r,e1,e2,e3⟩:=mz (n:=n) (S:=S) (x:=x) (b:=b) hl d (i+1) c (by omega) (by omega) (by omega);refine⟨r,e1,fun hr s hs=> ?_,e3⟩;rcases Lm.1 hs with rfl |hs
    ·exact⟨h1,h2⟩
    exact e2 hr s hs
def Vr (S:AC)(a:ByteArray)(x:AY):Prop:=Ar (⟨a,x.a⟩:AA) S.rels=true/\(qg_ (⟨a,x.a⟩:AA) DX S.rels).subs≠[]/\∀s∈(qg_ (⟨a,x.a⟩:AA) DX S.rels).subs,Vq S x.b s
theorem wK {n:Nat}{S:AC}{a:ByteArray}{x:AY}(hS:Fw S)(hn:1000<n):∃e,S9 n S a x=some e/\(e=0->Vr S a x):=by
 unfold S9;rw[JM,Zo];dsimp only;have hb:=(Kl hS ⟨a,x.a⟩).1;cases h1:Ar (⟨a,x.a⟩:AA) S.rels with
 |false=>exact⟨_,rfl,fun h=>by cases h⟩
 |true=>
  rw[if_pos rfl];cases h2:(((qg_ (⟨a,x.a⟩:AA) DX S.rels).subs.length:Int)==0) with
  |true=>exact⟨_,rfl,fun h=>by cases h⟩
  |false=>
   rw[if_neg (by decide)];obtain⟨r,e1,e2,e3⟩:=mz (n:=n) (S:=S) (x:=x) (g:=qg_ (⟨a,x.a⟩:AA) DX S.rels) (b:=true) (by omega) _ 0 n rfl (Ll _) (by omega);have e1:S8 n S x (qg_ (⟨a,x.a⟩:AA) DX S.rels,true) n 0=some r:=e1;rw[e1,Zo];cases r with
   |inl u=>
    refine⟨0,rfl,fun _=>⟨h1,fun h=> ?_,e2 rfl⟩⟩;rw[h] at h2;cases h2
   |inr e=>grind
def Vs (S:AC)(s:AL):Prop:=qg_ s.type_ 0 S.types≠0/\((s.rel.toList==({ data:= #[] }:ByteArray).toList)=true\/Ar (⟨s.type_,s.rel⟩:AA) S.rels=true)
theorem m5 {n:Nat}{S:AC}{g:Ac}:∀l:List AL,∃r,Eb (Vw n S g) (YP n S g) l ()=some r/\(r= .inl ()->∀s∈l,Vs S s)/\∀e,r= .inr e->e≠0
 |[]=>⟨_,rfl,fun _ _ h=>(by cases h),fun _ h=>(by cases h)⟩
 |s::l=>by
  obtain⟨r,e1,e2,e3⟩:=m5 (n:=n) (S:=S) (g:=g) l;rw[Eb];generalize Eb (Vw n S g) (YP n S g) l=K at e1⊢;unfold Vw;dsimp only;rw[JM,Zo,e1];dsimp only;split
  ·simp
  rename_i h0;have h0:qg_ s.type_ 0 S.types≠0:=fun e=>h0 (by rw[e];rfl);split
  ·rename_i h;refine⟨r,rfl,fun hr x hx=> ?_,e3⟩;rcases Lm.1 hx with rfl |hx
   ·exact⟨h0,.inl h⟩
   exact e2 hr x hx
  split
  ·rename_i h;refine⟨r,rfl,fun hr x hx=> ?_,e3⟩;rcases Lm.1 hx with rfl |hx
   ·exact⟨h0,.inr h⟩
   exact e2 hr x hx
  simp
def KJ (S:AC)(a:ByteArray)(x:AY):Prop:=(x.kind=1->Ar (⟨a,x.a⟩:AA) S.rels=true)/\(x.kind=2->Vr S a x)
theorem m8 {n:Nat}{S:AC}{a:ByteArray}{g:Ac}(hS:Fw S)(hn:1000<n):∀l:List AY,∃r,Eb (Vx n S a g) (YQ n S a g) l ()=some r/\(r= .inl ()->∀x∈l,KJ S a x)/\∀e,r= .inr e->e≠0
 |[]=>⟨_,rfl,fun _ _ h=>(by cases h),fun _ h=>(by cases h)⟩
 |x::l=>by
  obtain⟨r,e1,e2,e3⟩:=m8 (n:=n) (a:=a) (g:=g) hS hn l;rw[Eb];generalize Eb (Vx n S a g) (YQ n S a g) l=K at e1⊢;unfold Vx;dsimp only;rw[e1];split
  ·rename_i hk;obtain⟨e,q1,q2⟩:=wK (a:=a) (x:=x) hS hn;rw[q1,Zo];split
   ·grind
   rename_i h;refine⟨r,rfl,fun hr y hy=> ?_,e3⟩;rcases Lm.1 hy with rfl |hy
   ·exact⟨fun h1=>(by rw[h1] at hk;cases hk),fun _=>q2 (by simpa using h)⟩
   exact e2 hr y hy
  rename_i hk;rw[JM,Zo];dsimp only;split
  ·rename_i h;refine⟨r,rfl,fun hr y hy=> ?_,e3⟩;rcases Lm.1 hy with rfl |hy
   ·exact⟨fun _=>h,fun h2=>by rw[h2] at hk;exact absurd rfl hk⟩
   exact e2 hr y hy
  split
  ·simp
  rename_i h1;refine⟨r,rfl,fun hr y hy=> ?_,e3⟩;rcases Lm.1 hy with rfl |hy
  ·exact⟨fun h=>(by rw[h] at h1;exact absurd rfl h1),fun h2=>by rw[h2] at hk;exact absurd rfl hk⟩
  exact e2 hr y hy
def MY (S:AC)(a:ByteArray)(g:Ac):Prop:=(∀s∈g.subs,Vs S s)/\∀x∈g.expr,KJ S a x
theorem wL {n:Nat}{S:AC}{a:ByteArray}{g:Ac}(hS:Fw S)(hg:FR g)(hn:1000<n):∃e,Vy n S a g=some e/\(e=0->MY S a g):=by
 have h1:=hg.1;have h2:=hg.2.1;obtain⟨r,e1,e2,e3⟩:=m5 (n:=n) (S:=S) (g:=g) g.subs;obtain⟨q,q1,q2,q3⟩:=m8 (n:=n) (a:=a) (g:=g) hS hn g.expr;have f1:qI_ n S g n 0=_:=wT n S g (by omega) n () 0 (Ll _) (by omega);have f2:qw_ n S a g n 0=_:=wU n S a g (by omega) n () 0 (Ll _) (by omega);rw[Nt] at f1 f2;unfold Vy;rw[f1,e1,Zo];cases r with
 |inr e=>grind
 |inl u=>
  dsimp only;rw[f2,q1,Zo];cases q with
  |inr e=>grind
  |inl u=>exact⟨0,rfl,fun _=>⟨e2 rfl,q2 rfl⟩⟩
theorem Pa {β:Type}{c:Bool}{k:Option β}(h:c=true):DD c k=k:=by
 subst h;rfl
def Gu (S:AC)(a:ByteArray)(x:AY):List AG:=if x.kind==1 then[⟨⟨a,x.a⟩,0⟩] else(qg_ (⟨a,x.a⟩:AA) DX S.rels).subs.map fun s=>⟨⟨s.type_,x.b⟩,0⟩
theorem m9 {n:Nat}{x:AY}{g:Ac}{b:Bool}(hl:g.subs.length<1000000):∀(d i c:Nat) (out:List AG),d=g.subs.length-i->i<=g.subs.length->d<c->out.length<=i->TA n x (g,b) c (out,(i:Int))=some (out++(g.subs.drop i).map fun s=>⟨⟨s.type_,x.b⟩,0⟩)
 |0,i,c,out,hd,hi,hc,ho=>by
  obtain⟨c,rfl⟩:=sx c;unfold TA;dsimp only;rw[Cr,if_neg (by decide),NL (by omega)];simp
 |d+1,i,c,out,hd,hi,hc,ho=>by
  obtain⟨c,rfl⟩:=sx c;have hlt:i<g.subs.length:=by omega
  unfold TA;dsimp only;rw[Cb,if_pos rfl,Mp,Ld hlt,Zo,Ef (by simp only[Lr];omega),Zo,As,m9 hl d (i+1) c _ (by omega) (by omega) (by omega) (by simp only[Lf,Lr];omega),Ly hlt];simp only[Lk,Lq,LJ,LE]
theorem wM {n:Nat}{S:AC}{a:ByteArray}{x:AY}(hS:Fw S)(hn:1000<n):TB n S a x=some (Gu S a x):=by
 unfold TB Gu;split
 ·rfl
 have hb:=(Kl hS ⟨a,x.a⟩).1;rw[JM,Zo];have e:TA n x (qg_ (⟨a,x.a⟩:AA) DX S.rels,Ar (⟨a,x.a⟩:AA) S.rels) n (([]:List AG),0)=_:=m9 (by omega) _ 0 n [] rfl (Ll _) (by omega) (Lc _);rw[e];rfl
def Dc (x:AY)(w:AG):AG:=if x.kind==4 then⟨w.to1,1⟩ else w
theorem dL {n:Nat}{x:AY}{l:List AG}(hl:l.length<4611686018427387904-1):∀(d i c:Nat) (t:List AG),d=l.length-i->i<=l.length->d<c->t=(l.take i).map (Dc x)++l.drop i->Pc n x l c (t,(i:Int))=some (l.map (Dc x))
 |0,i,c,t,hd,hi,hc,ht=>by
  obtain⟨c,rfl⟩:=sx c;unfold Pc;rw[Cr,if_neg (by decide),ht,NL (by omega),Ny (by omega),LY]
 |d+1,i,c,t,hd,hi,hc,ht=>by
  obtain⟨c,rfl⟩:=sx c;have hlt:i<l.length:=by omega
  have e1:l.drop i=l[i]::l.drop (i+1):=Ly hlt;have e2:(l.take (i+1)).map (Dc x)=(l.take i).map (Dc x)++[Dc x l[i]]:=by rw[List.take_succ_eq_append_getElem hlt,Na];rfl
  have hp:((l.take i).map (Dc x)).length=i:=by rw[LC,Lw];omega
  unfold Pc;rw[Cb,if_pos rfl,As];cases hk:(x.kind==4) with
  |false=>
   rw[if_neg (by decide)];refine dL hl d (i+1) c t (by omega) (by omega) (by omega) ?_;rw[ht,e1,e2,show Dc x l[i]=l[i] from if_neg (by rw[hk];decide)];simp
  |true=>
   rw[if_pos rfl,Mp,ht,e1,L8 (by omega),hp,B6];simp only[LV,Zo,Lv];refine dL hl d (i+1) c _ (by omega) (by omega) (by omega) ?_;rw[e2,show Dc x l[i]=⟨l[i].to1,1⟩ from if_pos hk,OQ _ _ (by omega),hp,B6,Oo,Lq];rfl
def Dd (S:AC)(a:ByteArray)(st:List (List AG))(x:AY):List (List AG):=if x.kind==1||x.kind==2 then st++[Gu S a x] else if 2<=st.length then st.take (st.length-2)++[st.getD (st.length-2) []++(st.getD (st.length-1) []).map (Dc x)] else st
def Hz (st:List (List AG)):Nat:=(st.map List.length).sum
theorem dM (a b:List (List AG)):Hz (a++b)=Hz a+Hz b:=by unfold Hz;rw[Na,List.sum_append]
theorem dN {st:List (List AG)}(h:2<=st.length):∃p x y,st=p++[x,y]:=by
 refine⟨st.take (st.length-2),st[st.length-2],st[st.length-1],?_⟩;grind [List.take_append_drop,List.drop_eq_getElem_cons,List.drop_of_length_le]
theorem nA {n:Nat}{S:AC}{a:ByteArray}{ex:List AY}(hS:Fw S)(hn:100000<n):∀(l:List AY) (st:List (List AG)),(∀x∈l,KJ S a x)->(∀w∈st,w≠[])->st.length+l.length<=1000->Hz st+60*l.length<=60000->
  Eb (Vz n S a ex) (YR n S a ex) l st=some (l.foldl (Dd S a) st)/\(∀w∈l.foldl (Dd S a) st,w≠[])/\(l.foldl (Dd S a) st).length<=1000/\Hz (l.foldl (Dd S a) st)<=60000
 |[],st,_,hne,hl,hs=>⟨rfl,hne,by simpa using hl,by simpa using hs⟩
 |x::l,st,hp,hne,hl,hs=>by
  simp only[Lg] at hl hs;have hx:=hp x (Lo ..);have hp2:∀y∈l,KJ S a y:=fun y hy=>hp y (Lh _ hy);have ih:=fun st2 h1 h2 h3=>nA (ex:=ex) hS hn l st2 hp2 h1 h2 h3;rw[Eb,Ba];generalize Eb (Vz n S a ex) (YR n S a ex) l=K at ih⊢;unfold Vz;dsimp only;by_cases hk:(x.kind==1||x.kind==2)=true
  ·have hb:(if (x.kind==1)=true then some true else some (x.kind==2))=some true:=by
    cases h1:(x.kind==1) with |true=>rfl |false=>rw[h1,BT] at hk;rw[hk];rfl
   have hst:Dd S a st x=st++[Gu S a x]:=if_pos hk;have hb2:=(Kl hS ⟨a,x.a⟩).1;have hlw:(Gu S a x).length<=51/\Gu S a x≠[]:=by
    unfold Gu;split
    ·exact⟨by simp,by simp⟩
    rename_i h1;have h2:x.kind=2:=by
     rw[LP] at hk;rcases hk with h |h
     ·exact absurd h h1
     exact eq_of_beq h
    refine⟨by rw[LC];exact hb2,fun h=>(hx.2 h2).2.1 (List.map_eq_nil_iff.1 h)⟩
   rw[hb,Zo,if_pos rfl,wM hS (by omega),Zo,Ef (by simp only[Lr];omega),Zo,hst];refine ih _ (fun w hw=> ?_) (by rw[Lf,Lr];omega) ?_
   ·rcases Ls.1 hw with h |h
    ·exact hne w h
    rw[Ln.1 h];exact hlw.2
   rw[dM]
   have:Hz [Gu S a x]=(Gu S a x).length:=(by simp[Hz]);omega
  have hb:(if (x.kind==1)=true then some true else some (x.kind==2))=some false:=by
   rw[LP] at hk;rw[if_neg fun h=>hk (.inl h)];exact congrArg some (Bool.eq_false_iff.2 fun h=>hk (.inr h))
  rw[hb,Zo,if_neg (by decide)];by_cases h2:2<=st.length;rotate_left
  ·have hst:Dd S a st x=st:=by
    unfold Dd;rw[if_neg hk,if_neg h2]
   rw[Cr,if_neg (by decide),hst];exact ih _ hne (by omega) (by omega)
  obtain⟨p,u,v,rfl⟩:=dN h2;have hlen:(p++[u,v]).length=p.length+2:=by rw[Lf];rfl
  have hst:Dd S a (p++[u,v]) x=p++[u++v.map (Dc x)]:=by
   unfold Dd;rw[if_neg hk,if_pos h2,hlen];simp
  have hu:u≠[]:=hne u (by simp);have hv:v≠[]:=hne v (by simp);have hsz:Hz (p++[u,v])=Hz p+(u.length+v.length):=by rw[dM];simp[Hz]
  rw[decide_eq_true (by rw[hlen];omega),if_pos rfl];have w1:i64.wrap (((p++[u,v]).length:Int)-1)=((p.length+1:Nat):Int):=by
   rw[hlen];exact(congrArg i64.wrap (show((p.length+2:Nat):Int)-1=((p.length+1:Nat):Int) by omega)).trans Iv
  have w2:i64.wrap (((p++[u,v]).length:Int)-2)=((p.length:Nat):Int):=by
   rw[hlen];exact(congrArg i64.wrap (show((p.length+2:Nat):Int)-2=((p.length:Nat):Int) by omega)).trans Iv
  have i1:C4 (p++[u,v]) ((p.length+1:Nat):Int)=some v:=by rw[Mp,L8 (by omega)];simp
  have i2:C4 (p++[u,v]) ((p.length:Nat):Int)=some u:=by rw[Mp,L8 (by omega)];simp
  have s1:G6 (p++[u,v]) 0 ((p.length:Nat):Int)=some p:=by
   unfold G6;rw[if_pos ⟨Bu _,by omega,by rw[hlen];omega⟩];simp
  have hv0:v.length≠0:=fun h=>hv (LW h);have hu0:u.length≠0:=fun h=>hu (LW h);have l3:Pc n x v n (v,0)=some (v.map (Dc x)):=dL (by omega) _ 0 n v rfl (Ll _) (by omega) (by simp)
  rw[w1,w2,i1,i2,s1,Zo,decide_eq_false hv0,if_neg (by decide),Pa Cb,l3,Zo,Zo,Zo,decide_eq_false hu0,if_neg (by decide),Pa Cb,Ef (by rw[LC];omega),Zo,Ef (by simp only[Lr];omega),Zo,hst];refine ih _ (fun w hw=> ?_) (by rw[Lf,Lr];omega) ?_
  ·rcases Ls.1 hw with h |h
   ·exact hne w (LS _ h)
   rw[Ln.1 h];intro he;exact hu (List.append_eq_nil_iff.1 he).1
  rw[dM]
  have:Hz [u++v.map (Dc x)]=u.length+v.length:=by simp[Hz]
  omega
def FW (S:AC)(m:AA):List AG:=if (qg_ m DX S.rels).expr= [] then FI (qg_ m DX S.rels).subs else((qg_ m DX S.rels).expr.foldl (Dd S m.typ) []).flatten
theorem nC:∀l:List AL,(FI l).length<=l.length
 |[]=>Lc _
 |s::r=>by
  have:=nC r;grind [RU,List.length_cons]
theorem wN {n:Nat}{S:AC}{m:AA}(hS:Fw S)(hn:100000<n)(hp:∀x∈(qg_ m DX S.rels).expr,KJ S m.typ x):RW n S m=some (FW S m)/\(FW S m).length<=60000:=by
 have hb:=Kl hS m;unfold RW FW;rw[show(⟨ByteArray.empty,[],[]⟩:Ac)=DX from rfl];generalize qg_ m DX S.rels=g at hb hp⊢;obtain⟨nm,ss,ex⟩:=g;obtain⟨hb1,hb2,hx,_⟩:=hb;dsimp only at hb1 hb2 hx hp⊢;cases ex with
 |nil=>
  rw[if_pos rfl];exact⟨ifp,Lp (nC ss) (by omega)⟩
 |cons e r=>
  obtain rfl:ss= []:=by
   grind
  rw[if_neg (by simp)];obtain⟨q1,q2,q3,q4⟩:=nA (n:=n) (a:=m.typ) (ex:=e::r) hS (by omega) (e::r) [] hp (fun _ h=>nomatch h) (by simp only[LB];omega) (by simp only[Hz,LD,List.sum_nil];omega);have f:Pd n S m.typ (e::r) n (([]:List (List AG)),0)=_:=wX n S m.typ (e::r) (by omega) n [] 0 (Ll _) (by omega);rw[Nt,q1] at f;have hl:((e::r).foldl (Dd S m.typ) []).flatten.length<=60000:=by
   rw[List.length_flatten];exact q4
  refine⟨?_,hl⟩;show V0 n S m.typ (e::r)=_;unfold V0;rw[f,Zo];unfold MW;grind
theorem dO:∀l:List AL,∀w∈FI l,w.taken=0\/w.taken=1
 |[],_,h=>by cases h
 |s::r,w,h=>by
  rw[RU] at h;split at h
  ·exact dO r w h
  rcases Lm.1 h with rfl |h
  ·exact .inl rfl
  exact dO r w h
theorem nD {S:AC}{a:ByteArray}:∀(l:List AY) (st:List (List AG)),(∀ws∈st,∀w∈ws,w.taken=0\/w.taken=1)->∀ws∈l.foldl (Dd S a) st,∀w∈ws,w.taken=0\/w.taken=1
 |[],_,h=>h
 |x::l,st,h=>by
  rw[Ba];refine nD l _ ?_;unfold Dd;split
  ·intro ws hws w hw;rcases Ls.1 hws with h1 |h1
   ·exact h ws h1 w hw
   rw[Ln.1 h1] at hw;unfold Gu at hw;grind
  split
  ·rename_i h2;obtain⟨p,u,v,rfl⟩:=dN h2;intro ws hws w hw;have hlen:(p++[u,v]).length=p.length+2:=(by rw[Lf];rfl);rw[hlen] at hws;simp at hws;rcases hws with h1 |rfl
   ·grind
   rcases Ls.1 hw with h3 |h3
   ·exact h u (by simp) w h3
   obtain⟨y,hy,rfl⟩:=LQ.1 h3;unfold Dc;grind
  exact h
theorem nE (S:AC)(m:AA):∀w∈FW S m,w.taken=0\/w.taken=1:=by
 grind [FW,dO,List.mem_flatten,nD]
theorem dP {m k:AA}{v:Int}{K:List (AA × Int)}:qg_ k 0 (mset m v K)=if k=m then v else qg_ k 0 K:=by
 have:mget k (mset m v K)=if k=m then some v else mget k K:=by
  induction K with
  |nil=>
   simp only[mset,mget,beq_iff_eq]
  |cons p r ih=>
   simp only[mset];by_cases h:m==p.1
   ·rw[if_pos h];obtain rfl:=eq_of_beq h;simp only[mget,beq_iff_eq];split<;>rfl
   rw[if_neg h];simp only[mget,ih,beq_iff_eq];grind
 unfold qg_;rw[this];split<;>rfl
abbrev Ca (K:List (AA × Int))(m:AA):Int:=qg_ m 0 K
theorem dQ {m:AA}{L:Int}:∀(ws:List AG) (K:List (AA × Int)) (b:Bool) (c:Int),0<=c->(∀w∈ws,w.taken=0\/w.taken=1)->(∀k,0<=Ca K k/\Ca K k<=L+c)->L+c+ws.length<4611686018427387904->
  (∀k,k≠m->Ca (zA_ m ws (K,b)).1 k=Ca K k)/\Ca K m<=Ca (zA_ m ws (K,b)).1 m/\Ca (zA_ m ws (K,b)).1 m<=L+c+ws.length/\((zA_ m ws (K,b)).2=false->b=false/\(zA_ m ws (K,b)).1=K/\∀w∈ws,Ca K w.to1+w.taken<=Ca K m)/\((zA_ m ws (K,b)).2=true->b=true\/Ca K m<Ca (zA_ m ws (K,b)).1 m)
 |[],K,b,c,hc,_,hK,_=>⟨fun _ _=>rfl,Bu _,by have:=(hK m).2;show Ca K m<=L+c+((0:Nat):Int);omega,fun h=>⟨h,rfl,fun _ h=>nomatch h⟩,fun h=>.inl h⟩
 |w::ws,K,b,c,hc,ht,hK,hl=>by
  simp only[Lg,Int.natCast_add,Int.natCast_one] at hl⊢;have hw:=ht w (Lo ..);have ht2:∀w∈ws,w.taken=0\/w.taken=1:=fun y hy=>ht y (Lh _ hy);have h1:=hK w.to1;have h2:=hK m;have hwr:i64.wrap (Ca K w.to1+w.taken)=Ca K w.to1+w.taken:=IntWalk.i64_in _ (by omega);unfold zA_;rw[hwr]
  by_cases hlt:Ca K m<Ca K w.to1+w.taken
  ·rw[decide_eq_true hlt,if_pos rfl];dsimp only;have hm:Ca (mset m (Ca K w.to1+w.taken) K) m=Ca K w.to1+w.taken:=(by rw[Ca,dP,if_pos rfl]);have ho:∀k,k≠m->Ca (mset m (Ca K w.to1+w.taken) K) k=Ca K k:=fun k hk=>(by rw[Ca,dP,if_neg hk]);obtain⟨q1,q2,q3,q4,q5⟩:=dQ (m:=m) (L:=L) ws (mset m (Ca K w.to1+w.taken) K) true (c+1) (by omega) ht2 (fun k=>by
    by_cases hk:k=m
    ·subst hk;rw[hm];omega
    rw[ho k hk];have:=hK k;omega) (by omega)
   grind
  rw[decide_eq_false hlt,if_neg (by decide)];obtain⟨q1,q2,q3,q4,q5⟩:=dQ (m:=m) (L:=L) ws K b c hc ht2 hK (by omega);grind
def FX (os:List AA)(K:List (AA × Int)):Nat:=(os.map fun m=>(Ca K m).toNat).sum
theorem dR {os:List AA}{K K':List (AA × Int)}(h:∀k,Ca K k<=Ca K' k):FX os K<=FX os K':=by
 unfold FX;induction os with
 |nil=>exact Lc _
 |cons m r ih=>
  grind
theorem RQ {os:List AA}{K K':List (AA × Int)}(h:∀k,Ca K k<=Ca K' k){m:AA}(hm:m∈os)(h0:0<=Ca K m)(hlt:Ca K m<Ca K' m):FX os K<FX os K':=by
 induction os with
 |nil=>cases hm
 |cons x r ih=>
  have hr:=dR (os:=r) h;unfold FX at hr ih⊢;grind
theorem wO {os:List AA}{K:List (AA × Int)}{L:Nat}(h:∀k,Ca K k<=(L:Int)):FX os K<=os.length*L:=by
 unfold FX;induction os with
 |nil=>exact Ll _
 |cons m r ih=>
  rw[Lk,BV,Lg,Oz]
  have:=h m;omega
theorem nF {os:List AA}{W:List (AA × List AG)}{L:Nat}(hW:∀m,(qg_ m [] W).length<=60000/\∀w∈qg_ m [] W,w.taken=0\/w.taken=1)(hL:L<=1000000000):
  ∀(ns:List AA) (K:List (AA × Int)) (b:Bool),(∀m∈ns,m∈os)->(∀k,0<=Ca K k/\Ca K k<=(L:Int))->∀s,MX W (L:Int) ns (K,b)=some s->
   (∀k,0<=Ca s.1 k/\Ca s.1 k<=(L:Int))/\(∀k,Ca K k<=Ca s.1 k)/\(s.2=false->b=false/\s.1=K/\∀m∈ns,∀w∈qg_ m [] W,Ca K w.to1+w.taken<=Ca K m)/\(s.2=true->b=true\/FX os K<FX os s.1)
 |[],K,b,_,hK,s,h=>by
  cases h;grind
 |m::ns,K,b,hm,hK,s,h=>by
  obtain⟨w1,w2⟩:=hW m;obtain⟨q1,q2,q3,q4,q5⟩:=dQ (m:=m) (L:=(L:Int)) (qg_ m [] W) K b 0 (Bu _) w2 (fun k=>by have:=hK k;omega) (by omega);unfold MX at h;generalize zA_ m (qg_ m [] W) (K,b)=s1 at q1 q2 q3 q4 q5 h;obtain⟨K1,b1⟩:=s1;dsimp only at q1 q2 q3 q4 q5 h;split at h
  ·cases h
  rename_i hlim;have hlim:Ca K1 m<=(L:Int):=by simpa using hlim
  have hle:∀k,Ca K k<=Ca K1 k:=fun k=>by
   by_cases hk:k=m
   ·subst hk;exact q2
   rw[q1 k hk];exact Bu _
  obtain⟨r1,r2,r3,r4⟩:=nF hW hL ns K1 b1 (fun x hx=>hm x (Lh _ hx)) (fun k=>by
   have h1:=hle k;have h2:=hK k;refine⟨by omega,?_⟩;by_cases hk:k=m
   ·subst hk;exact hlim
   rw[q1 k hk];exact h2.2) s h
  refine⟨r1,fun k=>Bw (hle k) (r2 k),fun hs=> ?_,fun hs=> ?_⟩
  ·grind
  rcases r4 hs with h1 |h1
  ·rcases q5 h1 with h2 |h2
   ·exact .inl h2
   exact .inr (Lz (RQ hle (hm m (Lo ..)) (hK m).1 h2) (dR r2))
  exact .inr (BG (dR hle) h1)
def RR (os:List AA)(W:List (AA × List AG))(K:List (AA × Int)):Prop:=(∀k,0<=Ca K k/\Ca K k<=(os.length:Int))/\∀m∈os,∀w∈qg_ m [] W,Ca K w.to1+w.taken<=Ca K m
theorem nG {os:List AA}{W:List (AA × List AG)}(hW:∀m,(qg_ m [] W).length<=60000/\∀w∈qg_ m [] W,w.taken=0\/w.taken=1)(hL:os.length<=1000000000):
  ∀(c:Nat) (K:List (AA × Int)),(∀k,0<=Ca K k/\Ca K k<=(os.length:Int))->os.length*os.length-FX os K<c->∃r,Kk W (os.length:Int) os c K=some r/\∀K',r=some K'->RR os W K'
 |0,_,_,h=>absurd h (LK _)
 |c+1,K,hK,hc=>by
  unfold Kk;cases hp:MX W (os.length:Int) os (K,false) with
  |none=>simp
  |some s=>
   obtain⟨r1,r2,r3,r4⟩:=nF (os:=os) hW hL os K false (fun _ h=>h) hK s hp;dsimp only;cases hs:s.2 with
   |false=>
    obtain⟨_,x2,x3⟩:=r3 hs;rw[if_neg (by decide)];refine⟨_,rfl,fun K' h=> ?_⟩;cases h;exact⟨r1,by rw[x2];exact x3⟩
   |true=>
    rw[if_pos rfl];rcases r4 hs with h |h
    ·cases h
    have:=wO (os:=os) (fun k=>(r1 k).2);exact nG hW hL c s.1 r1 (by omega)
theorem dT {m:AA}{rk':AA->Int}(hb:∀k,rk' k<=1000000000):∀(ws:List AG) (s:List (AA × Int) × Bool),(∀w∈ws,(w.taken=0\/w.taken=1)/\rk' w.to1+w.taken<=rk' m)->(∀k,0<=Ca s.1 k/\Ca s.1 k<=rk' k)->∀k,0<=Ca (zA_ m ws s).1 k/\Ca (zA_ m ws s).1 k<=rk' k
 |[],_,_,h=>h
 |w::ws,s,hw,h=>by
  obtain⟨h1,h2⟩:=hw w (Lo ..);have hw2:=fun x hx=>hw x (Lh _ hx);have h3:0<=qg_ w.to1 0 s.1/\qg_ w.to1 0 s.1<=rk' w.to1:=h w.to1;have h4:=hb w.to1;have e:i64.wrap (qg_ w.to1 0 s.1+w.taken)=qg_ w.to1 0 s.1+w.taken:=IntWalk.i64_in _ (by omega);unfold zA_;rw[e];split
  ·refine dT hb ws _ hw2 fun k=> ?_
   have e2:Ca (mset m (qg_ w.to1 0 s.1+w.taken) s.1) k=if k=m then qg_ w.to1 0 s.1+w.taken else qg_ k 0 s.1:=dP
   grind
  exact dT hb ws s hw2 h
theorem nH {W:List (AA × List AG)}{L:Nat}{rk':AA->Int}(hL:L<=1000000000)(hb:∀k,rk' k<=(L:Int)):∀(ns:List AA) (s:List (AA × Int) × Bool),(∀m∈ns,∀w∈qg_ m [] W,(w.taken=0\/w.taken=1)/\rk' w.to1+w.taken<=rk' m)->(∀k,0<=Ca s.1 k/\Ca s.1 k<=rk' k)->∃s',MX W (L:Int) ns s=some s'/\∀k,0<=Ca s'.1 k/\Ca s'.1 k<=rk' k
 |[],s,_,h=>⟨s,rfl,h⟩
 |m::ns,s,hv,h=>by
  have h1:=dT (m:=m) (rk':=rk') (fun k=>by have:=hb k;omega) (qg_ m [] W) s (hv m (Lo ..)) h;unfold MX;rw[if_neg (by grind)];exact nH hL hb ns _ (fun x hx=>hv x (Lh _ hx)) h1
theorem nI {W:List (AA × List AG)}{os:List AA}{rk':AA->Int}(hL:os.length<=1000000000)(hb:∀k,rk' k<=(os.length:Int))(hv:∀m∈os,∀w∈qg_ m [] W,(w.taken=0\/w.taken=1)/\rk' w.to1+w.taken<=rk' m):∀(c:Nat) (K:List (AA × Int)) (r:Option (List (AA × Int))),(∀k,0<=Ca K k/\Ca K k<=rk' k)->Kk W (os.length:Int) os c K=some r->∃K',r=some K'/\∀k,Ca K' k<=rk' k
 |0,_,_,_,h=>by cases h
 |c+1,K,r,hK,h=>by
  obtain⟨s,e1,e2⟩:=nH hL hb os (K,false) hv hK;unfold Kk at h;rw[e1] at h;dsimp only at h;split at h
  ·exact nI hL hb hv c s.1 r e2 h
  grind
end Go.Proofs.YtnmkbmefohakmaaGreat.Ab
