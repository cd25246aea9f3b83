/-
 A row of names is turned over.
-/
import Derived.Test.YtnmkbmefohakmaaGreatWlw
set_option linter.all false
namespace Go.Proofs.YtnmkbmefohakmaaGreat.Ab
open Go.RowKit IntKind
def cR (g:Ac):List AV:=[.v (.string g.name),.d (.sl (g.subs.map AZ)) true,.d (.sl (g.expr.map Aj)) true]
def vR (g:Ac):AV:=.ag (cR g)
def zR:List AV:=[.v (.string ByteArray.empty),.v (.slice none 0 0),.v (.slice none 0 0)]
theorem mu {K V:Type}[BEq K]{q:Bool × List TK}{kv:K->Value}{ev:V->AV}(hk:Ec q kv)(k:K)(z:AV)(ok:Bool)(m:List (K × V)):EM q (kv k) z ok (AP kv ev m)=some (if ok then .tu [(match mget k m with |some w=>ev w |none=>z),.v (.bool (Ar k m))] else(match mget k m with |some w=>ev w |none=>z),[]):=by
 obtain⟨o,h1,h2,h3⟩:=Mr (ev:=ev) hk k m;unfold EM;rw[h1];cases hm:mget k m with
 |none=>
  obtain⟨e1,e2⟩:=h3 hm;subst e1;simp[Ar,hm]
 |some w=>
  obtain⟨i,e1,e2⟩:=h2 w hm;subst e1;simp[Ar,hm]
def oR:Option Ac->List AV
 |some g=>cR g
 |none=>zR
section
variable {hp:Hp}{nx q m1 m2 m3:Nat}{R:List (AA × Ac)}
theorem wF {a b:ByteArray}{dl:Bool}(hf:∀j,nx<=j->hp j=none)(hq:hp q=some (.bx [.mo m1,.mo m2,.mo m3]))(hm:hp m2=some (.mo (AP qb_ vR R) dl)):
  AK Tryz.prog 65 [.pt q 0,.v (.string a),.v (.string b)] hp nx fun v hp2 nx2=>v= .tu [.ag (oR (mget ⟨a,b⟩ R)),.v (.bool (Ar ⟨a,b⟩ R))]/\hp2=hp/\nx<=nx2:=by
 have hqn:=CR hf hq;have hmn:=CR hf hm;refine zr Tryz.func65 ?_;have f1:(q=nx)=False:=EU;have f2:(m2=nx)=False:=EU;have f3:(nx=nx+2+11)=False:=EU;have hl:EM (true,[.string,.string]) (.agg #[.string a,.string b]) (.ag zR) true (AP qb_ vR R)=some (.tu [(.ag (oR (mget ⟨a,b⟩ R))),.v (.bool (Ar ⟨a,b⟩ R))],[]):=by
  refine(mu Kc ⟨a,b⟩ (.ag zR) true R).trans ?_;cases mget (⟨a,b⟩:AA) R<;>rfl
 unfold zR at hl;generalize Ar (⟨a,b⟩:AA) R=bo at hl⊢;generalize mget (⟨a,b⟩:AA) R=g at hl⊢;cases g with
 |none=>
  unfold oR zR at hl⊢;refine Z1 (Y6 f3 f1 f2 hq hm hl) ?_;refine⟨_,hp,by simp -implicitDefEqProofs only[go_sem, ↓reduceIte,Tryz.f65,Ah,Nat.reduceEqDiff]<;>rfl,⟨fun i=> ?_⟩,rfl,rfl,by dsimp only;omega⟩;by_cases h:i<nx
  ·exact .inr (by dsimp only;repeat rw[AR])
  ·exact .inl (hf i (by omega))
 |some g=>
  unfold oR cR at hl⊢;refine Z1 (Y6 f3 f1 f2 hq hm hl) ?_;refine⟨_,hp,by simp -implicitDefEqProofs only[go_sem, ↓reduceIte,Tryz.f65,Ah,Nat.reduceEqDiff]<;>rfl,⟨fun i=> ?_⟩,rfl,rfl,by dsimp only;omega⟩;by_cases h:i<nx
  ·exact .inr (by dsimp only;repeat rw[AR])
  exact .inl (hf i (by omega))
end
def KI (a:ByteArray):List Ac->List (AA × Ac)->List (AA × Ac) × Bool
 |[],R=>(R,false)
 |g::r,R=>if Ar ⟨a,g.name⟩ R then(R,true) else KI a r (mset ⟨a,g.name⟩ g R)
def xc_:List AT->List (ByteArray × Int)->List (AA × Ac)->List (ByteArray × Int) × List (AA × Ac) × Int
 |[],T,R=>(T,R,0)
 |t::r,T,R=>if decide (0<qg_ t.name 0 T) then(T,R,11) else(fun p=>if p.2 then(mset t.name 1 T,p.1,11) else xc_ r (mset t.name 1 T) p.1) (KI t.name t.rels R)
def hpC (m1 m2:Nat)(T:List (ByteArray × Int))(R:List (AA × Ac))(hp:Hp):Hp:=upd m2 (some (.mo (AP qb_ vR R) false)) (upd m1 (some (.mo (AP .string vI T) false)) hp)
section
variable {hp:Hp}{nx q m1 m2 m3:Nat}
set_option maxRecDepth 8000 in
theorem wI {l:List AT}{T0 T1:List (ByteArray × Int)}{R0 R1:List (AA × Ac)}{e:Int}(hf:∀j,nx<=j->hp j=none)(hl:l.length<1000000)(hrl:∀t∈l,t.rels.length<1000000)(hq:hp q=some (.bx [.mo m1,.mo m2,.mo m3]))(hm1:hp m1=some (.mo (AP .string vI T0) false))(hm2:hp m2=some (.mo (AP qb_ vR R0) false))(hd1:q≠m1)(hd2:q≠m2)(hd3:m1≠m2)(h:xc_ l T0 R0=(T1,R1,e)):
  AK Tryz.prog 88 [.pt q 0,.d (.sl (l.map Ak)) true] hp nx fun v hp2 nx2=>v= .v (.int .i64 e)/\hp2=hpC m1 m2 T1 R1 hp/\nx<=nx2:=by
 have hqn:=CR hf hq;have hmn1:=CR hf hm1;have hmn2:=CR hf hm2;have C1:∀(T:List (ByteArray × Int)) (R:List (AA × Ac)),hpC m1 m2 T R hp m1=some (.mo (AP .string vI T) false):=fun T R=>by unfold hpC;rw[Ad _ _ hd3,Ah]
 have C2:∀(T:List (ByteArray × Int)) (R:List (AA × Ac)),hpC m1 m2 T R hp m2=some (.mo (AP qb_ vR R) false):=fun T R=>Ah _ _ _;have Cq:∀(T:List (ByteArray × Int)) (R:List (AA × Ac)),hpC m1 m2 T R hp q=some (.bx [.mo m1,.mo m2,.mo m3]):=fun T R=>by unfold hpC;rw[Ad _ _ hd2,Ad _ _ hd1];exact hq
 have Cf:∀(T:List (ByteArray × Int)) (R:List (AA × Ac)) (j:Nat),nx<=j->hpC m1 m2 T R hp j=none:=fun T R j hj=>by unfold hpC;rw[AR,AR];exact hf j hj
 refine zq Tryz.func88 ?_;refine Qx ?_;refine CN ?_;refine DS (α:={ t:Nat × List (ByteArray × Int) × List (AA × Ac) × Nat // t.1<=l.length/\nx<=t.2.2.2/\xc_ (l.drop t.1) t.2.1 t.2.2.1=(T1,R1,e) })
  (fun t=>⟨upd 0 (.pt q 0) (upd 11 (.d (.sl (l.map Ak)) true) (upd 12 (.v (.int .i64 (l.length:Int))) (upd 13 (.v (.int .i64 (t.1.1:Int))) AQ))),hpC m1 m2 t.1.2.1 t.1.2.2.1 hp,t.1.2.2.2⟩) (fun t=>l.length-t.1.1)
  ⟨(0,T0,R0,nx+4),Ll _,NW _ _,h⟩ ?_ ?_
 ·refine Fz ?_ C7;unfold hpC;dsimp only;rw[FE hm1,FE hm2]
 rintro⟨⟨i,T,R,nxi⟩,hi,hn,hc⟩;dsimp only at hi hn hc;refine AW (ZT 1 ?_);by_cases hlt:i<l.length;rotate_left
 ·have c1:(decide ((i:Int)<(l.length:Int)))=false:=Cr;obtain rfl:i=l.length:=by omega
  rw[NX] at hc;simp only[xc_,Lu] at hc;obtain⟨rfl,rfl,rfl⟩:=hc;refine Ck c1 ?_;refine Dj ?_;refine GI ?_;exact⟨_,_,rfl,⟨fun _=>.inr rfl⟩,rfl,rfl,by dsimp only;omega⟩
 have c1:(decide ((i:Int)<(l.length:Int)))=true:=Cb;have e1:l[i]? =some l[i]:=Ld hlt;have ed:l.drop i=l[i]::l.drop (i+1):=Ly hlt;have hrt:=hrl _ (NV hlt);rw[ed] at hc;generalize l[i]=ty at e1 hc hrt;have e2:(l.map Ak)[i]? =some (Ak ty):=Cs Ak e1;unfold xc_ at hc;refine Ck c1 ?_;refine Z0 ?_;refine AW (CN ?_);refine AW (ZT 1 ?_);have w:=Y2 e2 (Y2 (Cx .i64 (show(0:Int)<=(i:Int) by omega)) (show((i:Int)).toNat=i from Lv _));refine Z1 w ?_;generalize eA:(upd (nxi+1+2) (some _) _:Hp)=hpA;have aq:hpA q=some (.bx [.mo m1,.mo m2,.mo m3]):=by rw[<-eA,AR,AR];exact Cq T R
 have a1:hpA m1=some (.mo (AP .string vI T) false):=by rw[<-eA,AR,AR];exact C1 T R
 have a2:hpA m2=some (.mo (AP qb_ vR R) false):=by rw[<-eA,AR,AR];exact C2 T R
 have at_:hpA (nxi+1+2)=some (.bx [.v (.string ty.name),.d (.sl (ty.rels.map Al)) true]):=by rw[<-eA,Ah]
 have aa:∀j,j≠nxi+1+2->hpA j=hpC m1 m2 T R hp j:=fun j h1=>by rw[<-eA,Ad _ _ h1,Ad _ _ h1]
 refine AW (AW ?_);refine ZT 1 ?_;cases ht:decide (0<qg_ ty.name 0 T) with
 |true=>
  rw[ht,if_pos rfl] at hc;simp only[Lu] at hc;obtain⟨rfl,rfl,rfl⟩:=hc;refine Z1 (Y4 aq a1 at_ ht) ?_;refine DR (by rfl) ?_;refine Z0 ?_;refine EV (c:=true) rfl rfl ?_;refine Az ?_;refine AN ?_;refine⟨_,hpC m1 m2 T R hp,rfl,⟨fun j=> ?_⟩,rfl,rfl,by dsimp only;omega⟩;by_cases hj:j=nxi+1+2
  ·exact .inl (Cf T R j (by omega))
  ·exact .inr (aa j hj).symm
 |false=>
  rw[ht,if_neg (by decide)] at hc;refine Z1 (Y4 aq a1 at_ ht) ?_;refine DR (by rfl) ?_;refine Z0 ?_;refine DF (c:=false) rfl rfl ?_;refine AN ?_;refine AW (ZT 1 ?_);have f1:(m1=nxi+1+2)=False:=EU;refine Z1 (Y4 aq a1 at_ f1) ?_;have v1:CV q m1 (nxi+1+2) m2 q=1:=by simp[CV]
  have v2:CV q m1 (nxi+1+2) m2 m1=2:=by unfold CV;rw[if_neg hd1.symm,if_pos rfl]
  have v3:CV q m1 (nxi+1+2) m2 (nxi+1+2)=3:=by unfold CV;rw[ifn,ifn,if_pos rfl]
  refine JH (CV q m1 (nxi+1+2) m2) _ rfl (by simp only[Nc,Nk,LE,LJ,Lk,LD,HH,v1,v2,v3];rfl) (by rfl) ?_;refine Dj ?_;obtain⟨tb,etb⟩:∃tb,tb=nxi+1+2:=⟨_,rfl⟩;obtain⟨T',eT'⟩:∃T',T'=mset ty.name 1 T:=⟨_,rfl⟩;rw[<-eT'] at hc⊢;rw[<-etb] at at_ aa f1⊢;have htn:tb<nxi+1+4+8+7:=by omega
  have ht1:tb≠m1:=by omega
  have ht2:tb≠m2:=by omega
  have htq:tb≠q:=by omega
  have hB:(upd m1 (some (.mo (AP .string vI T') false)) hpA:Hp)=upd tb (some (.bx [.v (.string ty.name),.d (.sl (ty.rels.map Al)) true])) (hpC m1 m2 T' R hp):=by
   funext k;by_cases h1:k=tb
   ·rw[h1,Ad _ _ ht1,at_,Ah]
   rw[Ad _ _ h1];by_cases h2:k=m1
   ·rw[h2,Ah,C1]
   rw[Ad _ _ h2,aa k h1];unfold hpC;by_cases h3:k=m2
   ·rw[h3,Ah,Ah]
   rw[Ad _ _ h3,Ad _ _ h3,Ad _ _ h2,Ad _ _ h2]
  rw[hB];refine Z1 (Ah tb (some (.bx [.v (.string ty.name),.d (.sl (ty.rels.map Al)) true])) (hpC m1 m2 T' R hp)) ?_;refine CN ?_;refine DS (α:={ t:Nat × List (AA × Ac) × Nat // t.1<=ty.rels.length/\nx<=t.2.2/\tb<t.2.2/\(fun p:List (AA × Ac) × Bool=>if p.2 then(T',p.1,11) else xc_ (l.drop (i+1)) T' p.1) (KI ty.name (ty.rels.drop t.1) t.2.1)=(T1,R1,e) })
   (fun t=>⟨upd 0 (.pt q 0) (upd 6 (.pt tb 0) (upd 11 (.d (.sl (l.map Ak)) true) (upd 12 (.v (.int .i64 (l.length:Int))) (upd 13 (.v (.int .i64 (i:Int))) (upd 32 (.d (.sl (ty.rels.map Al)) true) (upd 33 (.v (.int .i64 (ty.rels.length:Int))) (upd 34 (.v (.int .i64 (t.1.1:Int))) AQ))))))),upd tb (some (.bx [.v (.string ty.name),.d (.sl (ty.rels.map Al)) true])) (hpC m1 m2 T' t.1.2.1 hp),t.1.2.2⟩) (fun t=>ty.rels.length-t.1.1)
   ⟨(0,R,nxi+1+4+8+7+4),Ll _,by dsimp only;omega,by dsimp only;omega,hc⟩ ?_ ?_
  ·exact CH
  rintro⟨⟨j,R',nxj⟩,hj,hnj,htj,hcj⟩;dsimp only at hj hnj htj hcj;refine AW (ZT 1 ?_);by_cases hjl:j<ty.rels.length;rotate_left
  ·have c2:(decide ((j:Int)<(ty.rels.length:Int)))=false:=Cr;obtain rfl:j=ty.rels.length:=(by omega);rw[NX] at hcj;refine Ck c2 ?_;refine Z0 ?_;refine ZT 1 ?_;refine Z1 (As (n:=i)) ?_;refine⟨⟨(i+1,T',R',nxj+6),hlt,by dsimp only;omega,hcj⟩,.weak ⟨Cv rfl C7,fun k=> ?_,by dsimp only;omega⟩,by dsimp only;omega⟩;dsimp only;by_cases hk:k=tb
   ·exact .inl (Cf T' R' k (by omega))
   exact .inr (Ad _ _ hk).symm
  have c2:(decide ((j:Int)<(ty.rels.length:Int)))=true:=Cb;have e3:ty.rels[j]? =some ty.rels[j]:=Ld hjl;have ed2:ty.rels.drop j=ty.rels[j]::ty.rels.drop (j+1):=Ly hjl;rw[ed2] at hcj;generalize ty.rels[j]=g at e3 hcj;have e4:(ty.rels.map Al)[j]? =some (Al g):=Cs Al e3;refine Ck c2 ?_;refine Z0 ?_;refine AW (CN ?_);refine AW (ZT 1 ?_);have w2:=Y2 e4 (Y2 (Cx .i64 (show(0:Int)<=(j:Int) by omega)) (show((j:Int)).toNat=j from Lv _));refine Z1 w2 ?_;generalize eD:(upd (nxj+1+2) (some _) _:Hp)=hpD;have dq:hpD q=some (.bx [.mo m1,.mo m2,.mo m3]):=by rw[<-eD,AR,AR,Ad _ _ htq.symm];exact Cq T' R'
  have d2:hpD m2=some (.mo (AP qb_ vR R') false):=by rw[<-eD,AR,AR,Ad _ _ ht2.symm];exact C2 T' R'
  have dt:hpD tb=some (.bx [.v (.string ty.name),.d (.sl (ty.rels.map Al)) true]):=by rw[<-eD,AR,AR,Ah]
  have dr:hpD (nxj+1+2)=some (.bx (cR g)):=by rw[<-eD,Ah];rfl
  have da:∀k,k≠nxj+1+2->hpD k=upd tb (some (.bx [.v (.string ty.name),.d (.sl (ty.rels.map Al)) true])) (hpC m1 m2 T' R' hp) k:=fun k h1=>by rw[<-eD,Ad _ _ h1,Ad _ _ h1]
  have df:∀k,nxj+1+4<=k->hpD k=none:=fun k hk=>by rw[da k (by omega),AR];exact Cf T' R' k (by omega)
  unfold cR at dr;refine AW (AW ?_);refine ZT 1 ?_;refine Z1 (Y3 dq dt dr) ?_;refine CG ((wF (a:=ty.name) (b:=g.name) (fun k hk=>df k (by dsimp only at hk;omega)) dq d2).mono ?_);rintro v hpE nxe ⟨rfl,rfl,hle⟩;dsimp only at hle;unfold KI at hcj;cases hg:mget (⟨ty.name,g.name⟩:AA) R' with
  |some g0=>
   have hh:Ar (⟨ty.name,g.name⟩:AA) R'=true:=(by unfold Ar;rw[hg];rfl);rw[hh,if_pos rfl,if_pos rfl] at hcj;simp only[Lu] at hcj;obtain⟨rfl,rfl,rfl⟩:=hcj;unfold oR cR;refine Ck hh ?_;refine Z0 ?_;refine EV (c:=true) rfl rfl ?_;refine Az ?_;refine AN ?_;refine⟨_,hpC m1 m2 T' R' hp,rfl,⟨fun k=> ?_⟩,rfl,rfl,by dsimp only;omega⟩;by_cases hk:k<nx
   ·refine .inr ?_;dsimp only;rw[AR,AR,da k (by omega),AR]
   ·exact .inl (Cf T' R' k (by omega))
  |none=>
   have hh:Ar (⟨ty.name,g.name⟩:AA) R'=false:=(by unfold Ar;rw[hg];rfl);simp only[hh,Nl, ↓reduceIte] at hcj;unfold oR zR;refine Ck hh ?_;refine Z0 ?_;refine DF (c:=false) rfl rfl ?_;refine AN ?_;refine ZT 1 ?_;generalize eF:(upd (nxj+1+4+9) (some _) _:Hp)=hpF;have fq:hpF q=some (.bx [.mo m1,.mo m2,.mo m3]):=(by rw[<-eF,AR,AR];exact dq);have f2:hpF m2=some (.mo (AP qb_ vR R') false):=(by rw[<-eF,AR,AR];exact d2);have ft:hpF tb=some (.bx [.v (.string ty.name),.d (.sl (ty.rels.map Al)) true]):=(by rw[<-eF,AR,AR];exact dt);have fr:hpF (nxj+1+2)=some (.bx [.v (.string g.name),.d (.sl (g.subs.map AZ)) true,.d (.sl (g.expr.map Aj)) true]):=(by rw[<-eF,AR,AR];exact dr);have fa:∀k,k<nxj->hpF k=upd tb (some (.bx [.v (.string ty.name),.d (.sl (ty.rels.map Al)) true])) (hpC m1 m2 T' R' hp) k:=fun k h1=>(by rw[<-eF,AR,AR];exact da k (by omega));have hput:EG (true,[.string,.string]) (.agg #[.string ty.name,.string g.name]) (.ag [.v (.string g.name),.d (.sl (g.subs.map AZ)) true,.d (.sl (g.expr.map Aj)) true]) (AP qb_ vR R')=some (AP qb_ vR (mset ⟨ty.name,g.name⟩ g R')):=W4 (ev:=vR) Kc ⟨ty.name,g.name⟩ g R';refine Z1 (Y5 fq f2 ft fr hput) ?_;have v1:CV q m2 tb (nxj+1+2) q=1:=(by simp[CV]);have v2:CV q m2 tb (nxj+1+2) m2=2:=(by unfold CV;rw[if_neg hd2.symm,if_pos rfl]);have v3:CV q m2 tb (nxj+1+2) tb=3:=(by unfold CV;rw[if_neg htq,if_neg ht2,if_pos rfl]);have v4:CV q m2 tb (nxj+1+2) (nxj+1+2)=4:=(by unfold CV;rw[ifn,ifn,ifn,if_pos rfl]);refine JH (CV q m2 tb (nxj+1+2)) _ rfl (by simp only[Nc,Nk,LE,LJ,Lk,LD,HH,v1,v2,v3,v4];rfl) (by rfl) ?_;refine Z0 ?_;refine ZT 1 ?_;refine Z1 (As (n:=j)) ?_;refine⟨⟨(j+1,mset ⟨ty.name,g.name⟩ g R',nxe+1+11+2),hjl,by dsimp only;omega,by dsimp only;omega,hcj⟩,.weak ⟨Cv rfl C7,fun k=> ?_,by dsimp only;omega⟩,by dsimp only;omega⟩;dsimp only;by_cases h2:k=m2
   ·exact .inr (by rw[h2,Ad _ _ ht2.symm,Ah,C2])
   by_cases hk:k<nxj
   ·refine .inr ?_;rw[Ad _ _ h2,fa k hk];by_cases h1:k=tb
    ·rw[h1,Ah,Ah]
    rw[Ad _ _ h1,Ad _ _ h1];unfold hpC;rw[Ad _ _ h2,Ad _ _ h2]
   exact .inl (by rw[AR];exact Cf T' _ k (by omega))
end
def vW (ws:List AG):AV:=.d (.sl (ws.map AD)) false
def RP (n:Nat)(S:AC):List AA->List (AA × List AG)->Option (List (AA × List AG))
 |[],W=>some W
 |m::r,W=>(RW n S m).bind fun ws=>RP n S r (mset m ws W)
def zA_ (m:AA):List AG->List (AA × Int) × Bool->List (AA × Int) × Bool
 |[],s=>s
 |w::r,s=>if decide (qg_ m 0 s.1<i64.wrap (qg_ w.to1 0 s.1+w.taken)) then zA_ m r (mset m (i64.wrap (qg_ w.to1 0 s.1+w.taken)) s.1,true) else zA_ m r s
def MX (W:List (AA × List AG))(lim:Int):List AA->List (AA × Int) × Bool->Option (List (AA × Int) × Bool)
 |[],s=>some s
 |m::r,s=>if decide (lim<qg_ m 0 (zA_ m (qg_ m [] W) s).1) then none else MX W lim r (zA_ m (qg_ m [] W) s)
def Kk (W:List (AA × List AG))(lim:Int)(ns:List AA):Nat->List (AA × Int)->Option (Option (List (AA × Int)))
 |0,_=>none
 |c+1,K=>match MX W lim ns (K,false) with
  |none=>some none
  |some s=>if s.2 then Kk W lim ns c s.1 else some (some s.1)
theorem dK {K V:Type}[BEq K][LawfulBEq K]{k:K}{v:V}:∀ {m:List (K × V)},mget k m=some v->(k,v)∈m
 |[],h=>by cases h
 |p::r,h=>by
  unfold mget at h;split at h
  ·grind
  exact .tail _ (dK h)
theorem mv {q:Bool × List TK}{x:Value}:∀ {es:List (Value × AV)} {i:Nat} {v:AV},Dm q x es=some (some (i,v))->∃k,es[i]? =some (k,v)
 |[],_,_,h=>by cases h
 |(k,w)::r,i,v,h=>by
  unfold Dm at h;split at h
  ·cases h;exact⟨k,rfl⟩
  ·cases e:Dm q x r with
   |none=>
    rw[e] at h;cases h
   |some o=>
    cases o with
    |none=>
     rw[e] at h;cases h
    |some p=>
     rw[e] at h;cases h;obtain⟨k2,h2⟩:=mv e;exact⟨k2,h2⟩
  cases h
theorem wG {hp:Hp}{m:Nat}{dl:Bool}{R:List (AA × Ac)}(h:hp m=some (.mo (AP qb_ vR R) dl)):Ce hp true (.mo m) (.mp (CO qb_ true Al R)):=by
 have at_:∀ {j:Nat} {k:Value} {v:AV},(AP qb_ vR R)[j]? =some (k,v)->∃p,R[j]? =some p/\k=qb_ p.1/\v=vR p.2:=fun{j k v} h=>by
  grind [AP,Option.map_eq_some_iff,Prod.mk.injEq]
 have at2:∀ {j:Nat} {k:Value} {ag:Bool} {ds:List D} {p:AA × Ac},R[j]? =some p->(CO qb_ true Al R)[j]? =some (k,ag,ds)->k=qb_ p.1/\ag=true/\ds=Al p.2:=fun{j k ag ds p} h1 h2=>by
  grind [CO,Option.some.injEq,Prod.mk.injEq]
 refine .mo h (by simp[CO,AP]) (fun j k v k' ag ds h1 h2=> ?_) fun j k v k' ag ds i x d h1 h2 h3 h4=> ?_
 ·obtain⟨p,e1,rfl,rfl⟩:=at_ h1;obtain⟨rfl,rfl,rfl⟩:=at2 e1 h2;exact⟨rfl,rfl,rfl,fun h=>by cases h⟩
 obtain⟨p,e1,rfl,rfl⟩:=at_ h1;obtain⟨rfl,rfl,rfl⟩:=at2 e1 h2
 match i,h3,h4 with
 |0,h3,h4=>cases h3;cases h4;exact .one (b':=false) (is:=[]) rfl (by simp)
 |1,h3,h4=>cases h3;cases h4;exact .one (b':=true) (is:=[]) rfl (by simp)
 |2,h3,h4=>cases h3;cases h4;exact .one (b':=true) (is:=[]) rfl (by simp)
 |i+3,h3,_=>simp[vR,cR,HA] at h3
theorem Hx {hp:Hp}{q m1 m2 m3:Nat}{d1 d2 d3:Bool}{T:List (ByteArray × Int)}{R:List (AA × Ac)}{K:List (AA × Int)}(hq:hp q=some (.bx [.mo m1,.mo m2,.mo m3]))(hm1:hp m1=some (.mo (AP .string vI T) d1))(hm2:hp m2=some (.mo (AP qb_ vR R) d2))(hm3:hp m3=some (.mo (AP qb_ vI K) d3)):
  Ce hp true (.pt q 0) (.pt (Ap ⟨T,R,K⟩) 0):=
 .place hq (PW.cons (iE hm1 fun _=>⟨_,rfl,rfl,rfl⟩) (PW.cons (wG hm2) (PW.cons (iE hm3 fun _=>⟨_,rfl,rfl,rfl⟩) PW.nil)))
section
variable {hp:Hp}{nx q m1 m2 m3 oid over:Nat}
set_option maxRecDepth 8000 in
theorem wH {n c:Nat}{ns:List AA}{T:List (ByteArray × Int)}{R:List (AA × Ac)}{W:List (AA × List AG)}{res:Option (List (AA × Int))}(hf:∀j,nx<=j->hp j=none)(h0:0<ns.length)(hl:ns.length<1000000000)
  (hq:hp q=some (.bx [.mo m1,.mo m2,.mo m3])) (hm1:hp m1=some (.mo (AP .string vI T) false)) (hm2:hp m2=some (.mo (AP qb_ vR R) false)) (hm3:hp m3=some (.mo (AP qb_ vI []) false)) (ho:hp oid=some (.rw (ns.map AX) 2 over false false))
  (hd:q≠m1/\q≠m2/\q≠m3/\m1≠m2/\m1≠m3/\m2≠m3) (hod:oid≠q/\oid≠m1/\oid≠m2/\oid≠m3) (hW:RP n ⟨T,R,[]⟩ ns []=some W) (hWs:∀m∈ns,(mget m W).isSome=true) (hws:∀p∈W,p.2.length<1000000000) (h:Kk W (ns.length:Int) ns c []=some res):
  AK Tryz.prog 91 [.pt q 0,.so oid over 0 ns.length] hp nx fun v hp2 nx2=>v= .v (.bool res.isSome)/\(∃K,(∀K',res=some K'->K'=K)/\hp2=upd m3 (some (.mo (AP qb_ vI K) false)) hp)/\nx<=nx2:=by
 have hqn:=CR hf hq;have hmn1:=CR hf hm1;have hmn2:=CR hf hm2;have hmn3:=CR hf hm3;have hon:=CR hf ho;obtain⟨hd1,hd2,hd3,hd4,hd5,hd6⟩:=hd;refine zq Tryz.func91 ?_;refine D3 ?_;refine ET ?_;obtain⟨m4,e4⟩:∃m4,m4=nx+1:=⟨_,rfl⟩;rw[<-e4];have hW0:(some (AO.mo [] false):Option AO)=some (.mo (AP qb_ vW []) false):=rfl;rw[hW0];have Hq:∀W':List (AA × List AG),upd m4 (some (.mo (AP qb_ vW W') false)) hp q=some (.bx [.mo m1,.mo m2,.mo m3]):=fun W'=>by rw[AR];exact hq
 have H1:∀W':List (AA × List AG),upd m4 (some (.mo (AP qb_ vW W') false)) hp m1=some (.mo (AP .string vI T) false):=fun W'=>by rw[AR];exact hm1
 have H2:∀W':List (AA × List AG),upd m4 (some (.mo (AP qb_ vW W') false)) hp m2=some (.mo (AP qb_ vR R) false):=fun W'=>by rw[AR];exact hm2
 have H3:∀W':List (AA × List AG),upd m4 (some (.mo (AP qb_ vW W') false)) hp m3=some (.mo (AP qb_ vI []) false):=fun W'=>by rw[AR];exact hm3
 have Ho:∀W':List (AA × List AG),upd m4 (some (.mo (AP qb_ vW W') false)) hp oid=some (.rw (ns.map AX) 2 over false false):=fun W'=>by rw[AR];exact ho
 have Hf:∀(W':List (AA × List AG)) (j:Nat),nx+2<=j->upd m4 (some (.mo (AP qb_ vW W') false)) hp j=none:=fun W' j hj=>by rw[AR];exact hf j (by omega)
 refine EI (α:={ k:Nat // nx+2<=k }) (fun k=>⟨upd 0 (.pt q 0) (upd 1 (.so oid over 0 ns.length) (upd 5 (.mo m4) AQ)),upd m4 (some (.mo (AP qb_ vW W) false)) hp,k.1⟩) ?_ ?_
 ·refine CN ?_;refine DS (α:={ t:Nat × List (AA × List AG) × Nat // t.1<=ns.length/\nx+2<=t.2.2/\RP n ⟨T,R,[]⟩ (ns.drop t.1) t.2.1=some W })
   (fun t=>⟨upd 0 (.pt q 0) (upd 1 (.so oid over 0 ns.length) (upd 5 (.mo m4) (upd 15 (.so oid over 0 ns.length) (upd 16 (.v (.int .i64 (ns.length:Int))) (upd 17 (.v (.int .i64 (t.1.1:Int))) AQ))))),upd m4 (some (.mo (AP qb_ vW t.1.2.1) false)) hp,t.1.2.2⟩) (fun t=>ns.length-t.1.1)
   ⟨(0,[],m4+2+3),Ll _,by dsimp only;omega,hW⟩ ?_ ?_
  ·exact CH
  rintro⟨⟨i,W',nxi⟩,hi,hn,hw⟩;dsimp only at hi hn hw;refine AW (ZT 1 ?_);by_cases hlt:i<ns.length
  ·have c1:(decide ((i:Int)<(ns.length:Int)))=true:=Cb;have e1:ns[i]? =some ns[i]:=Ld hlt;have ed:ns.drop i=ns[i]::ns.drop (i+1):=Ly hlt;rw[ed] at hw;generalize ns[i]=m at e1 hw;have e2:(ns.map AX)[i]? =some (AX m):=Cs AX e1;unfold RP at hw;obtain⟨ws,hws1,hw⟩:=AJ hw;refine Ck c1 ?_;refine Z0 ?_;refine AW (CN ?_);refine AW (ZT 1 ?_);have w:=Y2 e2 (Y4 (Cx .i64 (show(0:Int)<=(i:Int) by omega)) (show((i:Int)).toNat=i from Lv _) (Ho W') (show(i<ns.length)=True from eq_true hlt));refine Z1 w ?_;generalize eA:(upd (nxi+1+2) (some _) _:Hp)=hpA;have aq:hpA q=some (.bx [.mo m1,.mo m2,.mo m3]):=(by rw[<-eA,AR,AR];exact Hq W');have a1:hpA m1=some (.mo (AP .string vI T) false):=(by rw[<-eA,AR,AR];exact H1 W');have a2:hpA m2=some (.mo (AP qb_ vR R) false):=(by rw[<-eA,AR,AR];exact H2 W');have a3:hpA m3=some (.mo (AP qb_ vI []) false):=(by rw[<-eA,AR,AR];exact H3 W');have a4:hpA m4=some (.mo (AP qb_ vW W') false):=(by rw[<-eA,AR,AR,Ah]);have at_:hpA (nxi+1+2)=some (.bx [.v (.string m.typ),.v (.string m.rel)]):=(by rw[<-eA,Ah]);have aa:∀k,k≠nxi+1+2->hpA k=upd m4 (some (.mo (AP qb_ vW W') false)) hp k:=fun k h1=>(by rw[<-eA,Ad _ _ h1,Ad _ _ h1]);refine ZT 1 ?_;have hput:EG (true,[.string,.string]) (.agg #[.string m.typ,.string m.rel]) (.d (.sl (ws.map AD)) false) (AP qb_ vW W')=some (AP qb_ vW (mset m ws W')):=W4 (ev:=vW) Kc m ws W';refine Z1 (Y3 at_ a4 hput) ?_;refine W7 (b:=true) [q,m1,m2,m3] (fun hp1 h1=>PW.cons (DZ.d (CW.one (Hx ((h1 q (.head _)).trans aq) ((h1 m1 (.tail _ (.head _))).trans a1) ((h1 m2 (.tail _ (.tail _ (.head _)))).trans a2) ((h1 m3 (.tail _ (.tail _ (.tail _ (.head _))))).trans a3)) rfl)) (PW.cons (DZ.d (CW.agP (PW.cons (Ce.one (b':=false) (is:=[]) rfl (fun _=>rfl)) (PW.cons (Ce.one (b':=false) (is:=[]) rfl (fun _=>rfl)) PW.nil)))) PW.nil)) (CQ.of_pure (wR hws1)) ?_;refine Z1 (Y2 a4 hput) ?_;have v1:CV m4 (nxi+1+2) q q m4=1:=(by simp[CV]);have v2:CV m4 (nxi+1+2) q q (nxi+1+2)=2:=(by unfold CV;rw[ifn,if_pos rfl]);refine bL (CV m4 (nxi+1+2) q q) _ rfl (by rfl) ?_;refine Z0 ?_;refine ZT 1 ?_;refine Z1 (As (n:=i)) ?_;refine⟨⟨(i+1,mset m ws W',nxi+1+4+6+2),hlt,by dsimp only;omega,hw⟩,.weak ⟨Cv rfl C7,fun k=> ?_,by dsimp only;omega⟩,by dsimp only;omega⟩;grind [Ah,Ad]
  have c1:(decide ((i:Int)<(ns.length:Int)))=false:=Cr;obtain rfl:i=ns.length:=by omega
  rw[NX] at hw;cases hw;refine Ck c1 ?_;refine Z0 ?_;exact⟨⟨_,by omega⟩,CH⟩
 rintro⟨nxk,hk⟩;obtain⟨L,eL⟩:∃L,L=ns.length:=⟨_,rfl⟩;have Rq:∀K:List (AA × Int),upd m3 (some (.mo (AP qb_ vI K) false)) (upd m4 (some (.mo (AP qb_ vW W) false)) hp) q=some (.bx [.mo m1,.mo m2,.mo m3]):=fun K=>by rw[Ad _ _ hd3,AR];exact hq
 have R3:∀K:List (AA × Int),upd m3 (some (.mo (AP qb_ vI K) false)) (upd m4 (some (.mo (AP qb_ vW W) false)) hp) m3=some (.mo (AP qb_ vI K) false):=fun K=>Ah _ _ _;have R4:∀K:List (AA × Int),upd m3 (some (.mo (AP qb_ vI K) false)) (upd m4 (some (.mo (AP qb_ vW W) false)) hp) m4=some (.mo (AP qb_ vW W) false):=fun K=>by rw[AR,Ah]
 have Ro:∀K:List (AA × Int),upd m3 (some (.mo (AP qb_ vI K) false)) (upd m4 (some (.mo (AP qb_ vW W) false)) hp) oid=some (.rw (ns.map AX) 2 over false false):=fun K=>by rw[Ad _ _ hod.2.2.2,AR];exact ho
 have Rf:∀(K:List (AA × Int)) (j:Nat),nx+2<=j->upd m3 (some (.mo (AP qb_ vI K) false)) (upd m4 (some (.mo (AP qb_ vW W) false)) hp) j=none:=fun K j hj=>by rw[AR,AR];exact hf j (by omega)
 have hK0:upd m4 (some (.mo (AP qb_ vW W) false)) hp=upd m3 (some (.mo (AP qb_ vI []) false)) (upd m4 (some (.mo (AP qb_ vW W) false)) hp):=(FE (by rw[AR];exact hm3)).symm;rw[hK0];refine ET ?_;refine CN ?_;refine DS (α:={ t:Nat × List (AA × Int) × Bool × Nat // nx+2<=t.2.2.2/\(if t.2.2.1 then Kk W (ns.length:Int) ns t.1 t.2.1=some res else res=some t.2.1) })
  (fun t=>⟨upd 0 (.pt q 0) (upd 1 (.so oid over 0 ns.length) (upd 5 (.mo m4) (upd 8 (.v (.bool t.1.2.2.1)) AQ))),upd m3 (some (.mo (AP qb_ vI t.1.2.1) false)) (upd m4 (some (.mo (AP qb_ vW W) false)) hp),t.1.2.2.2⟩) (fun t=>t.1.1)
  ⟨(c,[],true,nxk+1),by dsimp only;omega,by dsimp only;rw[if_pos rfl];exact h⟩ ?_ ?_
 ·exact CH
 rintro⟨⟨c,K,b,nxa⟩,hna,hr⟩;dsimp only at hna hr;refine AW (AW ?_);refine ZT 1 ?_;cases b with
 |false=>
  rw[if_neg (by decide)] at hr;subst hr;refine GI ?_;refine Az ?_;refine AN ?_;refine⟨_,upd m3 (some (.mo (AP qb_ vI K) false)) hp,rfl,⟨fun k=> ?_⟩,rfl,⟨K,fun K' e=>(LI e).symm,rfl⟩,by dsimp only;omega⟩;grind [Ah,Ad]
 |true=>
  rw[if_pos rfl] at hr;cases c with
  |zero=>cases hr
  |succ c=>
  unfold Kk at hr;refine GI ?_;refine CN ?_;refine D3 ?_;refine CN ?_;refine DS (α:={ t:Nat × List (AA × Int) × Bool × Nat // t.1<=ns.length/\nx+2<=t.2.2.2/\(match MX W (ns.length:Int) (ns.drop t.1) (t.2.1,t.2.2.1) with |none=>res=none |some s=>if s.2 then Kk W (ns.length:Int) ns c s.1=some res else res=some s.1) })
   (fun t=>⟨upd 0 (.pt q 0) (upd 1 (.so oid over 0 ns.length) (upd 5 (.mo m4) (upd 8 (.v (.bool t.1.2.2.1)) (upd 28 (.so oid over 0 ns.length) (upd 29 (.v (.int .i64 (ns.length:Int))) (upd 30 (.v (.int .i64 (t.1.1:Int))) AQ)))))),upd m3 (some (.mo (AP qb_ vI t.1.2.1) false)) (upd m4 (some (.mo (AP qb_ vW W) false)) hp),t.1.2.2.2⟩) (fun t=>ns.length-t.1.1)
   ⟨(0,K,false,nxa+1+1+3),Ll _,by dsimp only;omega,?_⟩ ?_ ?_
  ·grind
  ·exact CH
  rintro⟨⟨i,K1,b,nxi⟩,hi,hni,hp1⟩;dsimp only at hi hni hp1;refine AW (ZT 1 ?_);by_cases hlt:i<ns.length;rotate_left
  ·have c1:(decide ((i:Int)<(ns.length:Int)))=false:=Cr;obtain rfl:i=ns.length:=(by omega);rw[NX] at hp1;refine Ck c1 ?_;refine Z0 ?_;exact⟨⟨(c,K1,b,nxi+1),by dsimp only;omega,hp1⟩,CH,LF c⟩
  have c1:(decide ((i:Int)<(ns.length:Int)))=true:=Cb;have e1:ns[i]? =some ns[i]:=Ld hlt;have ed:ns.drop i=ns[i]::ns.drop (i+1):=Ly hlt;obtain⟨ws,hg⟩:∃ws,mget ns[i] W=some ws:=NH.1 (hWs _ (NV hlt));rw[ed] at hp1;generalize ns[i]=m at e1 hp1 hg;have e2:(ns.map AX)[i]? =some (AX m):=Cs AX e1;have hgD:qg_ m [] W=ws:=by unfold qg_;rw[hg];rfl
  have hwl:ws.length<1000000000:=hws _ (dK hg);unfold MX at hp1;rw[hgD] at hp1;have hlk:EM (true,[.string,.string]) (.agg #[.string m.typ,.string m.rel]) (.v (.slice none 0 0)) false (AP qb_ vW W)=some (.d (.sl (ws.map AD)) false,[]):=by
   refine(mu Kc m (.v (.slice none 0 0)) false W).trans ?_;rw[hg];rfl
  refine Ck c1 ?_;refine Z0 ?_;refine AW (CN ?_);refine AW (ZT 1 ?_);have w:=Y2 e2 (Y4 (Cx .i64 (show(0:Int)<=(i:Int) by omega)) (show((i:Int)).toNat=i from Lv _) (Ro K1) (show(i<ns.length)=True from eq_true hlt));refine Z1 w ?_;refine AW (AW ?_);refine ZT 1 ?_;obtain⟨tb,etb⟩:∃tb,tb=nxi+1+2:=⟨_,rfl⟩;rw[<-etb,EL];have ht3:tb≠m3:=by omega
  have ht4:tb≠m4:=by omega
  have htq:tb≠q:=by omega
  have Bt:∀K:List (AA × Int),upd tb (some (.bx [.v (.string m.typ),.v (.string m.rel)])) (upd m3 (some (.mo (AP qb_ vI K) false)) (upd m4 (some (.mo (AP qb_ vW W) false)) hp)) tb=some (.bx [.v (.string m.typ),.v (.string m.rel)]):=fun K=>Ah _ _ _
  have B4:∀K:List (AA × Int),upd tb (some (.bx [.v (.string m.typ),.v (.string m.rel)])) (upd m3 (some (.mo (AP qb_ vI K) false)) (upd m4 (some (.mo (AP qb_ vW W) false)) hp)) m4=some (.mo (AP qb_ vW W) false):=fun K=>by rw[Ad _ _ ht4.symm];exact R4 K
  have B3:∀K:List (AA × Int),upd tb (some (.bx [.v (.string m.typ),.v (.string m.rel)])) (upd m3 (some (.mo (AP qb_ vI K) false)) (upd m4 (some (.mo (AP qb_ vW W) false)) hp)) m3=some (.mo (AP qb_ vI K) false):=fun K=>by rw[Ad _ _ ht3.symm];exact R3 K
  have Bq:∀K:List (AA × Int),upd tb (some (.bx [.v (.string m.typ),.v (.string m.rel)])) (upd m3 (some (.mo (AP qb_ vI K) false)) (upd m4 (some (.mo (AP qb_ vW W) false)) hp)) q=some (.bx [.mo m1,.mo m2,.mo m3]):=fun K=>by rw[Ad _ _ htq.symm];exact Rq K
  have Bf:∀(K:List (AA × Int)) (j:Nat),tb<j->upd tb (some (.bx [.v (.string m.typ),.v (.string m.rel)])) (upd m3 (some (.mo (AP qb_ vI K) false)) (upd m4 (some (.mo (AP qb_ vW W) false)) hp)) j=none:=fun K j hj=>by rw[AR];exact Rf K j (by omega)
  have hkm:∀K:List (AA × Int),EM (true,[.string,.string]) (.agg #[.string m.typ,.string m.rel]) (.v (.int .i64 0)) false (AP qb_ vI K)=some (.v (.int .i64 (qg_ m 0 K)),[]):=fun K=>SV (ev:=vI) Kc m 0 false K;obtain⟨s2,es2⟩:∃s2,s2=zA_ m ws (K1,b):=⟨_,rfl⟩;rw[<-es2] at hp1;refine Z1 (Y3 (Bt K1) (B4 K1) hlk) ?_;refine CN ?_;refine DS (α:={ t:Nat × List (AA × Int) × Bool × Nat // t.1<=ws.length/\tb<t.2.2.2/\zA_ m (ws.drop t.1) (t.2.1,t.2.2.1)=s2 })
   (fun t=>⟨upd 0 (.pt q 0) (upd 1 (.so oid over 0 ns.length) (upd 5 (.mo m4) (upd 8 (.v (.bool t.1.2.2.1)) (upd 10 (.pt tb 0) (upd 28 (.so oid over 0 ns.length) (upd 29 (.v (.int .i64 (ns.length:Int))) (upd 30 (.v (.int .i64 (i:Int))) (upd 36 (.d (.sl (ws.map AD)) false) (upd 37 (.v (.int .i64 (ws.length:Int))) (upd 38 (.v (.int .i64 (t.1.1:Int))) AQ)))))))))),upd tb (some (.bx [.v (.string m.typ),.v (.string m.rel)])) (upd m3 (some (.mo (AP qb_ vI t.1.2.1) false)) (upd m4 (some (.mo (AP qb_ vW W) false)) hp)),t.1.2.2.2⟩) (fun t=>ws.length-t.1.1)
   ⟨(0,K1,b,nxi+1+4+5),Ll _,by dsimp only;omega,es2.symm⟩ ?_ ?_
  ·exact CH
  rintro⟨⟨j,K2,b2,nxj⟩,hj,htj,hst⟩;dsimp only at hj htj hst;refine AW (ZT 1 ?_);by_cases hjl:j<ws.length;rotate_left
  ·have c2:(decide ((j:Int)<(ws.length:Int)))=false:=Cr;obtain rfl:j=ws.length:=(by omega);rw[NX] at hst;unfold zA_ at hst;subst hst;refine Ck c2 ?_;refine Dj ?_;cases hb:decide ((ns.length:Int)<qg_ m 0 K2) with
   |true=>
    rw[hb,if_pos rfl] at hp1;dsimp only at hp1;subst hp1;refine Z1 (Y5 (Bq K2) (B3 K2) (Bt K2) (hkm K2) hb) ?_;refine DR (by rfl) ?_;refine Z0 ?_;refine EV (c:=true) rfl rfl ?_;refine Az ?_;refine AN ?_;refine⟨_,upd m3 (some (.mo (AP qb_ vI K2) false)) hp,rfl,⟨fun k=> ?_⟩,rfl,⟨K2,fun K' e=>(by cases e),rfl⟩,by dsimp only;omega⟩;grind [Ah,Ad,AR]
   |false=>
    rw[hb,if_neg (by decide)] at hp1;refine Z1 (Y5 (Bq K2) (B3 K2) (Bt K2) (hkm K2) hb) ?_;refine DR (by rfl) ?_;refine Z0 ?_;refine DF (c:=false) rfl rfl ?_;refine AN ?_;refine ZT 1 ?_;refine Z1 (As (n:=i)) ?_;refine⟨⟨(i+1,K2,b2,nxj+1+9+2),hlt,by dsimp only;omega,hp1⟩,.weak ⟨Cv rfl C7,fun k=> ?_,by dsimp only;omega⟩,by dsimp only;omega⟩;grind [Ad]
  have c2:(decide ((j:Int)<(ws.length:Int)))=true:=Cb;have e3:ws[j]? =some ws[j]:=Ld hjl;have ed2:ws.drop j=ws[j]::ws.drop (j+1):=Ly hjl;rw[ed2] at hst;generalize ws[j]=y at e3 hst;have e4:(ws.map AD)[j]? =some (AD y):=Cs AD e3;unfold zA_ at hst;have hky:EM (true,[.string,.string]) (.agg #[.string y.to1.typ,.string y.to1.rel]) (.v (.int .i64 0)) false (AP qb_ vI K2)=some (.v (.int .i64 (qg_ y.to1 0 K2)),[]):=SV (ev:=vI) Kc y.to1 0 false K2;refine Ck c2 ?_;refine Z0 ?_;refine AW ?_;refine EI (α:={ t:List (AA × Int) × Bool × Nat // tb<t.2.2/\zA_ m (ws.drop (j+1)) (t.1,t.2.1)=s2 })
   (fun t=>⟨upd 0 (.pt q 0) (upd 1 (.so oid over 0 ns.length) (upd 5 (.mo m4) (upd 8 (.v (.bool t.1.2.1)) (upd 10 (.pt tb 0) (upd 28 (.so oid over 0 ns.length) (upd 29 (.v (.int .i64 (ns.length:Int))) (upd 30 (.v (.int .i64 (i:Int))) (upd 36 (.d (.sl (ws.map AD)) false) (upd 37 (.v (.int .i64 (ws.length:Int))) (upd 38 (.v (.int .i64 (j:Int))) AQ)))))))))),upd tb (some (.bx [.v (.string m.typ),.v (.string m.rel)])) (upd m3 (some (.mo (AP qb_ vI t.1.1) false)) (upd m4 (some (.mo (AP qb_ vW W) false)) hp)),t.1.2.2⟩) ?_ ?_
  ·refine CN ?_;refine AW (ZT 1 ?_);have w2:=Y2 e4 (Y2 (Cx .i64 (show(0:Int)<=(j:Int) by omega)) (show((j:Int)).toNat=j from Lv _));refine Z1 w2 ?_;generalize eD:(upd (nxj+1+2) (some _) _:Hp)=hpD;have dq:hpD q=some (.bx [.mo m1,.mo m2,.mo m3]):=(by rw[<-eD,AR,AR];exact Bq K2);have d3:hpD m3=some (.mo (AP qb_ vI K2) false):=(by rw[<-eD,AR,AR];exact B3 K2);have dt:hpD tb=some (.bx [.v (.string m.typ),.v (.string m.rel)]):=(by rw[<-eD,AR,AR];exact Bt K2);have dw:hpD (nxj+1+2)=some (.bx [.v (.string y.to1.typ),.v (.string y.to1.rel),.v (.int .i64 y.taken)]):=(by rw[<-eD,Ah]);have da:∀k,k≠nxj+1+2->hpD k=upd tb (some (.bx [.v (.string m.typ),.v (.string m.rel)])) (upd m3 (some (.mo (AP qb_ vI K2) false)) (upd m4 (some (.mo (AP qb_ vW W) false)) hp)) k:=fun k h1=>(by rw[<-eD,Ad _ _ h1,Ad _ _ h1]);have df:∀k,nxj+1+3<=k->hpD k=none:=fun k hk=>(by grind);refine AW (ZT 1 ?_);refine Z1 (Y4 dq d3 dw hky) ?_;refine DR (by rfl) ?_;refine Z0 ?_;obtain⟨kw,ekw⟩:∃kw,kw=i64.wrap (qg_ y.to1 0 K2+y.taken):=⟨_,rfl⟩;rw[<-ekw] at hst⊢;refine AW (ZT 1 ?_);cases hb:decide (qg_ m 0 K2<kw) with
   |false=>
    rw[hb,if_neg (by decide)] at hst;refine Z1 (Y5 dq d3 dt (hkm K2) hb) ?_;refine DR (by rfl) ?_;refine Z0 ?_;refine DF (c:=false) rfl rfl ?_;refine AN ?_;refine⟨⟨(K2,b2,nxj+1+4+11+8),by dsimp only;omega,hst⟩,.weak ⟨Cv rfl C7,fun k=> ?_,by dsimp only;omega⟩⟩;grind
   |true=>
    rw[hb,if_pos rfl] at hst;refine Z1 (Y5 dq d3 dt (hkm K2) hb) ?_;refine DR (by rfl) ?_;refine Z0 ?_;refine ZT 1 ?_;obtain⟨o,q1,q2,q3⟩:=Mr (ev:=vI) Kc m K2;cases hm:mget m K2 with
    |none=>
     obtain⟨rfl,qs⟩:=q3 hm;have E1:GZ (true,[.string,.string]) (Value.agg #[.string m.typ,.string m.rel]) (.v (.int .i64 0)) m3 (AP qb_ vI K2)=some (.tu [.v (.int .i64 0),.v (.int .i64 ((AP qb_ vI K2).length:Int))],[(m3,.mo (AP qb_ vI K2++[(Value.agg #[.string m.typ,.string m.rel],.v (.int .i64 0))]) false)]):=K9 q1 _ _;have E2:D8 (.v (.int .i64 ((AP qb_ vI K2).length:Int)))=some (AP qb_ vI K2).length:=(by rw[Cx .i64 (by omega)];simp);have E3:(AP qb_ vI K2++[(Value.agg #[.string m.typ,.string m.rel],AV.v (.int .i64 0))])[(AP qb_ vI K2).length]? =some (Value.agg #[.string m.typ,.string m.rel],.v (.int .i64 0)):=gy _;have E4:(AP qb_ vI K2++[(Value.agg #[.string m.typ,.string m.rel],AV.v (.int .i64 0))]).set (AP qb_ vI K2).length (Value.agg #[.string m.typ,.string m.rel],.v (.int .i64 kw))=AP qb_ vI (mset m kw K2):=(by rw[gz,qs];simp[AP,qb_]);refine Z1 (Y2 (Y6 dq d3 dt E1 E2 E3) E4) ?_;have v1:CV q m3 tb (nxj+1+2) q=1:=(by simp[CV]);have v2:CV q m3 tb (nxj+1+2) m3=2:=(by unfold CV;rw[if_neg hd3.symm,if_pos rfl]);have v3:CV q m3 tb (nxj+1+2) tb=3:=(by unfold CV;rw[if_neg htq,if_neg ht3,if_pos rfl]);refine JH (CV q m3 tb (nxj+1+2)) _ rfl (by rfl) (by rfl) ?_;refine Z0 ?_;refine⟨⟨(mset m kw K2,true,nxj+1+4+11+8+10),by dsimp only;omega,hst⟩,.weak ⟨Cv rfl C7,fun k=> ?_,by dsimp only;omega⟩⟩;dsimp only;by_cases h3:k=m3
     ·exact .inr (by rw[h3,Ah,Ad _ _ ht3.symm,Ah])
     by_cases hk:k=nxj+1+2
     ·exact .inl (Bf _ k (by omega))
     refine .inr ?_;rw[Ad _ _ h3];try rw[Ad _ _ h3]
     rw[da k hk];by_cases h1:k=tb
     ·rw[h1,Ah,Ah]
     ·rw[Ad _ _ h1,Ad _ _ h1,Ad _ _ h3,Ad _ _ h3]
    |some v0=>
     obtain⟨j0,rfl,qs⟩:=q2 v0 hm;obtain⟨k0,hk0⟩:=mv q1;have E1:GZ (true,[.string,.string]) (Value.agg #[.string m.typ,.string m.rel]) (.v (.int .i64 0)) m3 (AP qb_ vI K2)=some (.tu [.v (.int .i64 v0),.v (.int .i64 (j0:Int))],[(m3,.mo ((AP qb_ vI K2).set j0 (Value.agg #[.string m.typ,.string m.rel],.v (.int .i64 v0))) false)]):=MA q1 _ _;have E2:D8 (.v (.int .i64 (j0:Int)))=some j0:=(by rw[Cx .i64 (by omega)];simp);have E3:((AP qb_ vI K2).set j0 (Value.agg #[.string m.typ,.string m.rel],AV.v (.int .i64 v0)))[j0]? =some (Value.agg #[.string m.typ,.string m.rel],.v (.int .i64 v0)):=K8 hk0 _;have E4:((AP qb_ vI K2).set j0 (Value.agg #[.string m.typ,.string m.rel],AV.v (.int .i64 v0))).set j0 (Value.agg #[.string m.typ,.string m.rel],.v (.int .i64 kw))=AP qb_ vI (mset m kw K2):=(by rw[List.set_set];exact qs kw);refine Z1 (Y2 (Y6 dq d3 dt E1 E2 E3) E4) ?_;have v1:CV q m3 tb (nxj+1+2) q=1:=(by simp[CV]);have v2:CV q m3 tb (nxj+1+2) m3=2:=(by unfold CV;rw[if_neg hd3.symm,if_pos rfl]);have v3:CV q m3 tb (nxj+1+2) tb=3:=(by unfold CV;rw[if_neg htq,if_neg ht3,if_pos rfl]);refine JH (CV q m3 tb (nxj+1+2)) _ rfl (by rfl) (by rfl) ?_;refine Z0 ?_;refine⟨⟨(mset m kw K2,true,nxj+1+4+11+8+10),by dsimp only;omega,hst⟩,.weak ⟨Cv rfl C7,fun k=> ?_,by dsimp only;omega⟩⟩;dsimp only;by_cases h3:k=m3
     ·exact .inr (by rw[h3,Ah,Ad _ _ ht3.symm,Ah])
     by_cases hk:k=nxj+1+2
     ·exact .inl (Bf _ k (by omega))
     refine .inr ?_;rw[Ad _ _ h3];try rw[Ad _ _ h3]
     rw[da k hk];by_cases h1:k=tb
     ·rw[h1,Ah,Ah]
     rw[Ad _ _ h1,Ad _ _ h1,Ad _ _ h3,Ad _ _ h3]
  rintro⟨⟨K3,b3,nxk⟩,htk,hst3⟩;refine ZT 1 ?_;refine Z1 (As (n:=j)) ?_;exact⟨⟨(j+1,K3,b3,nxk+2),hjl,Lz htk (NW _ _),hst3⟩,CH,by dsimp only;omega⟩
end
def GN {α:Type}:Nat->List α->Nat->Nat->Option (List α)
 |0,_,_,_=>none
 |f+1,xs,i,j=>if i<j then(xs[j]?).bind fun x=>(xs[i]?).bind fun y=>GN f ((xs.set i x).set j y) (i+1) (j-1) else some xs
theorem nJ {α:Type}:∀ {f i j:Nat} {xs ys:List α},GN f xs i j=some ys->ys.length=xs.length
 |0,_,_,_,_,h=>by cases h
 |f+1,i,j,xs,ys,h=>by
  unfold GN at h;split at h
  ·obtain⟨x,_,h⟩:=AJ h;obtain⟨y,_,h⟩:=AJ h;rw[nJ h];simp
  cases h;rfl
theorem Vt {a:Nat}(hb:1<=a)(h:a<4611686018427387904):i64.wrap ((a:Int)-1)=((a-1:Nat):Int):=Dt (a:=a) (b:=1) hb h
theorem rev_nil {hp:Hp}{nx:Nat}:AK Tryz.prog 90 [.v (.slice none 0 0)] hp nx fun v hp2 nx2=>v= .tu []/\hp2=hp/\nx<=nx2:=by
 refine zq Tryz.func90 ?_;refine AW (ZT 1 ?_);refine Z1 (show i64.wrap (0-1)= -1 from by decide) ?_;refine CN ?_;refine DS (α:=Unit) (fun _=>⟨upd 2 (.v (.int .i64 0)) (upd 3 (.v (.int .i64 (-1))) AQ),hp,nx+5⟩) (fun _=>0) () ?_ ?_
 ·exact CH
 rintro⟨⟩;refine ET ?_;refine AN ?_;exact⟨_,_,rfl,⟨fun _=>.inr rfl⟩,rfl,rfl,by dsimp only;omega⟩
set_option maxRecDepth 4000 in
theorem RT {hp:Hp}{nx i ver L f:Nat}{br:Bool}{xs R:List AA}(hx:hp i=some (.rw (xs.map AX) 2 ver br false))(hL:xs.length=L)(h0:0<L)(hL2:L<4294967296)(hR:GN f xs 0 (L-1)=some R):
  AK Tryz.prog 90 [.so i ver 0 L] hp nx fun v hp2 nx2=>v= .tu []/\hp2=upd i (some (.rw (R.map AX) 2 ver br false)) hp/\nx<=nx2:=by
 refine zq Tryz.func90 ?_;refine AW (ZT 1 ?_);refine Z1 (Vt h0 (by omega)) ?_;refine CN ?_;refine DS (α:={ t:Nat × List AA × Nat × Nat × Nat // nx<=t.2.2.2.2/\t.2.1.length=L/\t.2.2.1<=L/\t.2.2.2.1<L/\GN t.1 t.2.1 t.2.2.1 t.2.2.2.1=some R })
  (fun t=>⟨upd 0 (.so i ver 0 L) (upd 2 (.v (.int .i64 (t.1.2.2.1:Int))) (upd 3 (.v (.int .i64 (t.1.2.2.2.1:Int))) AQ)),upd i (some (.rw (t.1.2.1.map AX) 2 ver br false)) hp,t.1.2.2.2.2⟩) (fun t=>t.1.1)
  ⟨(f,xs,0,L-1,nx+5),by dsimp only;omega,hL,Ll _,by dsimp only;omega,hR⟩ ?_ ?_
 ·rw[FE hx];exact CH
 rintro⟨⟨f,ys,a,b,nx1⟩,h1,h2,h3,h4,h5⟩;dsimp only at h1 h2 h3 h4 h5;cases f with
 |zero=>cases h5
 |succ f=>
 unfold GN at h5;refine AW (AW ?_);refine ZT 1 ?_;by_cases hk:a<b
 ·rw[if_pos hk] at h5;obtain⟨x,e1,h5⟩:=AJ h5;obtain⟨y,e2,h5⟩:=AJ h5;have c1:(decide ((a:Int)<(b:Int)))=true:=Cb;refine Ep c1 ?_;refine AW (CN ?_);refine ZT 1 ?_;obtain⟨z,ez⟩:∃z:AA,((ys.map AX).set a (AX x))[b]? =some (AX z):=by
   rw[<-NO,Lj];cases h:(ys.set a x)[b]? with
   |none=>
    rw[Ow,Bb] at h;omega
   |some z=>exact⟨z,rfl⟩
  refine Z1 (Y2 (Y6 (Cs AX e1) (Cs AX e2) ez (Cx .i64 (show(0:Int)<=(a:Int) by omega)) (Cx .i64 (show(0:Int)<=(b:Int) by omega)) (show((a:Int)).toNat=a from Lv _)) (Y3 (show((b:Int)).toNat=b from Lv _) (show(a<L)=True from FB) (show(b<L)=True from eq_true h4))) ?_;refine DR (by rfl) ?_;refine Z0 ?_;refine ZT 1 ?_;refine Z1 (Y2 (As (n:=a)) (Vt (a:=b) (by omega) (by omega))) ?_;refine⟨⟨(f,(ys.set a x).set b y,a+1,b-1,nx1+3+16+6),by dsimp only;omega,by simpa using h2,by dsimp only;omega,by dsimp only;omega,h5⟩,Fz ?_ C7,LF f⟩;rw[EL,EL];show upd i (some (.rw (((ys.set a x).set b y).map AX) 2 ver br false)) hp=_;rw[NO,NO]
 rw[if_neg hk] at h5;cases h5;have c1:(decide ((a:Int)<(b:Int)))=false:=Cr;refine Ep c1 ?_;exact⟨_,_,rfl,⟨fun _=>.inr rfl⟩,rfl,rfl,by dsimp only;omega⟩
end Go.Proofs.YtnmkbmefohakmaaGreat.Ab
