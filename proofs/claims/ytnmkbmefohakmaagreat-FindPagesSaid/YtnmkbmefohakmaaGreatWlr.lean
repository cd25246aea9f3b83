/-
 A row of names is turned over.
-/
import Derived.Test.YtnmkbmefohakmaaGreatWlk
namespace Go.Proofs.YtnmkbmefohakmaaGreat.Ab
open Go.RowKit
def vW (ws:List WellWay):AV:=.d (.sl (ws.map eWellWay)) false
def fA_ (n:Nat)(S:WellSchema):List WellName->List (WellName × List WellWay)->Option (List (WellName × List WellWay))
 |[],W=>some W
 |m::r,W=>(fC_ n S m).bind fun ws=>fA_ n S r (mset m ws W)
def vt_ (m:WellName):List WellWay->List (WellName × Int) × Bool->List (WellName × Int) × Bool
 |[],s=>s
 |w::r,s=>if decide (qk_ m 0 s.1<IntKind.i64.wrap (qk_ w.to 0 s.1+w.taken)) then vt_ m r (mset m (IntKind.i64.wrap (qk_ w.to 0 s.1+w.taken)) s.1,true) else vt_ m r s
def dQ_ (W:List (WellName × List WellWay))(lim:Int):List WellName->List (WellName × Int) × Bool->Option (List (WellName × Int) × Bool)
 |[],s=>some s
 |m::r,s=>if decide (lim<qk_ m 0 (vt_ m (qk_ m [] W) s).1) then none else dQ_ W lim r (vt_ m (qk_ m [] W) s)
def dR_ (W:List (WellName × List WellWay))(lim:Int)(ns:List WellName):Nat->List (WellName × Int)->Option (Option (List (WellName × Int)))
 |0,_=>none
 |c+1,K=>match dQ_ W lim ns (K,false) with
  |none=>some none
  |some s=>if s.2 then dR_ W lim ns c s.1 else some (some s.1)
theorem bu_ {K V:Type}[BEq K][LawfulBEq K]{k:K}{v:V}:∀ {m:List (K × V)},mget k m=some v->(k,v)∈m
 |[],h=>by cases h
 |p::r,h=>by
  unfold mget at h;split at h
  ·rename_i hk
   cases h;rw[eq_of_beq hk];exact .head _
  ·exact .tail _ (bu_ h)
theorem hH_ {q:Bool × List TK}{x:Value}:∀ {es:List (Value × AV)} {i:Nat} {v:AV},jw_ q x es=some (some (i,v))->∃k,es[i]? =some (k,v)
 |[],_,_,h=>by cases h
 |(k,w)::r,i,v,h=>by
  unfold jw_ at h;split at h
  ·cases h
   exact⟨k,rfl⟩
  ·cases e:jw_ q x r with
   |none=>
    rw[e] at h;cases h
   |some o=>
    cases o with
    |none=>
     rw[e] at h;cases h
    |some p=>
     rw[e] at h;cases h;obtain⟨k2,h2⟩:=hH_ e;exact⟨k2,h2⟩
  ·cases h
theorem c6_ {hp:Hp}{m:Nat}{dl:Bool}{R:List (WellName × GRel)}(h:hp m=some (.mo (encM qc_ vR R) dl)):ToX hp true (.mo m) (.mp (qi_ qc_ true eGRel R)):=by
 have at_:∀ {j:Nat} {k:Value} {v:AV},(encM qc_ vR R)[j]? =some (k,v)->∃p,R[j]? =some p/\k=qc_ p.1/\v=vR p.2:=fun{j k v} h=>by
  simp only[encM,List.getElem?_map,Option.map_eq_some_iff] at h;obtain⟨p,h1,h2⟩:=h;simp only[Prod.mk.injEq] at h2;exact⟨p,h1,h2.1.symm,h2.2.symm⟩
 have at2:∀ {j:Nat} {k:Value} {ag:Bool} {ds:List D} {p:WellName × GRel},R[j]? =some p->(qi_ qc_ true eGRel R)[j]? =some (k,ag,ds)->k=qc_ p.1/\ag=true/\ds=eGRel p.2:=fun{j k ag ds p} h1 h2=>by
  simp only[qi_,List.getElem?_map,h1,Option.map_some,Option.some.injEq,Prod.mk.injEq] at h2;exact⟨h2.1.symm,h2.2.1.symm,h2.2.2.symm⟩
 refine .mo h (by simp[qi_,encM]) (fun j k v k' ag ds h1 h2=> ?_) fun j k v k' ag ds i x d h1 h2 h3 h4=> ?_
 ·obtain⟨p,e1,rfl,rfl⟩:=at_ h1
  obtain⟨rfl,rfl,rfl⟩:=at2 e1 h2;exact⟨rfl,rfl,rfl,fun h=>by cases h⟩
 ·obtain⟨p,e1,rfl,rfl⟩:=at_ h1
  obtain⟨rfl,rfl,rfl⟩:=at2 e1 h2
  match i,h3,h4 with
  |0,h3,h4=>cases h3;cases h4;exact .one (b':=false) (is:=[]) rfl (by simp)
  |1,h3,h4=>cases h3;cases h4;exact .one (b':=true) (is:=[]) rfl (by simp)
  |2,h3,h4=>cases h3;cases h4;exact .one (b':=true) (is:=[]) rfl (by simp)
  |i+3,h3,_=>simp[vR,cR,zm_] at h3
theorem sch_X {hp:Hp}{q m1 m2 m3:Nat}{d1 d2 d3:Bool}{T:List (ByteArray × Int)}{R:List (WellName × GRel)}{K:List (WellName × Int)}(hq:hp q=some (.bx [.mo m1,.mo m2,.mo m3]))(hm1:hp m1=some (.mo (encM .string vI T) d1))(hm2:hp m2=some (.mo (encM qc_ vR R) d2))(hm3:hp m3=some (.mo (encM qc_ vI K) d3)):
  ToX hp true (.pt q 0) (.pt (eWellSchema ⟨T,R,K⟩) 0):=
 .place hq (PW.cons (s3_ hm1 fun _=>⟨_,rfl,rfl,rfl⟩) (PW.cons (c6_ hm2) (PW.cons (s3_ hm3 fun _=>⟨_,rfl,rfl,rfl⟩) PW.nil)))
section
variable {hp:Hp}{nx q m1 m2 m3 oid over:Nat}
set_option maxRecDepth 8000 in
theorem c7_ {n c:Nat}{ns:List WellName}{T:List (ByteArray × Int)}{R:List (WellName × GRel)}{W:List (WellName × List WellWay)}{res:Option (List (WellName × Int))}(hf:∀j,nx<=j->hp j=none)(h0:0<ns.length)(hl:ns.length<1000000000)
  (hq:hp q=some (.bx [.mo m1,.mo m2,.mo m3])) (hm1:hp m1=some (.mo (encM .string vI T) false)) (hm2:hp m2=some (.mo (encM qc_ vR R) false)) (hm3:hp m3=some (.mo (encM qc_ vI []) false)) (ho:hp oid=some (.rw (ns.map eWellName) 2 over false false))
  (hd:q≠m1/\q≠m2/\q≠m3/\m1≠m2/\m1≠m3/\m2≠m3) (hod:oid≠q/\oid≠m1/\oid≠m2/\oid≠m3) (hW:fA_ n ⟨T,R,[]⟩ ns []=some W) (hWs:∀m∈ns,(mget m W).isSome=true) (hws:∀p∈W,p.2.length<1000000000) (h:dR_ W (ns.length:Int) ns c []=some res):
  InlOK Tryz.prog 91 [.pt q 0,.so oid over 0 ns.length] hp nx fun v hp2 nx2=>v= .v (.bool res.isSome)/\(∃K,(∀K',res=some K'->K'=K)/\hp2=upd m3 (some (.mo (encM qc_ vI K) false)) hp)/\nx<=nx2:=by
 have hqn:=qm_ hf hq;have hmn1:=qm_ hf hm1;have hmn2:=qm_ hf hm2;have hmn3:=qm_ hf hm3;have hon:=qm_ hf ho;obtain⟨hd1,hd2,hd3,hd4,hd5,hd6⟩:=hd;refine qX_ qf_ Tryz.func91 (by rfl) (by kernel_rfl) (by kernel_rfl) (by exact Nat.le_of_ble_eq_true rfl) ?_;refine zsq (ZT 1 ?_);refine Z0 ?_;refine zsq (ZT 1 ?_);refine Z0 ?_;refine zsq (zsq ?_);refine ZT 1 ?_;refine Z0 ?_
 obtain⟨m4,e4⟩:∃m4,m4=nx+1:=⟨_,rfl⟩;rw[<-e4];have hW0:(some (AO.mo [] false):Option AO)=some (.mo (encM qc_ vW []) false):=rfl;rw[hW0];have Hq:∀W':List (WellName × List WellWay),upd m4 (some (.mo (encM qc_ vW W') false)) hp q=some (.bx [.mo m1,.mo m2,.mo m3]):=fun W'=>by rw[qb_ _ _ (by omega)];exact hq
 have H1:∀W':List (WellName × List WellWay),upd m4 (some (.mo (encM qc_ vW W') false)) hp m1=some (.mo (encM .string vI T) false):=fun W'=>by rw[qb_ _ _ (by omega)];exact hm1
 have H2:∀W':List (WellName × List WellWay),upd m4 (some (.mo (encM qc_ vW W') false)) hp m2=some (.mo (encM qc_ vR R) false):=fun W'=>by rw[qb_ _ _ (by omega)];exact hm2
 have H3:∀W':List (WellName × List WellWay),upd m4 (some (.mo (encM qc_ vW W') false)) hp m3=some (.mo (encM qc_ vI []) false):=fun W'=>by rw[qb_ _ _ (by omega)];exact hm3
 have Ho:∀W':List (WellName × List WellWay),upd m4 (some (.mo (encM qc_ vW W') false)) hp oid=some (.rw (ns.map eWellName) 2 over false false):=fun W'=>by rw[qb_ _ _ (by omega)];exact ho
 have Hf:∀(W':List (WellName × List WellWay)) (j:Nat),nx+2<=j->upd m4 (some (.mo (encM qc_ vW W') false)) hp j=none:=fun W' j hj=>by rw[qb_ _ _ (by omega)];exact hf j (by omega)
 refine zjn (α:={ k:Nat // nx+2<=k }) (fun k=>⟨upd 0 (.pt q 0) (upd 1 (.so oid over 0 ns.length) (upd 5 (.mo m4) noFr)),upd m4 (some (.mo (encM qc_ vW W) false)) hp,k.1⟩) ?_ ?_
 ·refine zbk ?_
  refine zlp (α:={ t:Nat × List (WellName × List WellWay) × Nat // t.1<=ns.length/\nx+2<=t.2.2/\fA_ n ⟨T,R,[]⟩ (ns.drop t.1) t.2.1=some W })
   (fun t=>⟨upd 0 (.pt q 0) (upd 1 (.so oid over 0 ns.length) (upd 5 (.mo m4) (upd 15 (.so oid over 0 ns.length) (upd 16 (.v (.int .i64 (ns.length:Int))) (upd 17 (.v (.int .i64 (t.1.1:Int))) noFr))))),upd m4 (some (.mo (encM qc_ vW t.1.2.1) false)) hp,t.1.2.2⟩) (fun t=>ns.length-t.1.1)
   ⟨(0,[],m4+2+3),Nat.zero_le _,by dsimp only;omega,hW⟩ ?_ ?_
  ·exact wkI (qa_ rfl (qa_ rfl (qa_ rfl (qa_ rfl (qa_ rfl (qa_ rfl (qh_ _)))))))
  ·rintro⟨⟨i,W',nxi⟩,hi,hn,hw⟩
   dsimp only at hi hn hw;refine zsq (ZT 1 ?_);by_cases hlt:i<ns.length
   ·have c1:(decide ((i:Int)<(ns.length:Int)))=true:=decide_eq_true (by omega)
    have e1:ns[i]? =some ns[i]:=List.getElem?_eq_getElem hlt;have ed:ns.drop i=ns[i]::ns.drop (i+1):=List.drop_eq_getElem_cons hlt;rw[ed] at hw;generalize ns[i]=m at e1 hw;have e2:(ns.map eWellName)[i]? =some (eWellName m):=qn_ eWellName e1;unfold fA_ at hw;obtain⟨ws,hws1,hw⟩:=zbi hw;refine Z1 c1 ?_;refine zsq (ZT 1 ?_);refine Z0 ?_;refine zsq (zbk ?_)
    refine zsq (ZT 1 ?_);have w:=And.intro e2 (And.intro (zno .i64 (show(0:Int)<=(i:Int) by omega)) (And.intro (show((i:Int)).toNat=i from Int.toNat_natCast _) (And.intro (Ho W') (show(i<ns.length)=True from eq_true hlt))));refine Z1 w ?_;generalize eA:(upd (nxi+1+2) (some _) _:Hp)=hpA
    have aq:hpA q=some (.bx [.mo m1,.mo m2,.mo m3]):=by rw[<-eA,qb_ _ _ (by omega),qb_ _ _ (by omega)];exact Hq W'
    have a1:hpA m1=some (.mo (encM .string vI T) false):=by rw[<-eA,qb_ _ _ (by omega),qb_ _ _ (by omega)];exact H1 W'
    have a2:hpA m2=some (.mo (encM qc_ vR R) false):=by rw[<-eA,qb_ _ _ (by omega),qb_ _ _ (by omega)];exact H2 W'
    have a3:hpA m3=some (.mo (encM qc_ vI []) false):=by rw[<-eA,qb_ _ _ (by omega),qb_ _ _ (by omega)];exact H3 W'
    have a4:hpA m4=some (.mo (encM qc_ vW W') false):=by rw[<-eA,qb_ _ _ (by omega),qb_ _ _ (by omega),qd_]
    have at_:hpA (nxi+1+2)=some (.bx [.v (.string m.typ),.v (.string m.rel)]):=by rw[<-eA,qd_]
    have aa:∀k,k≠nxi+1+2->hpA k=upd m4 (some (.mo (encM qc_ vW W') false)) hp k:=fun k h1=>by rw[<-eA,qb_ _ _ h1,qb_ _ _ h1]
    refine ZT 1 ?_;have hput:mput (true,[.string,.string]) (.agg #[.string m.typ,.string m.rel]) (.d (.sl (ws.map eWellWay)) false) (encM qc_ vW W')=some (encM qc_ vW (mset m ws W')):=k8_ (ev:=vW) jn_ m ws W';refine Z1 (And.intro at_ (And.intro a4 hput)) ?_
    refine x8_ (b:=true) [q,m1,m2,m3] (fun hp1 h1=>PW.cons (ToXA.d (ToXV.one (sch_X ((h1 q (.head _)).trans aq) ((h1 m1 (.tail _ (.head _))).trans a1) ((h1 m2 (.tail _ (.tail _ (.head _)))).trans a2) ((h1 m3 (.tail _ (.tail _ (.tail _ (.head _))))).trans a3)) rfl)) (PW.cons (ToXA.d (ToXV.agP (PW.cons (ToX.one (b':=false) (is:=[]) rfl (fun _=>rfl)) (PW.cons (ToX.one (b':=false) (is:=[]) rfl (fun _=>rfl)) PW.nil)))) PW.nil)) (PureA.of_pure (aa_ hws1)) ?_
    refine Z1 (And.intro a4 hput) ?_;have v1:nw4 m4 (nxi+1+2) q q m4=1:=by simp[nw4]
    have v2:nw4 m4 (nxi+1+2) q q (nxi+1+2)=2:=by unfold nw4;rw[if_neg (by omega),if_pos rfl]
    refine fr_ (nw4 m4 (nxi+1+2) q q) _ rfl (by simp only[List.reverse_cons,List.reverse_nil,List.nil_append,List.cons_append,List.map_cons,List.map_nil,mpS_f,mpS_s,v1,v2];rfl) ?_;refine Z0 ?_;refine ZT 1 ?_;refine Z1 (w64a (n:=i) (by omega)) ?_
    refine⟨⟨(i+1,mset m ws W',nxi+1+4+6+2),hlt,by dsimp only;omega,hw⟩,.weak ⟨qa_ rfl (qa_ rfl (qa_ rfl (qa_ rfl (qa_ rfl (qa_ rfl (qh_ _)))))),fun k=> ?_,by dsimp only;omega⟩,by dsimp only;omega⟩;dsimp only;by_cases hk:k=m4
    ·exact .inr (by rw[hk,qd_,qd_])
    by_cases hk2:k=nxi+1+2
    ·exact .inl (Hf _ k (by omega))
    ·exact .inr (by rw[qb_ _ _ hk,qb_ _ _ hk,aa k hk2,qb_ _ _ hk])
   ·have c1:(decide ((i:Int)<(ns.length:Int)))=false:=decide_eq_false (by omega)
    obtain rfl:i=ns.length:=by omega
    rw[List.drop_length] at hw;cases hw;refine Z1 c1 ?_;refine zsq (ZT 1 ?_);refine Z0 ?_;exact⟨⟨_,by omega⟩,wkI (qa_ rfl (qa_ rfl (qa_ rfl (qh_ _))))⟩
 ·rintro⟨nxk,hk⟩
  obtain⟨L,eL⟩:∃L,L=ns.length:=⟨_,rfl⟩;have Rq:∀K:List (WellName × Int),upd m3 (some (.mo (encM qc_ vI K) false)) (upd m4 (some (.mo (encM qc_ vW W) false)) hp) q=some (.bx [.mo m1,.mo m2,.mo m3]):=fun K=>by rw[qb_ _ _ hd3,qb_ _ _ (by omega)];exact hq
  have R3:∀K:List (WellName × Int),upd m3 (some (.mo (encM qc_ vI K) false)) (upd m4 (some (.mo (encM qc_ vW W) false)) hp) m3=some (.mo (encM qc_ vI K) false):=fun K=>qd_ _ _ _
  have R4:∀K:List (WellName × Int),upd m3 (some (.mo (encM qc_ vI K) false)) (upd m4 (some (.mo (encM qc_ vW W) false)) hp) m4=some (.mo (encM qc_ vW W) false):=fun K=>by rw[qb_ _ _ (by omega),qd_]
  have Ro:∀K:List (WellName × Int),upd m3 (some (.mo (encM qc_ vI K) false)) (upd m4 (some (.mo (encM qc_ vW W) false)) hp) oid=some (.rw (ns.map eWellName) 2 over false false):=fun K=>by rw[qb_ _ _ hod.2.2.2,qb_ _ _ (by omega)];exact ho
  have Rf:∀(K:List (WellName × Int)) (j:Nat),nx+2<=j->upd m3 (some (.mo (encM qc_ vI K) false)) (upd m4 (some (.mo (encM qc_ vW W) false)) hp) j=none:=fun K j hj=>by rw[qb_ _ _ (by omega),qb_ _ _ (by omega)];exact hf j (by omega)
  have hK0:upd m4 (some (.mo (encM qc_ vW W) false)) hp=upd m3 (some (.mo (encM qc_ vI []) false)) (upd m4 (some (.mo (encM qc_ vW W) false)) hp):=(qQ_ (by rw[qb_ _ _ (by omega)];exact hm3)).symm;rw[hK0];refine zsq (zsq ?_);refine ZT 1 ?_;refine Z0 ?_;refine zbk ?_
  refine zlp (α:={ t:Nat × List (WellName × Int) × Bool × Nat // nx+2<=t.2.2.2/\(if t.2.2.1 then dR_ W (ns.length:Int) ns t.1 t.2.1=some res else res=some t.2.1) })
   (fun t=>⟨upd 0 (.pt q 0) (upd 1 (.so oid over 0 ns.length) (upd 5 (.mo m4) (upd 8 (.v (.bool t.1.2.2.1)) noFr))),upd m3 (some (.mo (encM qc_ vI t.1.2.1) false)) (upd m4 (some (.mo (encM qc_ vW W) false)) hp),t.1.2.2.2⟩) (fun t=>t.1.1)
   ⟨(c,[],true,nxk+1),by dsimp only;omega,by dsimp only;rw[if_pos rfl];exact h⟩ ?_ ?_
  ·exact wkI (qa_ rfl (qa_ rfl (qa_ rfl (qa_ rfl (qh_ _)))))
  ·rintro⟨⟨c,K,b,nxa⟩,hna,hr⟩
   dsimp only at hna hr;refine zsq (zsq ?_);refine ZT 1 ?_;cases b with
   |false=>
    rw[if_neg (by decide)] at hr;subst hr;refine Z0 ?_;refine ZT 1 ?_;refine Z0 ?_;refine zsq (ZT 1 ?_);refine Z0 ?_;refine ZT 1 ?_;refine Z0 ?_;refine⟨_,upd m3 (some (.mo (encM qc_ vI K) false)) hp,rfl,⟨fun k=> ?_⟩,rfl,⟨K,fun K' e=>(Option.some.inj e).symm,rfl⟩,by dsimp only;omega⟩;dsimp only;by_cases h3:k=m3
    ·exact .inr (by rw[h3,qd_,qd_])
    by_cases h4:k=m4
    ·exact .inl (by rw[qb_ _ _ h3];exact hf k (by omega))
    ·exact .inr (by rw[qb_ _ _ h3,qb_ _ _ h3,qb_ _ _ h4])
   |true=>
    rw[if_pos rfl] at hr;cases c with
    |zero=>cases hr
    |succ c=>
    unfold dR_ at hr;refine Z0 ?_;refine ZT 1 ?_;refine Z0 ?_;refine zbk ?_;refine zsq (ZT 1 ?_);refine Z0 ?_;refine zsq (ZT 1 ?_);refine Z0 ?_;refine zbk ?_
    refine zlp (α:={ t:Nat × List (WellName × Int) × Bool × Nat // t.1<=ns.length/\nx+2<=t.2.2.2/\(match dQ_ W (ns.length:Int) (ns.drop t.1) (t.2.1,t.2.2.1) with |none=>res=none |some s=>if s.2 then dR_ W (ns.length:Int) ns c s.1=some res else res=some s.1) })
     (fun t=>⟨upd 0 (.pt q 0) (upd 1 (.so oid over 0 ns.length) (upd 5 (.mo m4) (upd 8 (.v (.bool t.1.2.2.1)) (upd 28 (.so oid over 0 ns.length) (upd 29 (.v (.int .i64 (ns.length:Int))) (upd 30 (.v (.int .i64 (t.1.1:Int))) noFr)))))),upd m3 (some (.mo (encM qc_ vI t.1.2.1) false)) (upd m4 (some (.mo (encM qc_ vW W) false)) hp),t.1.2.2.2⟩) (fun t=>ns.length-t.1.1)
     ⟨(0,K,false,nxa+1+1+3),Nat.zero_le _,by dsimp only;omega,?_⟩ ?_ ?_
    ·dsimp only
     rw[List.drop_zero];cases hp':dQ_ W (ns.length:Int) ns (K,false) with
     |none=>
      rw[hp'] at hr;exact(Option.some.inj hr).symm
     |some s=>
      rw[hp'] at hr;dsimp only at hr⊢;split
      ·rename_i hb
       rw[if_pos hb] at hr;exact hr
      ·rename_i hb
       rw[if_neg hb] at hr;exact(Option.some.inj hr).symm
    ·exact wkI (qa_ rfl (qa_ rfl (qa_ rfl (qa_ rfl (qa_ rfl (qa_ rfl (qa_ rfl (qh_ _))))))))
    ·rintro⟨⟨i,K1,b,nxi⟩,hi,hni,hp1⟩
     dsimp only at hi hni hp1;refine zsq (ZT 1 ?_);by_cases hlt:i<ns.length
     ·have c1:(decide ((i:Int)<(ns.length:Int)))=true:=decide_eq_true (by omega)
      have e1:ns[i]? =some ns[i]:=List.getElem?_eq_getElem hlt;have ed:ns.drop i=ns[i]::ns.drop (i+1):=List.drop_eq_getElem_cons hlt;obtain⟨ws,hg⟩:∃ws,mget ns[i] W=some ws:=Option.isSome_iff_exists.1 (hWs _ (List.getElem_mem hlt));rw[ed] at hp1;generalize ns[i]=m at e1 hp1 hg;have e2:(ns.map eWellName)[i]? =some (eWellName m):=qn_ eWellName e1
      have hgD:qk_ m [] W=ws:=by unfold qk_;rw[hg];rfl
      have hwl:ws.length<1000000000:=hws _ (bu_ hg);unfold dQ_ at hp1;rw[hgD] at hp1;have hlk:j6_ (true,[.string,.string]) (.agg #[.string m.typ,.string m.rel]) (.v (.slice none 0 0)) false (encM qc_ vW W)=some (.d (.sl (ws.map eWellWay)) false,[]):=by
       refine(p2_ jn_ m (.v (.slice none 0 0)) false W).trans ?_;rw[hg];rfl
      refine Z1 c1 ?_;refine zsq (ZT 1 ?_);refine Z0 ?_;refine zsq (zbk ?_);refine zsq (ZT 1 ?_);have w:=And.intro e2 (And.intro (zno .i64 (show(0:Int)<=(i:Int) by omega)) (And.intro (show((i:Int)).toNat=i from Int.toNat_natCast _) (And.intro (Ro K1) (show(i<ns.length)=True from eq_true hlt))));refine Z1 w ?_;refine zsq (zsq ?_);refine ZT 1 ?_
      obtain⟨tb,etb⟩:∃tb,tb=nxi+1+2:=⟨_,rfl⟩;rw[<-etb,qI_];have ht3:tb≠m3:=by omega
      have ht4:tb≠m4:=by omega
      have htq:tb≠q:=by omega
      have Bt:∀K:List (WellName × Int),upd tb (some (.bx [.v (.string m.typ),.v (.string m.rel)])) (upd m3 (some (.mo (encM qc_ vI K) false)) (upd m4 (some (.mo (encM qc_ vW W) false)) hp)) tb=some (.bx [.v (.string m.typ),.v (.string m.rel)]):=fun K=>qd_ _ _ _
      have B4:∀K:List (WellName × Int),upd tb (some (.bx [.v (.string m.typ),.v (.string m.rel)])) (upd m3 (some (.mo (encM qc_ vI K) false)) (upd m4 (some (.mo (encM qc_ vW W) false)) hp)) m4=some (.mo (encM qc_ vW W) false):=fun K=>by rw[qb_ _ _ ht4.symm];exact R4 K
      have B3:∀K:List (WellName × Int),upd tb (some (.bx [.v (.string m.typ),.v (.string m.rel)])) (upd m3 (some (.mo (encM qc_ vI K) false)) (upd m4 (some (.mo (encM qc_ vW W) false)) hp)) m3=some (.mo (encM qc_ vI K) false):=fun K=>by rw[qb_ _ _ ht3.symm];exact R3 K
      have Bq:∀K:List (WellName × Int),upd tb (some (.bx [.v (.string m.typ),.v (.string m.rel)])) (upd m3 (some (.mo (encM qc_ vI K) false)) (upd m4 (some (.mo (encM qc_ vW W) false)) hp)) q=some (.bx [.mo m1,.mo m2,.mo m3]):=fun K=>by rw[qb_ _ _ htq.symm];exact Rq K
      have Bf:∀(K:List (WellName × Int)) (j:Nat),tb<j->upd tb (some (.bx [.v (.string m.typ),.v (.string m.rel)])) (upd m3 (some (.mo (encM qc_ vI K) false)) (upd m4 (some (.mo (encM qc_ vW W) false)) hp)) j=none:=fun K j hj=>by rw[qb_ _ _ (by omega)];exact Rf K j (by omega)
      have hkm:∀K:List (WellName × Int),j6_ (true,[.string,.string]) (.agg #[.string m.typ,.string m.rel]) (.v (.int .i64 0)) false (encM qc_ vI K)=some (.v (.int .i64 (qk_ m 0 K)),[]):=fun K=>z2_ (ev:=vI) jn_ m 0 false K;obtain⟨s2,es2⟩:∃s2,s2=vt_ m ws (K1,b):=⟨_,rfl⟩;rw[<-es2] at hp1;refine Z1 (And.intro (Bt K1) (And.intro (B4 K1) hlk)) ?_;refine zbk ?_
      refine zlp (α:={ t:Nat × List (WellName × Int) × Bool × Nat // t.1<=ws.length/\tb<t.2.2.2/\vt_ m (ws.drop t.1) (t.2.1,t.2.2.1)=s2 })
       (fun t=>⟨upd 0 (.pt q 0) (upd 1 (.so oid over 0 ns.length) (upd 5 (.mo m4) (upd 8 (.v (.bool t.1.2.2.1)) (upd 10 (.pt tb 0) (upd 28 (.so oid over 0 ns.length) (upd 29 (.v (.int .i64 (ns.length:Int))) (upd 30 (.v (.int .i64 (i:Int))) (upd 36 (.d (.sl (ws.map eWellWay)) false) (upd 37 (.v (.int .i64 (ws.length:Int))) (upd 38 (.v (.int .i64 (t.1.1:Int))) noFr)))))))))),upd tb (some (.bx [.v (.string m.typ),.v (.string m.rel)])) (upd m3 (some (.mo (encM qc_ vI t.1.2.1) false)) (upd m4 (some (.mo (encM qc_ vW W) false)) hp)),t.1.2.2.2⟩) (fun t=>ws.length-t.1.1)
       ⟨(0,K1,b,nxi+1+4+5),Nat.zero_le _,by dsimp only;omega,es2.symm⟩ ?_ ?_
      ·exact wkI (qa_ rfl (qa_ rfl (qa_ rfl (qa_ rfl (qa_ rfl (qa_ rfl (qa_ rfl (qa_ rfl (qa_ rfl (qa_ rfl (qa_ rfl (qh_ _))))))))))))
      ·rintro⟨⟨j,K2,b2,nxj⟩,hj,htj,hst⟩
       dsimp only at hj htj hst;refine zsq (ZT 1 ?_);by_cases hjl:j<ws.length
       ·have c2:(decide ((j:Int)<(ws.length:Int)))=true:=decide_eq_true (by omega)
        have e3:ws[j]? =some ws[j]:=List.getElem?_eq_getElem hjl;have ed2:ws.drop j=ws[j]::ws.drop (j+1):=List.drop_eq_getElem_cons hjl;rw[ed2] at hst;generalize ws[j]=y at e3 hst;have e4:(ws.map eWellWay)[j]? =some (eWellWay y):=qn_ eWellWay e3;unfold vt_ at hst
        have hky:j6_ (true,[.string,.string]) (.agg #[.string y.to.typ,.string y.to.rel]) (.v (.int .i64 0)) false (encM qc_ vI K2)=some (.v (.int .i64 (qk_ y.to 0 K2)),[]):=z2_ (ev:=vI) jn_ y.to 0 false K2;refine Z1 c2 ?_;refine zsq (ZT 1 ?_);refine Z0 ?_;refine zsq ?_
        refine zjn (α:={ t:List (WellName × Int) × Bool × Nat // tb<t.2.2/\vt_ m (ws.drop (j+1)) (t.1,t.2.1)=s2 })
         (fun t=>⟨upd 0 (.pt q 0) (upd 1 (.so oid over 0 ns.length) (upd 5 (.mo m4) (upd 8 (.v (.bool t.1.2.1)) (upd 10 (.pt tb 0) (upd 28 (.so oid over 0 ns.length) (upd 29 (.v (.int .i64 (ns.length:Int))) (upd 30 (.v (.int .i64 (i:Int))) (upd 36 (.d (.sl (ws.map eWellWay)) false) (upd 37 (.v (.int .i64 (ws.length:Int))) (upd 38 (.v (.int .i64 (j:Int))) noFr)))))))))),upd tb (some (.bx [.v (.string m.typ),.v (.string m.rel)])) (upd m3 (some (.mo (encM qc_ vI t.1.1) false)) (upd m4 (some (.mo (encM qc_ vW W) false)) hp)),t.1.2.2⟩) ?_ ?_
        ·refine zbk ?_
         refine zsq (ZT 1 ?_);have w2:=And.intro e4 (And.intro (zno .i64 (show(0:Int)<=(j:Int) by omega)) (show((j:Int)).toNat=j from Int.toNat_natCast _));refine Z1 w2 ?_;generalize eD:(upd (nxj+1+2) (some _) _:Hp)=hpD;have dq:hpD q=some (.bx [.mo m1,.mo m2,.mo m3]):=by rw[<-eD,qb_ _ _ (by omega),qb_ _ _ (by omega)];exact Bq K2
         have d3:hpD m3=some (.mo (encM qc_ vI K2) false):=by rw[<-eD,qb_ _ _ (by omega),qb_ _ _ (by omega)];exact B3 K2
         have dt:hpD tb=some (.bx [.v (.string m.typ),.v (.string m.rel)]):=by rw[<-eD,qb_ _ _ (by omega),qb_ _ _ (by omega)];exact Bt K2
         have dw:hpD (nxj+1+2)=some (.bx [.v (.string y.to.typ),.v (.string y.to.rel),.v (.int .i64 y.taken)]):=by rw[<-eD,qd_]
         have da:∀k,k≠nxj+1+2->hpD k=upd tb (some (.bx [.v (.string m.typ),.v (.string m.rel)])) (upd m3 (some (.mo (encM qc_ vI K2) false)) (upd m4 (some (.mo (encM qc_ vW W) false)) hp)) k:=fun k h1=>by rw[<-eD,qb_ _ _ h1,qb_ _ _ h1]
         have df:∀k,nxj+1+3<=k->hpD k=none:=fun k hk=>by rw[da k (by omega)];exact Bf K2 k (by omega)
         refine zsq (ZT 1 ?_);refine Z1 (And.intro dq (And.intro d3 (And.intro dw hky))) ?_;refine qj_ (by rfl) ?_;refine Z0 ?_;obtain⟨kw,ekw⟩:∃kw,kw=IntKind.i64.wrap (qk_ y.to 0 K2+y.taken):=⟨_,rfl⟩;rw[<-ekw] at hst⊢;refine zsq (ZT 1 ?_);cases hb:decide (qk_ m 0 K2<kw) with
         |false=>
          rw[hb,if_neg (by decide)] at hst;refine Z1 (And.intro dq (And.intro d3 (And.intro dt (And.intro (hkm K2) hb)))) ?_;refine qj_ (by rfl) ?_;refine Z0 ?_;refine qg_ (c:=false) rfl rfl ?_;refine ZT 1 ?_;refine Z0 ?_
          refine⟨⟨(K2,b2,nxj+1+4+11+8),by dsimp only;omega,hst⟩,.weak ⟨qa_ rfl (qa_ rfl (qa_ rfl (qa_ rfl (qa_ rfl (qa_ rfl (qa_ rfl (qa_ rfl (qa_ rfl (qa_ rfl (qa_ rfl (qh_ _))))))))))),fun k=> ?_,by dsimp only;omega⟩⟩;dsimp only;by_cases hk:k=nxj+1+2
          ·exact .inl (Bf K2 k (by omega))
          ·exact .inr (da k hk).symm
         |true=>
          rw[hb,if_pos rfl] at hst;refine Z1 (And.intro dq (And.intro d3 (And.intro dt (And.intro (hkm K2) hb)))) ?_;refine qj_ (by rfl) ?_;refine Z0 ?_;refine ZT 1 ?_;obtain⟨o,q1,q2,q3⟩:=xS_ (ev:=vI) jn_ m K2;cases hm:mget m K2 with
          |none=>
           obtain⟨rfl,qs⟩:=q3 hm;have E1:entL (true,[.string,.string]) (Value.agg #[.string m.typ,.string m.rel]) (.v (.int .i64 0)) m3 (encM qc_ vI K2)=some (.tu [.v (.int .i64 0),.v (.int .i64 ((encM qc_ vI K2).length:Int))],[(m3,.mo (encM qc_ vI K2++[(Value.agg #[.string m.typ,.string m.rel],.v (.int .i64 0))]) false)]):=vg_ q1 _ _
           have E2:qT_ (.v (.int .i64 ((encM qc_ vI K2).length:Int)))=some (encM qc_ vI K2).length:=by rw[zno .i64 (by omega)];simp
           have E3:(encM qc_ vI K2++[(Value.agg #[.string m.typ,.string m.rel],AV.v (.int .i64 0))])[(encM qc_ vI K2).length]? =some (Value.agg #[.string m.typ,.string m.rel],.v (.int .i64 0)):=s0_ _
           have E4:(encM qc_ vI K2++[(Value.agg #[.string m.typ,.string m.rel],AV.v (.int .i64 0))]).set (encM qc_ vI K2).length (Value.agg #[.string m.typ,.string m.rel],.v (.int .i64 kw))=encM qc_ vI (mset m kw K2):=by rw[nU_,qs];simp[encM,qc_]
           refine Z1 (And.intro dq (And.intro d3 (And.intro dt (And.intro E1 (And.intro E2 (And.intro E3 E4)))))) ?_;have v1:nw4 q m3 tb (nxj+1+2) q=1:=by simp[nw4]
           have v2:nw4 q m3 tb (nxj+1+2) m3=2:=by unfold nw4;rw[if_neg hd3.symm,if_pos rfl]
           have v3:nw4 q m3 tb (nxj+1+2) tb=3:=by unfold nw4;rw[if_neg htq,if_neg ht3,if_pos rfl]
           refine x2_ (nw4 q m3 tb (nxj+1+2)) _ rfl (by simp only[List.reverse_cons,List.reverse_nil,List.nil_append,List.cons_append,List.map_cons,List.map_nil,vL_,v1,v2,v3];rfl) (by rfl) ?_;refine Z0 ?_
           refine⟨⟨(mset m kw K2,true,nxj+1+4+11+8+10),by dsimp only;omega,hst⟩,.weak ⟨qa_ rfl (qa_ rfl (qa_ rfl (qa_ rfl (qa_ rfl (qa_ rfl (qa_ rfl (qa_ rfl (qa_ rfl (qa_ rfl (qa_ rfl (qh_ _))))))))))),fun k=> ?_,by dsimp only;omega⟩⟩;dsimp only;by_cases h3:k=m3
           ·exact .inr (by rw[h3,qd_,qb_ _ _ ht3.symm,qd_])
           by_cases hk:k=nxj+1+2
           ·exact .inl (Bf _ k (by omega))
           refine .inr ?_;rw[qb_ _ _ h3];try rw[qb_ _ _ h3]
           rw[da k hk];by_cases h1:k=tb
           ·rw[h1,qd_,qd_]
           ·rw[qb_ _ _ h1,qb_ _ _ h1,qb_ _ _ h3,qb_ _ _ h3]
          |some v0=>
           obtain⟨j0,rfl,qs⟩:=q2 v0 hm;obtain⟨k0,hk0⟩:=hH_ q1;have E1:entL (true,[.string,.string]) (Value.agg #[.string m.typ,.string m.rel]) (.v (.int .i64 0)) m3 (encM qc_ vI K2)=some (.tu [.v (.int .i64 v0),.v (.int .i64 (j0:Int))],[(m3,.mo ((encM qc_ vI K2).set j0 (Value.agg #[.string m.typ,.string m.rel],.v (.int .i64 v0))) false)]):=vh_ q1 _ _
           have E2:qT_ (.v (.int .i64 (j0:Int)))=some j0:=by rw[zno .i64 (by omega)];simp
           have E3:((encM qc_ vI K2).set j0 (Value.agg #[.string m.typ,.string m.rel],AV.v (.int .i64 v0)))[j0]? =some (Value.agg #[.string m.typ,.string m.rel],.v (.int .i64 v0)):=wX_ hk0 _
           have E4:((encM qc_ vI K2).set j0 (Value.agg #[.string m.typ,.string m.rel],AV.v (.int .i64 v0))).set j0 (Value.agg #[.string m.typ,.string m.rel],.v (.int .i64 kw))=encM qc_ vI (mset m kw K2):=by rw[List.set_set];exact qs kw
           refine Z1 (And.intro dq (And.intro d3 (And.intro dt (And.intro E1 (And.intro E2 (And.intro E3 E4)))))) ?_;have v1:nw4 q m3 tb (nxj+1+2) q=1:=by simp[nw4]
           have v2:nw4 q m3 tb (nxj+1+2) m3=2:=by unfold nw4;rw[if_neg hd3.symm,if_pos rfl]
           have v3:nw4 q m3 tb (nxj+1+2) tb=3:=by unfold nw4;rw[if_neg htq,if_neg ht3,if_pos rfl]
           refine x2_ (nw4 q m3 tb (nxj+1+2)) _ rfl (by simp only[List.reverse_cons,List.reverse_nil,List.nil_append,List.cons_append,List.map_cons,List.map_nil,vL_,v1,v2,v3];rfl) (by rfl) ?_;refine Z0 ?_
           refine⟨⟨(mset m kw K2,true,nxj+1+4+11+8+10),by dsimp only;omega,hst⟩,.weak ⟨qa_ rfl (qa_ rfl (qa_ rfl (qa_ rfl (qa_ rfl (qa_ rfl (qa_ rfl (qa_ rfl (qa_ rfl (qa_ rfl (qa_ rfl (qh_ _))))))))))),fun k=> ?_,by dsimp only;omega⟩⟩;dsimp only;by_cases h3:k=m3
           ·exact .inr (by rw[h3,qd_,qb_ _ _ ht3.symm,qd_])
           by_cases hk:k=nxj+1+2
           ·exact .inl (Bf _ k (by omega))
           refine .inr ?_;rw[qb_ _ _ h3];try rw[qb_ _ _ h3]
           rw[da k hk];by_cases h1:k=tb
           ·rw[h1,qd_,qd_]
           ·rw[qb_ _ _ h1,qb_ _ _ h1,qb_ _ _ h3,qb_ _ _ h3]
        ·rintro⟨⟨K3,b3,nxk⟩,htk,hst3⟩
         refine ZT 1 ?_;refine Z1 (w64a (n:=j) (by omega)) ?_;exact⟨⟨(j+1,K3,b3,nxk+2),hjl,Nat.lt_of_lt_of_le htk (Nat.le_add_right _ _),hst3⟩,wkI (qa_ rfl (qa_ rfl (qa_ rfl (qa_ rfl (qa_ rfl (qa_ rfl (qa_ rfl (qa_ rfl (qa_ rfl (qa_ rfl (qa_ rfl (qh_ _)))))))))))),by dsimp only;omega⟩
       ·have c2:(decide ((j:Int)<(ws.length:Int)))=false:=decide_eq_false (by omega)
        obtain rfl:j=ws.length:=by omega
        rw[List.drop_length] at hst;unfold vt_ at hst;subst hst;refine Z1 c2 ?_;refine zsq (ZT 1 ?_);refine Z0 ?_;refine zsq (ZT 1 ?_);cases hb:decide ((ns.length:Int)<qk_ m 0 K2) with
        |true=>
         rw[hb,if_pos rfl] at hp1;dsimp only at hp1;subst hp1;refine Z1 (And.intro (Bq K2) (And.intro (B3 K2) (And.intro (Bt K2) (And.intro (hkm K2) hb)))) ?_;refine qj_ (by rfl) ?_;refine Z0 ?_;refine qs_ (c:=true) rfl rfl ?_;refine zsq (ZT 1 ?_);refine Z0 ?_;refine ZT 1 ?_;refine Z0 ?_
         refine⟨_,upd m3 (some (.mo (encM qc_ vI K2) false)) hp,rfl,⟨fun k=> ?_⟩,rfl,⟨K2,fun K' e=>(by cases e),rfl⟩,by dsimp only;omega⟩;dsimp only;by_cases h3:k=m3
         ·exact .inr (by rw[h3,qd_,qb_ _ _ ht3.symm,qd_])
         by_cases h4:nx<=k
         ·exact .inl (by rw[qb_ _ _ h3];exact hf k h4)
         ·exact .inr (by rw[qb_ _ _ h3,qb_ _ _ (by omega),qb_ _ _ h3,qb_ _ _ (by omega)])
        |false=>
         rw[hb,if_neg (by decide)] at hp1;refine Z1 (And.intro (Bq K2) (And.intro (B3 K2) (And.intro (Bt K2) (And.intro (hkm K2) hb)))) ?_;refine qj_ (by rfl) ?_;refine Z0 ?_;refine qg_ (c:=false) rfl rfl ?_;refine ZT 1 ?_;refine Z0 ?_;refine ZT 1 ?_;refine Z1 (w64a (n:=i) (by omega)) ?_
         refine⟨⟨(i+1,K2,b2,nxj+1+9+2),hlt,by dsimp only;omega,hp1⟩,.weak ⟨qa_ rfl (qa_ rfl (qa_ rfl (qa_ rfl (qa_ rfl (qa_ rfl (qa_ rfl (qh_ _))))))),fun k=> ?_,by dsimp only;omega⟩,by dsimp only;omega⟩;dsimp only;by_cases hk:k=tb
         ·exact .inl (Rf K2 k (by omega))
         ·exact .inr (by rw[qb_ _ _ hk])
     ·have c1:(decide ((i:Int)<(ns.length:Int)))=false:=decide_eq_false (by omega)
      obtain rfl:i=ns.length:=by omega
      rw[List.drop_length] at hp1;refine Z1 c1 ?_;refine zsq (ZT 1 ?_);refine Z0 ?_;exact⟨⟨(c,K1,b,nxi+1),by dsimp only;omega,hp1⟩,wkI (qa_ rfl (qa_ rfl (qa_ rfl (qa_ rfl (qh_ _))))),Nat.lt_succ_self c⟩
end
def revR {α:Type}:Nat->List α->Nat->Nat->Option (List α)
 |0,_,_,_=>none
 |f+1,xs,i,j=>if i<j then(xs[j]?).bind fun x=>(xs[i]?).bind fun y=>revR f ((xs.set i x).set j y) (i+1) (j-1) else some xs
theorem hJ_ {α:Type}:∀ {f i j:Nat} {xs ys:List α},revR f xs i j=some ys->ys.length=xs.length
 |0,_,_,_,_,h=>by cases h
 |f+1,i,j,xs,ys,h=>by
  unfold revR at h;split at h
  ·obtain⟨x,_,h⟩:=zbi h
   obtain⟨y,_,h⟩:=zbi h;rw[hJ_ h];simp
  ·cases h
   rfl
theorem w641 {a:Nat}(hb:1<=a)(h:a<4611686018427387904):IntKind.i64.wrap ((a:Int)-1)=((a-1:Nat):Int):=w64m (a:=a) (b:=1) hb h
theorem rev_nil {hp:Hp}{nx:Nat}:InlOK Tryz.prog 90 [.v (.slice none 0 0)] hp nx fun v hp2 nx2=>v= .tu []/\hp2=hp/\nx<=nx2:=by
 refine qX_ qf_ Tryz.func90 (by rfl) (by kernel_rfl) (by kernel_rfl) (by exact Nat.le_of_ble_eq_true rfl) ?_;refine zsq (ZT 1 ?_);refine Z1 (show IntKind.i64.wrap (0-1)= -1 from by decide) ?_;refine zbk ?_;refine zlp (α:=Unit) (fun _=>⟨upd 2 (.v (.int .i64 0)) (upd 3 (.v (.int .i64 (-1))) noFr),hp,nx+5⟩) (fun _=>0) () ?_ ?_
 ·exact wkI (qa_ rfl (qa_ rfl (qh_ _)))
 ·rintro⟨⟩
  refine zsq (zsq ?_);refine ZT 1 ?_;refine Z0 ?_;refine ZT 1 ?_;refine Z0 ?_;exact⟨_,_,rfl,⟨fun _=>.inr rfl⟩,rfl,rfl,by dsimp only;omega⟩
set_option maxRecDepth 4000 in
theorem rev_ok {hp:Hp}{nx i ver L f:Nat}{br:Bool}{xs R:List WellName}(hx:hp i=some (.rw (xs.map eWellName) 2 ver br false))(hL:xs.length=L)(h0:0<L)(hL2:L<4294967296)(hR:revR f xs 0 (L-1)=some R):
  InlOK Tryz.prog 90 [.so i ver 0 L] hp nx fun v hp2 nx2=>v= .tu []/\hp2=upd i (some (.rw (R.map eWellName) 2 ver br false)) hp/\nx<=nx2:=by
 refine qX_ qf_ Tryz.func90 (by rfl) (by kernel_rfl) (by kernel_rfl) (by exact Nat.le_of_ble_eq_true rfl) ?_;refine zsq (ZT 1 ?_);refine Z1 (w641 h0 (by omega)) ?_;refine zbk ?_;refine zlp (α:={ t:Nat × List WellName × Nat × Nat × Nat // nx<=t.2.2.2.2/\t.2.1.length=L/\t.2.2.1<=L/\t.2.2.2.1<L/\revR t.1 t.2.1 t.2.2.1 t.2.2.2.1=some R })
  (fun t=>⟨upd 0 (.so i ver 0 L) (upd 2 (.v (.int .i64 (t.1.2.2.1:Int))) (upd 3 (.v (.int .i64 (t.1.2.2.2.1:Int))) noFr)),upd i (some (.rw (t.1.2.1.map eWellName) 2 ver br false)) hp,t.1.2.2.2.2⟩) (fun t=>t.1.1)
  ⟨(f,xs,0,L-1,nx+5),by dsimp only;omega,hL,Nat.zero_le _,by dsimp only;omega,hR⟩ ?_ ?_
 ·rw[qQ_ hx]
  exact wkI (qa_ rfl (qa_ rfl (qa_ rfl (qh_ _))))
 ·rintro⟨⟨f,ys,a,b,nx1⟩,h1,h2,h3,h4,h5⟩
  dsimp only at h1 h2 h3 h4 h5;cases f with
  |zero=>cases h5
  |succ f=>
  unfold revR at h5;refine zsq (zsq ?_);refine ZT 1 ?_;by_cases hk:a<b
  ·rw[if_pos hk] at h5
   obtain⟨x,e1,h5⟩:=zbi h5;obtain⟨y,e2,h5⟩:=zbi h5;have c1:(decide ((a:Int)<(b:Int)))=true:=decide_eq_true (by omega);refine Z1 c1 ?_;refine ZT 1 ?_;refine Z0 ?_;refine zsq (zbk ?_);refine ZT 1 ?_;obtain⟨z,ez⟩:∃z:WellName,((ys.map eWellName).set a (eWellName x))[b]? =some (eWellName z):=by
    rw[<-List.map_set,List.getElem?_map];cases h:(ys.set a x)[b]? with
    |none=>
     rw[List.getElem?_eq_none_iff,List.length_set] at h;omega
    |some z=>exact⟨z,rfl⟩
   refine Z1 (And.intro (qn_ eWellName e1) (And.intro (qn_ eWellName e2) (And.intro ez (And.intro (zno .i64 (show(0:Int)<=(a:Int) by omega)) (And.intro (zno .i64 (show(0:Int)<=(b:Int) by omega)) (And.intro (show((a:Int)).toNat=a from Int.toNat_natCast _) (And.intro (show((b:Int)).toNat=b from Int.toNat_natCast _) (And.intro (show(a<L)=True from eq_true (by omega)) (show(b<L)=True from eq_true h4))))))))) ?_
   refine qj_ (by rfl) ?_;refine Z0 ?_;refine ZT 1 ?_;refine Z1 (And.intro (w64a (n:=a) (by omega)) (w641 (a:=b) (by omega) (by omega))) ?_;refine⟨⟨(f,(ys.set a x).set b y,a+1,b-1,nx1+3+16+6),by dsimp only;omega,by simpa using h2,by dsimp only;omega,by dsimp only;omega,h5⟩,wkH ?_ (qa_ rfl (qa_ rfl (qa_ rfl (qh_ _)))),Nat.lt_succ_self f⟩;rw[qI_,qI_]
   show upd i (some (.rw (((ys.set a x).set b y).map eWellName) 2 ver br false)) hp=_;rw[List.map_set,List.map_set]
  ·rw[if_neg hk] at h5
   cases h5;have c1:(decide ((a:Int)<(b:Int)))=false:=decide_eq_false (by omega);refine Z1 c1 ?_;refine ZT 1 ?_;refine Z0 ?_;exact⟨_,_,rfl,⟨fun _=>.inr rfl⟩,rfl,rfl,by dsimp only;omega⟩
end Go.Proofs.YtnmkbmefohakmaaGreat.Ab
