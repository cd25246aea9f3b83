/-
 A row of names is turned over.
-/
import Derived.Test.YtnmkbmefohakmaaGreatWle
set_option linter.all false
namespace Go.Proofs.YtnmkbmefohakmaaGreat.Ab
open Go.RowKit IntKind
def KD (a:ByteArray):List AZ->List (AA × AZ)->List (AA × AZ) × Bool
 |[],R=>(R,false)
 |g::r,R=>if Ay ⟨a,g.name⟩ R then(R,true) else KD a r (mset ⟨a,g.name⟩ g R)
def zv_:List AG->List (ByteArray × Int)->List (AA × AZ)->List (ByteArray × Int) × List (AA × AZ) × Int
 |[],T,R=>(T,R,0)
 |t::r,T,R=>if decide (0<qf_ t.name 0 T) then(T,R,11) else(fun p=>if p.2 then(mset t.name 1 T,p.1,11) else zv_ r (mset t.name 1 T) p.1) (KD t.name t.rels R)
def hpC (m1 m2:Nat)(T:List (ByteArray × Int))(R:List (AA × AZ))(hp:Hp):Hp:=upd m2 (some (.mo (Aa qa_ vR R) false)) (upd m1 (some (.mo (Aa .string vI T) false)) hp)
section
variable {hp:Hp}{nx q m1 m2 m3:Nat}
set_option maxRecDepth 8000 in
theorem zU {l:List AG}{Q L:List (ByteArray × Int)}{S M:List (AA × AZ)}{e:Int}(N:∀j,nx<=j->hp j=none)(hl:l.length<1000000)(av:∀t∈l,t.rels.length<1000000)(hq:hp q=some (.bx [.mo m1,.mo m2,.mo m3]))(ad:hp m1=some (.mo (Aa .string vI Q) false))(ag:hp m2=some (.mo (Aa qa_ vR S) false))(ak:q≠m1)(ao:q≠m2)(aE:m1≠m2)(h:zv_ l Q S=(L,M,e)):
  AT Tryz.prog 88 [.pt q 0,.d (.sl (l.map AS)) true] hp nx fun v a0 a1=>v= .v (.int .i64 e)/\a0=hpC m1 m2 L M hp/\nx<=a1:=by
 have bl:=Ch N hq;have bo:=Ch N ad;have br:=Ch N ag;have C1:∀(T:List (ByteArray × Int)) (R:List (AA × AZ)),hpC m1 m2 T R hp m1=some (.mo (Aa .string vI T) false):=fun T R=>by unfold hpC;rw[Aj _ _ aE,At]
 have U:∀(T:List (ByteArray × Int)) (R:List (AA × AZ)),hpC m1 m2 T R hp m2=some (.mo (Aa qa_ vR R) false):=fun T R=>At _ _ _;have Cq:∀(T:List (ByteArray × Int)) (R:List (AA × AZ)),hpC m1 m2 T R hp q=some (.bx [.mo m1,.mo m2,.mo m3]):=fun T R=>by unfold hpC;rw[Aj _ _ ao,Aj _ _ ak];exact hq
 have Cf:∀(T:List (ByteArray × Int)) (R:List (AA × AZ)) (j:Nat),nx<=j->hpC m1 m2 T R hp j=none:=fun T R j E=>by unfold hpC;rw[Ac,Ac];exact N j E
 refine zq Tryz.func88 ?_;refine JA ?_;refine CV ?_;refine DV (α:={ t:Nat × List (ByteArray × Int) × List (AA × AZ) × Nat // t.1<=l.length/\nx<=t.2.2.2/\zv_ (l.drop t.1) t.2.1 t.2.2.1=(L,M,e) })
  (fun t=>⟨upd 0 (.pt q 0) (upd 11 (.d (.sl (l.map AS)) true) (upd 12 (.v (.int .i64 (l.length:Int))) (upd 13 (.v (.int .i64 (t.1.1:Int))) AJ))),hpC m1 m2 t.1.2.1 t.1.2.2.1 hp,t.1.2.2.2⟩) (fun t=>l.length-t.1.1)
  ⟨(0,Q,S,nx+4),Lf _,NU _ _,h⟩ ?_ ?_
 ·refine GE ?_ DW;unfold hpC;dsimp only;rw[Fc ad,Fc ag]
 rintro⟨⟨i,T,R,u⟩,hi,hn,x⟩;dsimp only at hi hn x;refine AU (ZT 1 ?_);by_cases O:i<l.length;rotate_left
 ·have V:(decide ((i:Int)<(l.length:Int)))=false:=DE;obtain rfl:i=l.length:=by omega
  rw[Bc] at x;simp only[zv_,LE] at x;obtain⟨rfl,rfl,rfl⟩:=x;refine Ct V ?_;refine DQ ?_;refine FN ?_;exact⟨_,_,rfl,⟨fun _=>.inr rfl⟩,rfl,rfl,by dsimp only;omega⟩
 have V:(decide ((i:Int)<(l.length:Int)))=true:=DB;have e1:l[i]? =some l[i]:=Le O;have ed:l.drop i=l[i]::l.drop (i+1):=Lj O;have a3:=av _ (LN O);rw[ed] at x;generalize l[i]=d at e1 x a3;have e2:(l.map AS)[i]? =some (AS d):=Cz AS e1;unfold zv_ at x;refine Ct V ?_;refine Z0 ?_;refine AU (CV ?_);refine AU (ZT 1 ?_);have w:=Y2 e2 (Y2 (CC .i64 (show(0:Int)<=(i:Int) by omega)) (show((i:Int)).toNat=i from Li _));refine Z1 w ?_;generalize F:(upd (u+1+2) (some _) _:Hp)=B;have X:B q=some (.bx [.mo m1,.mo m2,.mo m3]):=by rw[<-F,Ac,Ac];exact Cq T R
 have Y:B m1=some (.mo (Aa .string vI T) false):=by rw[<-F,Ac,Ac];exact C1 T R
 have a2:B m2=some (.mo (Aa qa_ vR R) false):=by rw[<-F,Ac,Ac];exact U T R
 have G:B (u+1+2)=some (.bx [.v (.string d.name),.d (.sl (d.rels.map Al)) true]):=by rw[<-F,At]
 have Z:∀j,j≠u+1+2->B j=hpC m1 m2 T R hp j:=fun j s=>by rw[<-F,Aj _ _ s,Aj _ _ s]
 refine AU (AU ?_);refine ZT 1 ?_;cases P:decide (0<qf_ d.name 0 T) with
 |true=>
  rw[P,if_pos rfl] at x;simp only[LE] at x;obtain⟨rfl,rfl,rfl⟩:=x;refine Z1 (Y4 X Y G P) ?_;refine DD (by rfl) ?_;refine Z0 ?_;refine ED (c:=true) rfl rfl ?_;refine Ax ?_;refine AQ ?_;refine⟨_,hpC m1 m2 T R hp,rfl,⟨fun j=> ?_⟩,rfl,rfl,by dsimp only;omega⟩;by_cases E:j=u+1+2
  ·exact .inl (Cf T R j (by omega))
  ·exact .inr (Z j E).symm
 |false=>
  rw[P,if_neg (by decide)] at x;refine Z1 (Y4 X Y G P) ?_;refine DD (by rfl) ?_;refine Z0 ?_;refine DI (c:=false) rfl rfl ?_;refine AQ ?_;refine AU (ZT 1 ?_);have f1:(m1=u+1+2)=False:=Ep;refine Z1 (Y4 X Y G f1) ?_;have v1:Cr q m1 (u+1+2) m2 q=1:=by simp[Cr]
  have v2:Cr q m1 (u+1+2) m2 m1=2:=by unfold Cr;rw[if_neg ak.symm,if_pos rfl]
  have v3:Cr q m1 (u+1+2) m2 (u+1+2)=3:=by unfold Cr;rw[ifn,ifn,if_pos rfl]
  refine JW (Cr q m1 (u+1+2) m2) _ rfl (by simp only[Nm,Nr,LA,LU,Lh,Lu,HL,v1,v2,v3];rfl) (by rfl) ?_;refine DQ ?_;obtain⟨f,a4⟩:∃f,f=u+1+2:=⟨_,rfl⟩;obtain⟨m,a5⟩:∃m,m=mset d.name 1 T:=⟨_,rfl⟩;rw[<-a5] at x⊢;rw[<-a4] at G Z f1⊢;have bs:f<u+1+4+8+7:=by omega
  have a6:f≠m1:=by omega
  have aa:f≠m2:=by omega
  have aq:f≠q:=by omega
  have hB:(upd m1 (some (.mo (Aa .string vI m) false)) B:Hp)=upd f (some (.bx [.v (.string d.name),.d (.sl (d.rels.map Al)) true])) (hpC m1 m2 m R hp):=by
   funext k;by_cases s:k=f
   ·rw[s,Aj _ _ a6,G,At]
   rw[Aj _ _ s];by_cases z:k=m1
   ·rw[z,At,C1]
   rw[Aj _ _ z,Z k s];unfold hpC;by_cases h3:k=m2
   ·rw[h3,At,At]
   rw[Aj _ _ h3,Aj _ _ h3,Aj _ _ z,Aj _ _ z]
  rw[hB];refine Z1 (At f (some (.bx [.v (.string d.name),.d (.sl (d.rels.map Al)) true])) (hpC m1 m2 m R hp)) ?_;refine CV ?_;refine DV (α:={ t:Nat × List (AA × AZ) × Nat // t.1<=d.rels.length/\nx<=t.2.2/\f<t.2.2/\(fun p:List (AA × AZ) × Bool=>if p.2 then(m,p.1,11) else zv_ (l.drop (i+1)) m p.1) (KD d.name (d.rels.drop t.1) t.2.1)=(L,M,e) })
   (fun t=>⟨upd 0 (.pt q 0) (upd 6 (.pt f 0) (upd 11 (.d (.sl (l.map AS)) true) (upd 12 (.v (.int .i64 (l.length:Int))) (upd 13 (.v (.int .i64 (i:Int))) (upd 32 (.d (.sl (d.rels.map Al)) true) (upd 33 (.v (.int .i64 (d.rels.length:Int))) (upd 34 (.v (.int .i64 (t.1.1:Int))) AJ))))))),upd f (some (.bx [.v (.string d.name),.d (.sl (d.rels.map Al)) true])) (hpC m1 m2 m t.1.2.1 hp),t.1.2.2⟩) (fun t=>d.rels.length-t.1.1)
   ⟨(0,R,u+1+4+8+7+4),Lf _,by dsimp only;omega,by dsimp only;omega,x⟩ ?_ ?_
  ·exact CW
  rintro⟨⟨j,o,r⟩,E,a9,ba,y⟩;dsimp only at E a9 ba y;refine AU (ZT 1 ?_);by_cases ab:j<d.rels.length;rotate_left
  ·have c2:(decide ((j:Int)<(d.rels.length:Int)))=false:=DE;obtain rfl:j=d.rels.length:=(by omega);rw[Bc] at y;refine Ct c2 ?_;refine Z0 ?_;refine ZT 1 ?_;refine Z1 (Ar (n:=i)) ?_;refine⟨⟨(i+1,m,o,r+6),O,by dsimp only;omega,y⟩,.weak ⟨DO rfl DW,fun k=> ?_,by dsimp only;omega⟩,by dsimp only;omega⟩;dsimp only;by_cases A:k=f
   ·exact .inl (Cf m o k (by omega))
   exact .inr (Aj _ _ A).symm
  have c2:(decide ((j:Int)<(d.rels.length:Int)))=true:=DB;have e3:d.rels[j]? =some d.rels[j]:=Le ab;have bb:d.rels.drop j=d.rels[j]::d.rels.drop (j+1):=Lj ab;rw[bb] at y;generalize d.rels[j]=g at e3 y;have e4:(d.rels.map Al)[j]? =some (Al g):=Cz Al e3;refine Ct c2 ?_;refine Z0 ?_;refine AU (CV ?_);refine AU (ZT 1 ?_);have w2:=Y2 e4 (Y2 (CC .i64 (show(0:Int)<=(j:Int) by omega)) (show((j:Int)).toNat=j from Li _));refine Z1 w2 ?_;generalize H:(upd (r+1+2) (some _) _:Hp)=C;have dq:C q=some (.bx [.mo m1,.mo m2,.mo m3]):=by rw[<-H,Ac,Ac,Aj _ _ aq.symm];exact Cq m o
  have d2:C m2=some (.mo (Aa qa_ vR o) false):=by rw[<-H,Ac,Ac,Aj _ _ aa.symm];exact U m o
  have dt:C f=some (.bx [.v (.string d.name),.d (.sl (d.rels.map Al)) true]):=by rw[<-H,Ac,Ac,At]
  have dr:C (r+1+2)=some (.bx (cR g)):=by rw[<-H,At];rfl
  have da:∀k,k≠r+1+2->C k=upd f (some (.bx [.v (.string d.name),.d (.sl (d.rels.map Al)) true])) (hpC m1 m2 m o hp) k:=fun k s=>by rw[<-H,Aj _ _ s,Aj _ _ s]
  have df:∀k,r+1+4<=k->C k=none:=fun k A=>by rw[da k (by omega),Ac];exact Cf m o k (by omega)
  unfold cR at dr;refine AU (AU ?_);refine ZT 1 ?_;refine Z1 (Y3 dq dt dr) ?_;refine CO ((zQ (a:=d.name) (b:=g.name) (fun k A=>df k (by dsimp only at A;omega)) dq d2).mono ?_);rintro v hpE bd ⟨rfl,rfl,be⟩;dsimp only at be;unfold KD at y;cases hg:mget (⟨d.name,g.name⟩:AA) o with
  |some g0=>
   have I:Ay (⟨d.name,g.name⟩:AA) o=true:=(by unfold Ay;rw[hg];rfl);rw[I,if_pos rfl,if_pos rfl] at y;simp only[LE] at y;obtain⟨rfl,rfl,rfl⟩:=y;unfold oR cR;refine Ct I ?_;refine Z0 ?_;refine ED (c:=true) rfl rfl ?_;refine Ax ?_;refine AQ ?_;refine⟨_,hpC m1 m2 m o hp,rfl,⟨fun k=> ?_⟩,rfl,rfl,by dsimp only;omega⟩;by_cases A:k<nx
   ·refine .inr ?_;dsimp only;rw[Ac,Ac,da k (by omega),Ac]
   ·exact .inl (Cf m o k (by omega))
  |none=>
   have I:Ay (⟨d.name,g.name⟩:AA) o=false:=(by unfold Ay;rw[hg];rfl);simp only[I,Nb, ↓reduceIte] at y;unfold oR zR;refine Ct I ?_;refine Z0 ?_;refine DI (c:=false) rfl rfl ?_;refine AQ ?_;refine ZT 1 ?_;generalize J:(upd (r+1+4+9) (some _) _:Hp)=K;have fq:K q=some (.bx [.mo m1,.mo m2,.mo m3]):=(by rw[<-J,Ac,Ac];exact dq);have f2:K m2=some (.mo (Aa qa_ vR o) false):=(by rw[<-J,Ac,Ac];exact d2);have ft:K f=some (.bx [.v (.string d.name),.d (.sl (d.rels.map Al)) true]):=(by rw[<-J,Ac,Ac];exact dt);have fr:K (r+1+2)=some (.bx [.v (.string g.name),.d (.sl (g.subs.map AR)) true,.d (.sl (g.expr.map AY)) true]):=(by rw[<-J,Ac,Ac];exact dr);have fa:∀k,k<r->K k=upd f (some (.bx [.v (.string d.name),.d (.sl (d.rels.map Al)) true])) (hpC m1 m2 m o hp) k:=fun k s=>(by rw[<-J,Ac,Ac];exact da k (by omega));have bg:Ef (true,[.string,.string]) (.agg #[.string d.name,.string g.name]) (.ag [.v (.string g.name),.d (.sl (g.subs.map AR)) true,.d (.sl (g.expr.map AY)) true]) (Aa qa_ vR o)=some (Aa qa_ vR (mset ⟨d.name,g.name⟩ g o)):=Xz (ev:=vR) Kh ⟨d.name,g.name⟩ g o;refine Z1 (Y5 fq f2 ft fr bg) ?_;have v1:Cr q m2 f (r+1+2) q=1:=(by simp[Cr]);have v2:Cr q m2 f (r+1+2) m2=2:=(by unfold Cr;rw[if_neg ao.symm,if_pos rfl]);have v3:Cr q m2 f (r+1+2) f=3:=(by unfold Cr;rw[if_neg aq,if_neg aa,if_pos rfl]);have v4:Cr q m2 f (r+1+2) (r+1+2)=4:=(by unfold Cr;rw[ifn,ifn,ifn,if_pos rfl]);refine JW (Cr q m2 f (r+1+2)) _ rfl (by simp only[Nm,Nr,LA,LU,Lh,Lu,HL,v1,v2,v3,v4];rfl) (by rfl) ?_;refine Z0 ?_;refine ZT 1 ?_;refine Z1 (Ar (n:=j)) ?_;refine⟨⟨(j+1,mset ⟨d.name,g.name⟩ g o,bd+1+11+2),ab,by dsimp only;omega,by dsimp only;omega,y⟩,.weak ⟨DO rfl DW,fun k=> ?_,by dsimp only;omega⟩,by dsimp only;omega⟩;dsimp only;by_cases z:k=m2
   ·exact .inr (by rw[z,Aj _ _ aa.symm,At,U])
   by_cases A:k<r
   ·refine .inr ?_;rw[Aj _ _ z,fa k A];by_cases s:k=f
    ·rw[s,At,At]
    rw[Aj _ _ s,Aj _ _ s];unfold hpC;rw[Aj _ _ z,Aj _ _ z]
   exact .inl (by rw[Ac];exact Cf m _ k (by omega))
end
def vW (a:List AN):AV:=.d (.sl (a.map AH)) false
def Rz (n:Nat)(S:AD):List AA->List (AA × List AN)->Option (List (AA × List AN))
 |[],W=>some W
 |m::r,W=>(SA n S m).bind fun a=>Rz n S r (mset m a W)
def wi_ (m:AA):List AN->List (AA × Int) × Bool->List (AA × Int) × Bool
 |[],s=>s
 |w::r,s=>if decide (qf_ m 0 s.1<i64.wrap (qf_ w.to 0 s.1+w.taken)) then wi_ m r (mset m (i64.wrap (qf_ w.to 0 s.1+w.taken)) s.1,true) else wi_ m r s
def Mf (W:List (AA × List AN))(a:Int):List AA->List (AA × Int) × Bool->Option (List (AA × Int) × Bool)
 |[],s=>some s
 |m::r,s=>if decide (a<qf_ m 0 (wi_ m (qf_ m [] W) s).1) then none else Mf W a r (wi_ m (qf_ m [] W) s)
def Kq (W:List (AA × List AN))(a:Int)(b:List AA):Nat->List (AA × Int)->Option (Option (List (AA × Int)))
 |0,_=>none
 |c+1,K=>match Mf W a b (K,false) with
  |none=>some none
  |some s=>if s.2 then Kq W a b c s.1 else some (some s.1)
theorem fT {K V:Type}[BEq K][LawfulBEq K]{k:K}{v:V}:∀ {m:List (K × V)},mget k m=some v->(k,v)∈m
 |[],h=>by cases h
 |p::r,h=>by
  unfold mget at h;split at h
  ·grind
  exact .tail _ (fT h)
theorem pk {q:Bool × List TK}{x:Value}:∀ {a:List (Value × AV)} {i:Nat} {v:AV},EC q x a=some (some (i,v))->∃k,a[i]? =some (k,v)
 |[],_,_,h=>by cases h
 |(k,w)::r,i,v,h=>by
  unfold EC at h;split at h
  ·cases h;exact⟨k,rfl⟩
  ·cases e:EC q x r with
   |none=>
    rw[e] at h;cases h
   |some o=>
    cases o with
    |none=>
     rw[e] at h;cases h
    |some p=>
     rw[e] at h;cases h;have⟨b,c⟩:=pk e;exact⟨b,c⟩
  cases h
variable {R:List (AA × AZ)}{hp:Hp}
theorem zS {m:Nat}{r:Bool}(h:hp m=some (.mo (Aa qa_ vR R) r)):C3 hp true (.mo m) (.mp (A7 qa_ true Al R)):=by
 have n:∀ {j:Nat} {k:Value} {v:AV},(Aa qa_ vR R)[j]? =some (k,v)->∃p,R[j]? =some p/\k=qa_ p.1/\v=vR p.2:=fun{j k v} h=>by
  grind [Aa,Option.map_eq_some_iff,Prod.mk.injEq]
 have o:∀ {j:Nat} {k:Value} {c:Bool} {e:List D} {p:AA × AZ},R[j]? =some p->(A7 qa_ true Al R)[j]? =some (k,c,e)->k=qa_ p.1/\c=true/\e=Al p.2:=fun{j k c e p} f g=>by
  grind [A7,Option.some.injEq,Prod.mk.injEq]
 refine .mo h (by simp[A7,Aa]) (fun j k v s c e f g=> ?_) fun j k v s c e i x d f g a b=> ?_
 ·obtain⟨p,l,rfl,rfl⟩:=n f;obtain⟨rfl,rfl,rfl⟩:=o l g;exact⟨rfl,rfl,rfl,fun h=>by cases h⟩
 obtain⟨p,l,rfl,rfl⟩:=n f;obtain⟨rfl,rfl,rfl⟩:=o l g
 match i,a,b with
 |0,a,b=>cases a;cases b;exact .one (b':=false) (is:=[]) rfl (by simp)
 |1,a,b=>cases a;cases b;exact .one (b':=true) (is:=[]) rfl (by simp)
 |2,a,b=>cases a;cases b;exact .one (b':=true) (is:=[]) rfl (by simp)
 |i+3,a,_=>simp[vR,cR,HC] at a
theorem Hw {q m1 m2 m3:Nat}{a b d3:Bool}{T:List (ByteArray × Int)}{K:List (AA × Int)}(c:hp q=some (.bx [.mo m1,.mo m2,.mo m3]))(d:hp m1=some (.mo (Aa .string vI T) a))(e:hp m2=some (.mo (Aa qa_ vR R) b))(f:hp m3=some (.mo (Aa qa_ vI K) d3)):
  C3 hp true (.pt q 0) (.pt (Av ⟨T,R,K⟩) 0):=
 .place c (PW.cons (jo d fun _=>⟨_,rfl,rfl,rfl⟩) (PW.cons (zS e) (PW.cons (jo f fun _=>⟨_,rfl,rfl,rfl⟩) PW.nil)))
section
variable {hp:Hp}{nx q m1 m2 m3 oid over:Nat}
set_option maxRecDepth 8000 in
theorem zT {n c:Nat}{ns:List AA}{T:List (ByteArray × Int)}{W:List (AA × List AN)}{res:Option (List (AA × Int))}(hf:∀j,nx<=j->hp j=none)(h0:0<ns.length)(hl:ns.length<1000000000)
  (hq:hp q=some (.bx [.mo m1,.mo m2,.mo m3])) (hm1:hp m1=some (.mo (Aa .string vI T) false)) (hm2:hp m2=some (.mo (Aa qa_ vR R) false)) (hm3:hp m3=some (.mo (Aa qa_ vI []) false)) (ho:hp oid=some (.rw (ns.map Ag) 2 over false false))
  (hd:q≠m1/\q≠m2/\q≠m3/\m1≠m2/\m1≠m3/\m2≠m3) (hod:oid≠q/\oid≠m1/\oid≠m2/\oid≠m3) (hW:Rz n ⟨T,R,[]⟩ ns []=some W) (hWs:∀m∈ns,(mget m W).isSome=true) (hws:∀p∈W,p.2.length<1000000000) (h:Kq W (ns.length:Int) ns c []=some res):
  AT Tryz.prog 91 [.pt q 0,.so oid over 0 ns.length] hp nx fun v hp2 nx2=>v= .v (.bool res.isSome)/\(∃K,(∀K',res=some K'->K'=K)/\hp2=upd m3 (some (.mo (Aa qa_ vI K) false)) hp)/\nx<=nx2:=by
 have hqn:=Ch hf hq;have hmn1:=Ch hf hm1;have hmn2:=Ch hf hm2;have hmn3:=Ch hf hm3;have hon:=Ch hf ho;obtain⟨hd1,hd2,hd3,hd4,hd5,hd6⟩:=hd;refine zq Tryz.func91 ?_;refine Dg ?_;refine Dy ?_;obtain⟨m4,e4⟩:∃m4,m4=nx+1:=⟨_,rfl⟩;rw[<-e4];have hW0:(some (AO.mo [] false):Option AO)=some (.mo (Aa qa_ vW []) false):=rfl;rw[hW0];have Hq:∀W':List (AA × List AN),upd m4 (some (.mo (Aa qa_ vW W') false)) hp q=some (.bx [.mo m1,.mo m2,.mo m3]):=fun W'=>by rw[Ac];exact hq
 have H1:∀W':List (AA × List AN),upd m4 (some (.mo (Aa qa_ vW W') false)) hp m1=some (.mo (Aa .string vI T) false):=fun W'=>by rw[Ac];exact hm1
 have H2:∀W':List (AA × List AN),upd m4 (some (.mo (Aa qa_ vW W') false)) hp m2=some (.mo (Aa qa_ vR R) false):=fun W'=>by rw[Ac];exact hm2
 have H3:∀W':List (AA × List AN),upd m4 (some (.mo (Aa qa_ vW W') false)) hp m3=some (.mo (Aa qa_ vI []) false):=fun W'=>by rw[Ac];exact hm3
 have Ho:∀W':List (AA × List AN),upd m4 (some (.mo (Aa qa_ vW W') false)) hp oid=some (.rw (ns.map Ag) 2 over false false):=fun W'=>by rw[Ac];exact ho
 have Hf:∀(W':List (AA × List AN)) (j:Nat),nx+2<=j->upd m4 (some (.mo (Aa qa_ vW W') false)) hp j=none:=fun W' j hj=>by rw[Ac];exact hf j (by omega)
 refine Dw (α:={ k:Nat // nx+2<=k }) (fun k=>⟨upd 0 (.pt q 0) (upd 1 (.so oid over 0 ns.length) (upd 5 (.mo m4) AJ)),upd m4 (some (.mo (Aa qa_ vW W) false)) hp,k.1⟩) ?_ ?_
 ·refine CV ?_;refine DV (α:={ t:Nat × List (AA × List AN) × Nat // t.1<=ns.length/\nx+2<=t.2.2/\Rz n ⟨T,R,[]⟩ (ns.drop t.1) t.2.1=some W })
   (fun t=>⟨upd 0 (.pt q 0) (upd 1 (.so oid over 0 ns.length) (upd 5 (.mo m4) (upd 15 (.so oid over 0 ns.length) (upd 16 (.v (.int .i64 (ns.length:Int))) (upd 17 (.v (.int .i64 (t.1.1:Int))) AJ))))),upd m4 (some (.mo (Aa qa_ vW t.1.2.1) false)) hp,t.1.2.2⟩) (fun t=>ns.length-t.1.1)
   ⟨(0,[],m4+2+3),Lf _,by dsimp only;omega,hW⟩ ?_ ?_
  ·exact CW
  rintro⟨⟨i,W',nxi⟩,hi,hn,hw⟩;dsimp only at hi hn hw;refine AU (ZT 1 ?_);by_cases hlt:i<ns.length
  ·have c1:(decide ((i:Int)<(ns.length:Int)))=true:=DB;have e1:ns[i]? =some ns[i]:=Le hlt;have ed:ns.drop i=ns[i]::ns.drop (i+1):=Lj hlt;rw[ed] at hw;generalize ns[i]=m at e1 hw;have e2:(ns.map Ag)[i]? =some (Ag m):=Cz Ag e1;unfold Rz at hw;obtain⟨ws,hws1,hw⟩:=AP hw;refine Ct c1 ?_;refine Z0 ?_;refine AU (CV ?_);refine AU (ZT 1 ?_);have w:=Y2 e2 (Y4 (CC .i64 (show(0:Int)<=(i:Int) by omega)) (show((i:Int)).toNat=i from Li _) (Ho W') (show(i<ns.length)=True from eq_true hlt));refine Z1 w ?_;generalize eA:(upd (nxi+1+2) (some _) _:Hp)=hpA;have aq:hpA q=some (.bx [.mo m1,.mo m2,.mo m3]):=(by rw[<-eA,Ac,Ac];exact Hq W');have a1:hpA m1=some (.mo (Aa .string vI T) false):=(by rw[<-eA,Ac,Ac];exact H1 W');have a2:hpA m2=some (.mo (Aa qa_ vR R) false):=(by rw[<-eA,Ac,Ac];exact H2 W');have a3:hpA m3=some (.mo (Aa qa_ vI []) false):=(by rw[<-eA,Ac,Ac];exact H3 W');have a4:hpA m4=some (.mo (Aa qa_ vW W') false):=(by rw[<-eA,Ac,Ac,At]);have at_:hpA (nxi+1+2)=some (.bx [.v (.string m.typ),.v (.string m.rel)]):=(by rw[<-eA,At]);have aa:∀k,k≠nxi+1+2->hpA k=upd m4 (some (.mo (Aa qa_ vW W') false)) hp k:=fun k h1=>(by rw[<-eA,Aj _ _ h1,Aj _ _ h1]);refine ZT 1 ?_;have hput:Ef (true,[.string,.string]) (.agg #[.string m.typ,.string m.rel]) (.d (.sl (ws.map AH)) false) (Aa qa_ vW W')=some (Aa qa_ vW (mset m ws W')):=Xz (ev:=vW) Kh m ws W';refine Z1 (Y3 at_ a4 hput) ?_;refine X5 (b:=true) [q,m1,m2,m3] (fun hp1 h1=>PW.cons (Dr.d (Cg.one (Hw ((h1 q (.head _)).trans aq) ((h1 m1 (.tail _ (.head _))).trans a1) ((h1 m2 (.tail _ (.tail _ (.head _)))).trans a2) ((h1 m3 (.tail _ (.tail _ (.tail _ (.head _))))).trans a3)) rfl)) (PW.cons (Dr.d (Cg.agP (PW.cons (C3.one (b':=false) (is:=[]) rfl (fun _=>rfl)) (PW.cons (C3.one (b':=false) (is:=[]) rfl (fun _=>rfl)) PW.nil)))) PW.nil)) (CP.of_pure (zb hws1)) ?_;refine Z1 (Y2 a4 hput) ?_;have v1:Cr m4 (nxi+1+2) q q m4=1:=(by simp[Cr]);have v2:Cr m4 (nxi+1+2) q q (nxi+1+2)=2:=(by unfold Cr;rw[ifn,if_pos rfl]);refine ct (Cr m4 (nxi+1+2) q q) _ rfl (by rfl) ?_;refine Z0 ?_;refine ZT 1 ?_;refine Z1 (Ar (n:=i)) ?_;refine⟨⟨(i+1,mset m ws W',nxi+1+4+6+2),hlt,by dsimp only;omega,hw⟩,.weak ⟨DO rfl DW,fun k=> ?_,by dsimp only;omega⟩,by dsimp only;omega⟩;grind [At,Aj]
  have c1:(decide ((i:Int)<(ns.length:Int)))=false:=DE;obtain rfl:i=ns.length:=by omega
  rw[Bc] at hw;cases hw;refine Ct c1 ?_;refine Z0 ?_;exact⟨⟨_,by omega⟩,CW⟩
 rintro⟨nxk,hk⟩;obtain⟨L,eL⟩:∃L,L=ns.length:=⟨_,rfl⟩;have Rq:∀K:List (AA × Int),upd m3 (some (.mo (Aa qa_ vI K) false)) (upd m4 (some (.mo (Aa qa_ vW W) false)) hp) q=some (.bx [.mo m1,.mo m2,.mo m3]):=fun K=>by rw[Aj _ _ hd3,Ac];exact hq
 have R3:∀K:List (AA × Int),upd m3 (some (.mo (Aa qa_ vI K) false)) (upd m4 (some (.mo (Aa qa_ vW W) false)) hp) m3=some (.mo (Aa qa_ vI K) false):=fun K=>At _ _ _;have R4:∀K:List (AA × Int),upd m3 (some (.mo (Aa qa_ vI K) false)) (upd m4 (some (.mo (Aa qa_ vW W) false)) hp) m4=some (.mo (Aa qa_ vW W) false):=fun K=>by rw[Ac,At]
 have Ro:∀K:List (AA × Int),upd m3 (some (.mo (Aa qa_ vI K) false)) (upd m4 (some (.mo (Aa qa_ vW W) false)) hp) oid=some (.rw (ns.map Ag) 2 over false false):=fun K=>by rw[Aj _ _ hod.2.2.2,Ac];exact ho
 have Rf:∀(K:List (AA × Int)) (j:Nat),nx+2<=j->upd m3 (some (.mo (Aa qa_ vI K) false)) (upd m4 (some (.mo (Aa qa_ vW W) false)) hp) j=none:=fun K j hj=>by rw[Ac,Ac];exact hf j (by omega)
 have hK0:upd m4 (some (.mo (Aa qa_ vW W) false)) hp=upd m3 (some (.mo (Aa qa_ vI []) false)) (upd m4 (some (.mo (Aa qa_ vW W) false)) hp):=(Fc (by rw[Ac];exact hm3)).symm;rw[hK0];refine Dy ?_;refine CV ?_;refine DV (α:={ t:Nat × List (AA × Int) × Bool × Nat // nx+2<=t.2.2.2/\(if t.2.2.1 then Kq W (ns.length:Int) ns t.1 t.2.1=some res else res=some t.2.1) })
  (fun t=>⟨upd 0 (.pt q 0) (upd 1 (.so oid over 0 ns.length) (upd 5 (.mo m4) (upd 8 (.v (.bool t.1.2.2.1)) AJ))),upd m3 (some (.mo (Aa qa_ vI t.1.2.1) false)) (upd m4 (some (.mo (Aa qa_ vW W) false)) hp),t.1.2.2.2⟩) (fun t=>t.1.1)
  ⟨(c,[],true,nxk+1),by dsimp only;omega,by dsimp only;rw[if_pos rfl];exact h⟩ ?_ ?_
 ·exact CW
 rintro⟨⟨c,K,b,nxa⟩,hna,hr⟩;dsimp only at hna hr;refine AU (AU ?_);refine ZT 1 ?_;cases b with
 |false=>
  rw[if_neg (by decide)] at hr;subst hr;refine FN ?_;refine Ax ?_;refine AQ ?_;refine⟨_,upd m3 (some (.mo (Aa qa_ vI K) false)) hp,rfl,⟨fun k=> ?_⟩,rfl,⟨K,fun K' e=>(LI e).symm,rfl⟩,by dsimp only;omega⟩;grind [At,Aj]
 |true=>
  rw[if_pos rfl] at hr;cases c with
  |zero=>cases hr
  |succ c=>
  unfold Kq at hr;refine FN ?_;refine CV ?_;refine Dg ?_;refine CV ?_;refine DV (α:={ t:Nat × List (AA × Int) × Bool × Nat // t.1<=ns.length/\nx+2<=t.2.2.2/\(match Mf W (ns.length:Int) (ns.drop t.1) (t.2.1,t.2.2.1) with |none=>res=none |some s=>if s.2 then Kq W (ns.length:Int) ns c s.1=some res else res=some s.1) })
   (fun t=>⟨upd 0 (.pt q 0) (upd 1 (.so oid over 0 ns.length) (upd 5 (.mo m4) (upd 8 (.v (.bool t.1.2.2.1)) (upd 28 (.so oid over 0 ns.length) (upd 29 (.v (.int .i64 (ns.length:Int))) (upd 30 (.v (.int .i64 (t.1.1:Int))) AJ)))))),upd m3 (some (.mo (Aa qa_ vI t.1.2.1) false)) (upd m4 (some (.mo (Aa qa_ vW W) false)) hp),t.1.2.2.2⟩) (fun t=>ns.length-t.1.1)
   ⟨(0,K,false,nxa+1+1+3),Lf _,by dsimp only;omega,?_⟩ ?_ ?_
  ·grind
  ·exact CW
  rintro⟨⟨i,K1,b,nxi⟩,hi,hni,hp1⟩;dsimp only at hi hni hp1;refine AU (ZT 1 ?_);by_cases hlt:i<ns.length;rotate_left
  ·have c1:(decide ((i:Int)<(ns.length:Int)))=false:=DE;obtain rfl:i=ns.length:=(by omega);rw[Bc] at hp1;refine Ct c1 ?_;refine Z0 ?_;exact⟨⟨(c,K1,b,nxi+1),by dsimp only;omega,hp1⟩,CW,Ls c⟩
  have c1:(decide ((i:Int)<(ns.length:Int)))=true:=DB;have e1:ns[i]? =some ns[i]:=Le hlt;have ed:ns.drop i=ns[i]::ns.drop (i+1):=Lj hlt;obtain⟨ws,hg⟩:∃ws,mget ns[i] W=some ws:=NG.1 (hWs _ (LN hlt));rw[ed] at hp1;generalize ns[i]=m at e1 hp1 hg;have e2:(ns.map Ag)[i]? =some (Ag m):=Cz Ag e1;have hgD:qf_ m [] W=ws:=by unfold qf_;rw[hg];rfl
  have hwl:ws.length<1000000000:=hws _ (fT hg);unfold Mf at hp1;rw[hgD] at hp1;have hlk:EV (true,[.string,.string]) (.agg #[.string m.typ,.string m.rel]) (.v (.slice none 0 0)) false (Aa qa_ vW W)=some (.d (.sl (ws.map AH)) false,[]):=by
   refine(pj Kh m (.v (.slice none 0 0)) false W).trans ?_;rw[hg];rfl
  refine Ct c1 ?_;refine Z0 ?_;refine AU (CV ?_);refine AU (ZT 1 ?_);have w:=Y2 e2 (Y4 (CC .i64 (show(0:Int)<=(i:Int) by omega)) (show((i:Int)).toNat=i from Li _) (Ro K1) (show(i<ns.length)=True from eq_true hlt));refine Z1 w ?_;refine AU (AU ?_);refine ZT 1 ?_;obtain⟨tb,etb⟩:∃tb,tb=nxi+1+2:=⟨_,rfl⟩;rw[<-etb,EU];have ht3:tb≠m3:=by omega
  have ht4:tb≠m4:=by omega
  have htq:tb≠q:=by omega
  have Bt:∀K:List (AA × Int),upd tb (some (.bx [.v (.string m.typ),.v (.string m.rel)])) (upd m3 (some (.mo (Aa qa_ vI K) false)) (upd m4 (some (.mo (Aa qa_ vW W) false)) hp)) tb=some (.bx [.v (.string m.typ),.v (.string m.rel)]):=fun K=>At _ _ _
  have B4:∀K:List (AA × Int),upd tb (some (.bx [.v (.string m.typ),.v (.string m.rel)])) (upd m3 (some (.mo (Aa qa_ vI K) false)) (upd m4 (some (.mo (Aa qa_ vW W) false)) hp)) m4=some (.mo (Aa qa_ vW W) false):=fun K=>by rw[Aj _ _ ht4.symm];exact R4 K
  have B3:∀K:List (AA × Int),upd tb (some (.bx [.v (.string m.typ),.v (.string m.rel)])) (upd m3 (some (.mo (Aa qa_ vI K) false)) (upd m4 (some (.mo (Aa qa_ vW W) false)) hp)) m3=some (.mo (Aa qa_ vI K) false):=fun K=>by rw[Aj _ _ ht3.symm];exact R3 K
  have Bq:∀K:List (AA × Int),upd tb (some (.bx [.v (.string m.typ),.v (.string m.rel)])) (upd m3 (some (.mo (Aa qa_ vI K) false)) (upd m4 (some (.mo (Aa qa_ vW W) false)) hp)) q=some (.bx [.mo m1,.mo m2,.mo m3]):=fun K=>by rw[Aj _ _ htq.symm];exact Rq K
  have Bf:∀(K:List (AA × Int)) (j:Nat),tb<j->upd tb (some (.bx [.v (.string m.typ),.v (.string m.rel)])) (upd m3 (some (.mo (Aa qa_ vI K) false)) (upd m4 (some (.mo (Aa qa_ vW W) false)) hp)) j=none:=fun K j hj=>by rw[Ac];exact Rf K j (by omega)
  have hkm:∀K:List (AA × Int),EV (true,[.string,.string]) (.agg #[.string m.typ,.string m.rel]) (.v (.int .i64 0)) false (Aa qa_ vI K)=some (.v (.int .i64 (qf_ m 0 K)),[]):=fun K=>Sz (ev:=vI) Kh m 0 false K;obtain⟨s2,es2⟩:∃s2,s2=wi_ m ws (K1,b):=⟨_,rfl⟩;rw[<-es2] at hp1;refine Z1 (Y3 (Bt K1) (B4 K1) hlk) ?_;refine CV ?_;refine DV (α:={ t:Nat × List (AA × Int) × Bool × Nat // t.1<=ws.length/\tb<t.2.2.2/\wi_ m (ws.drop t.1) (t.2.1,t.2.2.1)=s2 })
   (fun t=>⟨upd 0 (.pt q 0) (upd 1 (.so oid over 0 ns.length) (upd 5 (.mo m4) (upd 8 (.v (.bool t.1.2.2.1)) (upd 10 (.pt tb 0) (upd 28 (.so oid over 0 ns.length) (upd 29 (.v (.int .i64 (ns.length:Int))) (upd 30 (.v (.int .i64 (i:Int))) (upd 36 (.d (.sl (ws.map AH)) false) (upd 37 (.v (.int .i64 (ws.length:Int))) (upd 38 (.v (.int .i64 (t.1.1:Int))) AJ)))))))))),upd tb (some (.bx [.v (.string m.typ),.v (.string m.rel)])) (upd m3 (some (.mo (Aa qa_ vI t.1.2.1) false)) (upd m4 (some (.mo (Aa qa_ vW W) false)) hp)),t.1.2.2.2⟩) (fun t=>ws.length-t.1.1)
   ⟨(0,K1,b,nxi+1+4+5),Lf _,by dsimp only;omega,es2.symm⟩ ?_ ?_
  ·exact CW
  rintro⟨⟨j,K2,b2,nxj⟩,hj,htj,hst⟩;dsimp only at hj htj hst;refine AU (ZT 1 ?_);by_cases hjl:j<ws.length;rotate_left
  ·have c2:(decide ((j:Int)<(ws.length:Int)))=false:=DE;obtain rfl:j=ws.length:=(by omega);rw[Bc] at hst;unfold wi_ at hst;subst hst;refine Ct c2 ?_;refine DQ ?_;cases hb:decide ((ns.length:Int)<qf_ m 0 K2) with
   |true=>
    rw[hb,if_pos rfl] at hp1;dsimp only at hp1;subst hp1;refine Z1 (Y5 (Bq K2) (B3 K2) (Bt K2) (hkm K2) hb) ?_;refine DD (by rfl) ?_;refine Z0 ?_;refine ED (c:=true) rfl rfl ?_;refine Ax ?_;refine AQ ?_;refine⟨_,upd m3 (some (.mo (Aa qa_ vI K2) false)) hp,rfl,⟨fun k=> ?_⟩,rfl,⟨K2,fun K' e=>(by cases e),rfl⟩,by dsimp only;omega⟩;grind [At,Aj,Ac]
   |false=>
    rw[hb,if_neg (by decide)] at hp1;refine Z1 (Y5 (Bq K2) (B3 K2) (Bt K2) (hkm K2) hb) ?_;refine DD (by rfl) ?_;refine Z0 ?_;refine DI (c:=false) rfl rfl ?_;refine AQ ?_;refine ZT 1 ?_;refine Z1 (Ar (n:=i)) ?_;refine⟨⟨(i+1,K2,b2,nxj+1+9+2),hlt,by dsimp only;omega,hp1⟩,.weak ⟨DO rfl DW,fun k=> ?_,by dsimp only;omega⟩,by dsimp only;omega⟩;grind [Aj]
  have c2:(decide ((j:Int)<(ws.length:Int)))=true:=DB;have e3:ws[j]? =some ws[j]:=Le hjl;have ed2:ws.drop j=ws[j]::ws.drop (j+1):=Lj hjl;rw[ed2] at hst;generalize ws[j]=y at e3 hst;have e4:(ws.map AH)[j]? =some (AH y):=Cz AH e3;unfold wi_ at hst;have hky:EV (true,[.string,.string]) (.agg #[.string y.to.typ,.string y.to.rel]) (.v (.int .i64 0)) false (Aa qa_ vI K2)=some (.v (.int .i64 (qf_ y.to 0 K2)),[]):=Sz (ev:=vI) Kh y.to 0 false K2;refine Ct c2 ?_;refine Z0 ?_;refine AU ?_;refine Dw (α:={ t:List (AA × Int) × Bool × Nat // tb<t.2.2/\wi_ m (ws.drop (j+1)) (t.1,t.2.1)=s2 })
   (fun t=>⟨upd 0 (.pt q 0) (upd 1 (.so oid over 0 ns.length) (upd 5 (.mo m4) (upd 8 (.v (.bool t.1.2.1)) (upd 10 (.pt tb 0) (upd 28 (.so oid over 0 ns.length) (upd 29 (.v (.int .i64 (ns.length:Int))) (upd 30 (.v (.int .i64 (i:Int))) (upd 36 (.d (.sl (ws.map AH)) false) (upd 37 (.v (.int .i64 (ws.length:Int))) (upd 38 (.v (.int .i64 (j:Int))) AJ)))))))))),upd tb (some (.bx [.v (.string m.typ),.v (.string m.rel)])) (upd m3 (some (.mo (Aa qa_ vI t.1.1) false)) (upd m4 (some (.mo (Aa qa_ vW W) false)) hp)),t.1.2.2⟩) ?_ ?_
  ·refine CV ?_;refine AU (ZT 1 ?_);have w2:=Y2 e4 (Y2 (CC .i64 (show(0:Int)<=(j:Int) by omega)) (show((j:Int)).toNat=j from Li _));refine Z1 w2 ?_;generalize eD:(upd (nxj+1+2) (some _) _:Hp)=hpD;have dq:hpD q=some (.bx [.mo m1,.mo m2,.mo m3]):=(by rw[<-eD,Ac,Ac];exact Bq K2);have d3:hpD m3=some (.mo (Aa qa_ vI K2) false):=(by rw[<-eD,Ac,Ac];exact B3 K2);have dt:hpD tb=some (.bx [.v (.string m.typ),.v (.string m.rel)]):=(by rw[<-eD,Ac,Ac];exact Bt K2);have dw:hpD (nxj+1+2)=some (.bx [.v (.string y.to.typ),.v (.string y.to.rel),.v (.int .i64 y.taken)]):=(by rw[<-eD,At]);have da:∀k,k≠nxj+1+2->hpD k=upd tb (some (.bx [.v (.string m.typ),.v (.string m.rel)])) (upd m3 (some (.mo (Aa qa_ vI K2) false)) (upd m4 (some (.mo (Aa qa_ vW W) false)) hp)) k:=fun k h1=>(by rw[<-eD,Aj _ _ h1,Aj _ _ h1]);have df:∀k,nxj+1+3<=k->hpD k=none:=fun k hk=>(by grind);refine AU (ZT 1 ?_);refine Z1 (Y4 dq d3 dw hky) ?_;refine DD (by rfl) ?_;refine Z0 ?_;obtain⟨kw,ekw⟩:∃kw,kw=i64.wrap (qf_ y.to 0 K2+y.taken):=⟨_,rfl⟩;rw[<-ekw] at hst⊢;refine AU (ZT 1 ?_);cases hb:decide (qf_ m 0 K2<kw) with
   |false=>
    rw[hb,if_neg (by decide)] at hst;refine Z1 (Y5 dq d3 dt (hkm K2) hb) ?_;refine DD (by rfl) ?_;refine Z0 ?_;refine DI (c:=false) rfl rfl ?_;refine AQ ?_;refine⟨⟨(K2,b2,nxj+1+4+11+8),by dsimp only;omega,hst⟩,.weak ⟨DO rfl DW,fun k=> ?_,by dsimp only;omega⟩⟩;grind
   |true=>
    rw[hb,if_pos rfl] at hst;refine Z1 (Y5 dq d3 dt (hkm K2) hb) ?_;refine DD (by rfl) ?_;refine Z0 ?_;refine ZT 1 ?_;obtain⟨o,q1,q2,q3⟩:=Mx (ev:=vI) Kh m K2;cases hm:mget m K2 with
    |none=>
     obtain⟨rfl,qs⟩:=q3 hm;have E1:Gm (true,[.string,.string]) (Value.agg #[.string m.typ,.string m.rel]) (.v (.int .i64 0)) m3 (Aa qa_ vI K2)=some (.tu [.v (.int .i64 0),.v (.int .i64 ((Aa qa_ vI K2).length:Int))],[(m3,.mo (Aa qa_ vI K2++[(Value.agg #[.string m.typ,.string m.rel],.v (.int .i64 0))]) false)]):=MB q1 _ _;have E2:EY (.v (.int .i64 ((Aa qa_ vI K2).length:Int)))=some (Aa qa_ vI K2).length:=(by rw[CC .i64 (by omega)];simp);have E3:(Aa qa_ vI K2++[(Value.agg #[.string m.typ,.string m.rel],AV.v (.int .i64 0))])[(Aa qa_ vI K2).length]? =some (Value.agg #[.string m.typ,.string m.rel],.v (.int .i64 0)):=jh _;have E4:(Aa qa_ vI K2++[(Value.agg #[.string m.typ,.string m.rel],AV.v (.int .i64 0))]).set (Aa qa_ vI K2).length (Value.agg #[.string m.typ,.string m.rel],.v (.int .i64 kw))=Aa qa_ vI (mset m kw K2):=(by rw[ji,qs];simp[Aa,qa_]);refine Z1 (Y2 (Y6 dq d3 dt E1 E2 E3) E4) ?_;have v1:Cr q m3 tb (nxj+1+2) q=1:=(by simp[Cr]);have v2:Cr q m3 tb (nxj+1+2) m3=2:=(by unfold Cr;rw[if_neg hd3.symm,if_pos rfl]);have v3:Cr q m3 tb (nxj+1+2) tb=3:=(by unfold Cr;rw[if_neg htq,if_neg ht3,if_pos rfl]);refine JW (Cr q m3 tb (nxj+1+2)) _ rfl (by rfl) (by rfl) ?_;refine Z0 ?_;refine⟨⟨(mset m kw K2,true,nxj+1+4+11+8+10),by dsimp only;omega,hst⟩,.weak ⟨DO rfl DW,fun k=> ?_,by dsimp only;omega⟩⟩;dsimp only;by_cases h3:k=m3
     ·exact .inr (by rw[h3,At,Aj _ _ ht3.symm,At])
     by_cases hk:k=nxj+1+2
     ·exact .inl (Bf _ k (by omega))
     refine .inr ?_;rw[Aj _ _ h3];try rw[Aj _ _ h3]
     rw[da k hk];by_cases h1:k=tb
     ·rw[h1,At,At]
     ·rw[Aj _ _ h1,Aj _ _ h1,Aj _ _ h3,Aj _ _ h3]
    |some v0=>
     obtain⟨j0,rfl,qs⟩:=q2 v0 hm;obtain⟨k0,hk0⟩:=pk q1;have E1:Gm (true,[.string,.string]) (Value.agg #[.string m.typ,.string m.rel]) (.v (.int .i64 0)) m3 (Aa qa_ vI K2)=some (.tu [.v (.int .i64 v0),.v (.int .i64 (j0:Int))],[(m3,.mo ((Aa qa_ vI K2).set j0 (Value.agg #[.string m.typ,.string m.rel],.v (.int .i64 v0))) false)]):=MC q1 _ _;have E2:EY (.v (.int .i64 (j0:Int)))=some j0:=(by rw[CC .i64 (by omega)];simp);have E3:((Aa qa_ vI K2).set j0 (Value.agg #[.string m.typ,.string m.rel],AV.v (.int .i64 v0)))[j0]? =some (Value.agg #[.string m.typ,.string m.rel],.v (.int .i64 v0)):=MA hk0 _;have E4:((Aa qa_ vI K2).set j0 (Value.agg #[.string m.typ,.string m.rel],AV.v (.int .i64 v0))).set j0 (Value.agg #[.string m.typ,.string m.rel],.v (.int .i64 kw))=Aa qa_ vI (mset m kw K2):=(by rw[List.set_set];exact qs kw);refine Z1 (Y2 (Y6 dq d3 dt E1 E2 E3) E4) ?_;have v1:Cr q m3 tb (nxj+1+2) q=1:=(by simp[Cr]);have v2:Cr q m3 tb (nxj+1+2) m3=2:=(by unfold Cr;rw[if_neg hd3.symm,if_pos rfl]);have v3:Cr q m3 tb (nxj+1+2) tb=3:=(by unfold Cr;rw[if_neg htq,if_neg ht3,if_pos rfl]);refine JW (Cr q m3 tb (nxj+1+2)) _ rfl (by rfl) (by rfl) ?_;refine Z0 ?_;refine⟨⟨(mset m kw K2,true,nxj+1+4+11+8+10),by dsimp only;omega,hst⟩,.weak ⟨DO rfl DW,fun k=> ?_,by dsimp only;omega⟩⟩;dsimp only;by_cases h3:k=m3
     ·exact .inr (by rw[h3,At,Aj _ _ ht3.symm,At])
     by_cases hk:k=nxj+1+2
     ·exact .inl (Bf _ k (by omega))
     refine .inr ?_;rw[Aj _ _ h3];try rw[Aj _ _ h3]
     rw[da k hk];by_cases h1:k=tb
     ·rw[h1,At,At]
     rw[Aj _ _ h1,Aj _ _ h1,Aj _ _ h3,Aj _ _ h3]
  rintro⟨⟨K3,b3,nxk⟩,htk,hst3⟩;refine ZT 1 ?_;refine Z1 (Ar (n:=j)) ?_;exact⟨⟨(j+1,K3,b3,nxk+2),hjl,LF htk (NU _ _),hst3⟩,CW,by dsimp only;omega⟩
end
def GZ {α:Type}:Nat->List α->Nat->Nat->Option (List α)
 |0,_,_,_=>none
 |f+1,a,i,j=>if i<j then(a[j]?).bind fun x=>(a[i]?).bind fun y=>GZ f ((a.set i x).set j y) (i+1) (j-1) else some a
theorem qF {α:Type}:∀ {f i j:Nat} {a b:List α},GZ f a i j=some b->b.length=a.length
 |0,_,_,_,_,h=>by cases h
 |f+1,i,j,a,b,h=>by
  unfold GZ at h;split at h
  ·have⟨x,_,h⟩:=AP h;have⟨y,_,h⟩:=AP h;rw[qF h];simp
  cases h;rfl
theorem Wp {a:Nat}(c:1<=a)(h:a<4611686018427387904):i64.wrap ((a:Int)-1)=((a-1:Nat):Int):=EI (a:=a) (b:=1) c h
theorem rev_nil {nx:Nat}:AT Tryz.prog 90 [.v (.slice none 0 0)] hp nx fun v a b=>v= .tu []/\a=hp/\nx<=b:=by
 refine zq Tryz.func90 ?_;refine AU (ZT 1 ?_);refine Z1 (show i64.wrap (0-1)= -1 from by decide) ?_;refine CV ?_;refine DV (α:=Unit) (fun _=>⟨upd 2 (.v (.int .i64 0)) (upd 3 (.v (.int .i64 (-1))) AJ),hp,nx+5⟩) (fun _=>0) () ?_ ?_
 ·exact CW
 rintro⟨⟩;refine Dy ?_;refine AQ ?_;exact⟨_,_,rfl,⟨fun _=>.inr rfl⟩,rfl,rfl,by dsimp only;omega⟩
set_option maxRecDepth 4000 in
theorem R8 {nx i ver L f:Nat}{br:Bool}{xs R:List AA}(l:hp i=some (.rw (xs.map Ag) 2 ver br false))(m:xs.length=L)(o:0<L)(F:L<4294967296)(p:GZ f xs 0 (L-1)=some R):
  AT Tryz.prog 90 [.so i ver 0 L] hp nx fun v r s=>v= .tu []/\r=upd i (some (.rw (R.map Ag) 2 ver br false)) hp/\nx<=s:=by
 refine zq Tryz.func90 ?_;refine AU (ZT 1 ?_);refine Z1 (Wp o (by omega)) ?_;refine CV ?_;refine DV (α:={ t:Nat × List AA × Nat × Nat × Nat // nx<=t.2.2.2.2/\t.2.1.length=L/\t.2.2.1<=L/\t.2.2.2.1<L/\GZ t.1 t.2.1 t.2.2.1 t.2.2.2.1=some R })
  (fun t=>⟨upd 0 (.so i ver 0 L) (upd 2 (.v (.int .i64 (t.1.2.2.1:Int))) (upd 3 (.v (.int .i64 (t.1.2.2.2.1:Int))) AJ)),upd i (some (.rw (t.1.2.1.map Ag) 2 ver br false)) hp,t.1.2.2.2.2⟩) (fun t=>t.1.1)
  ⟨(f,xs,0,L-1,nx+5),by dsimp only;omega,m,Lf _,by dsimp only;omega,p⟩ ?_ ?_
 ·rw[Fc l];exact CW
 rintro⟨⟨f,d,a,b,u⟩,w,g,A,j,c⟩;dsimp only at w g A j c;cases f with
 |zero=>cases c
 |succ f=>
 unfold GZ at c;refine AU (AU ?_);refine ZT 1 ?_;by_cases k:a<b
 ·rw[if_pos k] at c;have⟨x,B,c⟩:=AP c;have⟨y,C,c⟩:=AP c;have e:(decide ((a:Int)<(b:Int)))=true:=DB;refine FM e ?_;refine AU (CV ?_);refine ZT 1 ?_;obtain⟨z,E⟩:∃z:AA,((d.map Ag).set a (Ag x))[b]? =some (Ag z):=by
   rw[<-NF,Ln];cases h:(d.set a x)[b]? with
   |none=>
    rw[OC,NS] at h;omega
   |some z=>exact⟨z,rfl⟩
  refine Z1 (Y2 (Y6 (Cz Ag B) (Cz Ag C) E (CC .i64 (show(0:Int)<=(a:Int) by omega)) (CC .i64 (show(0:Int)<=(b:Int) by omega)) (show((a:Int)).toNat=a from Li _)) (Y3 (show((b:Int)).toNat=b from Li _) (show(a<L)=True from Fa) (show(b<L)=True from eq_true j))) ?_;refine DD (by rfl) ?_;refine Z0 ?_;refine ZT 1 ?_;refine Z1 (Y2 (Ar (n:=a)) (Wp (a:=b) (by omega) (by omega))) ?_;refine⟨⟨(f,(d.set a x).set b y,a+1,b-1,u+3+16+6),by dsimp only;omega,by simpa using g,by dsimp only;omega,by dsimp only;omega,c⟩,GE ?_ DW,Ls f⟩;rw[EU,EU];show upd i (some (.rw (((d.set a x).set b y).map Ag) 2 ver br false)) hp=_;rw[NF,NF]
 rw[if_neg k] at c;cases c;have e:(decide ((a:Int)<(b:Int)))=false:=DE;refine FM e ?_;exact⟨_,_,rfl,⟨fun _=>.inr rfl⟩,rfl,rfl,by dsimp only;omega⟩
end Go.Proofs.YtnmkbmefohakmaaGreat.Ab
