/-
 Where nothing is taken away, more tuples take no answer away, and what nothing says is not so: for every schema without a minus, tuples, and more, and question of numbers. No condition.
-/
import Derived.Test.YtnmkbmefohakmaaGreatPrz
import Derived.Test.YtnmkbmefohakmaaGreatCm
set_option linter.all false
namespace Go.Proofs.YtnmkbmefohakmaaGreat.Ab
open Go.RowKit
theorem DP.congr {K:List AB}{D:AB->List AB}{rk:AB->Int}{nw:(AB->Bool)->AB->Bool}{A A':AB->Bool}(h:DP K rk nw A)(hN:FA K D rk nw)(e:∀x∈K,A' x=A x):DP K rk nw A':=
 ⟨fun r hr=>by rw[e r hr,h.fix r hr];exact hN.loc _ _ r hr fun d hd=>(e d (hN.DK r hr d hd)).symm,fun j T h1 h2 r hr hj ha=>h.low j T (fun x hx hl=>(h1 x hx hl).trans (e x hx)) h2 r hr hj (by rw[<-e r hr];exact ha)⟩
theorem vg {n:Nat}{ts:List AT}{rows:List AE}{S:AC}{o:Ao}{rel:ByteArray}{s:AL}(h:I6 n ts=some (.inl S))(hS:Fw S)(hn:1000000<n)(hr:rows.length<=10000)(hok:∀t∈rows,I4 n t=some true):S6 n ts rows o rel s=ae n S rows o rel s:=by
 have hf:(rows.filter (Dq S)).length<=rows.length:=NP _ _;unfold S6 ae;rw[tJ h hS hn (by omega) hok,Zo,if_neg (by simp),Ge];by_cases e:s.rel={ data:= #[] }
 ·rw[decide_eq_true e,if_pos rfl,if_pos e];unfold YN;rw[JM,Zo,Zo];dsimp only;cases Ar (⟨o.type_,rel⟩:AA) S.rels with
  |true=>
   rw[if_pos rfl,if_pos rfl,Option.map_eq_bind,tG (r0:=rows.filter (Dq S)) (r1:=[]) (by omega) hn hS];rfl
  |false=>rfl
 grind
def I0 (n:Nat)(S:AC)(rows:List AE)(s:AL)(r:AB):Bool:=Ar (D4 r) S.rels&&(Hw n ⟨S,EE (rows.filter (Dq S)),[]⟩ r.obj r.rel s).getD false
section
variable {n:Nat}{ts:List AT}{S:AC}{rows:List AE}(hW:Es ts S)(hB:JG ts)(hn:2000000000<n)(hr:rows.length<=100)
include hW hB hn hr in
theorem cX (s:AL){r:AB}(hk:Ar (D4 r) S.rels=true):∃K:List AB,r∈K/\(∀x∈K,Ar (D4 x) S.rels=true)/\FA K (D1 S (rows.filter (Dq S))) (GP S) (nwB S (rows.filter (Dq S)) s)/\DP K (GP S) (nwB S (rows.filter (Dq S)) s) (I0 n S rows s):=by
 have hf:(rows.filter (Dq S)).length<=rows.length:=NP _ _;have hfit:∀t∈rows.filter (Dq S),Ez S t:=fun t ht=>of_decide_eq_true (Nh.1 ht).2;obtain⟨K,A,a1,a2,a3,a4,a5⟩:=iv (n:=n) (r0:=[]) hW hB hfit s (by omega) hn (o:=r.obj) (rel:=r.rel) hk;have hN:=QV hW hB hfit s a3 a4;refine⟨K,a2,a3,hN,a5.congr hN fun x hx=> ?_⟩;obtain⟨K',A',b1,b2,b3,b4,b5⟩:=iv (n:=n) (r0:=[]) hW hB hfit s (by omega) hn (o:=x.obj) (rel:=x.rel) (a3 x hx);have e:=b5.uniq a5 (QV hW hB hfit s b3 b4) hN (fun r _=>hW.rk0 _) b2 hx;unfold I0;simp_all
include hW hB hn hr in
theorem vh (s:AL){r:AB}(hk:Ar (D4 r) S.rels=true):I0 n S rows s r=nwB S (rows.filter (Dq S)) s (I0 n S rows s) r:=by
 obtain⟨K,k1,_,_,k4⟩:=cX hW hB hn hr s hk;exact k4.fix r k1
end
/-! ### what an expression says, by its tree -/
def JL (T:AB->Bool)(l:List AE)(o:Ao):IV->Bool
 | .leaf x=>(EX l o x).any T
 | .op x a b=>Us x.kind (JL T l o a) (JL T l o b)
theorem cY {T:AB->Bool}{l:List AE}{o:Ao}:∀(t:IV) (ex:List AY) (st:List Bool),IW t->GD T l o (post t++ex) st=GD T l o ex (st++[JL T l o t])
 | .leaf x,ex,st,h=>by
  have hk:(x.kind==1||x.kind==2)=true:=by
   rcases h with h |h<;>rw[h]<;>rfl
  show GD T l o (x::ex) st=_;conv=>lhs;unfold GD
  rw[if_pos hk];rfl
 | .op x a b,ex,st,h=>by
  obtain⟨hk,ha,hb⟩:=h;have hk2:¬(x.kind==1||x.kind==2)=true:=by
   rcases hk with h |h |h<;>rw[h]<;>decide
  have e:post (.op x a b)++ex=post a++(post b++(x::ex)):=by
   show post a++post b++[x]++ex=_;simp
  rw[e,cY a _ st ha,cY b _ _ hb];simp_all [GD,if_neg,Gx,JL]
theorem mM {T:AB->Bool}{l:List AE}{o:Ao}{t:IV}(h:IW t):GD T l o (post t) []=JL T l o t:=by
 have:=cY (T:=T) (l:=l) (o:=o) t [] [] h;rw[LY] at this;rw[this];simp[GD]
end Go.Proofs.YtnmkbmefohakmaaGreat.Ab
namespace Go.Proofs.YtnmkbmefohakmaaGreat.Ab
open Go.Shelf Go.RowKit
theorem toList_inj {a b:ByteArray}(h:a.toList=b.toList):a=b:=by
 rw[Lib.toList_data,Lib.toList_data] at h;exact ByteArray.ext (Iq h)
def qD (x:AE):List D:=AH x
def qA (x:AE):List AV:=[.v (.string x.obj.type_),.v (.string x.obj.id_),.v (.string x.rel),.v (.string x.sub_.type_),.v (.string x.sub_.id_),.v (.string x.sub_.rel)]
@[go_sem] theorem dq1 (x:AE)(b:Bool):(qD x).map (Aw b)=qA x:=rfl
@[go_sem] theorem dq2 (x:AE):(qA x).length=6:=rfl
@[go_sem] theorem dq3 (x:AE):(qA x).take 6=qA x:=rfl
@[go_sem] theorem dq4 (hp:Hp)(x:AE):DE hp (qA x)=some (qD x,false,[]):=rfl
@[go_sem] theorem dq5:tab 153={ ok:=true,kind:=.array 6,size:=6,bytes:=96,offs:=[(0,1),(1,1),(2,1),(3,1),(4,1),(5,1)],elem:=9,zero:=[.string ByteArray.empty,.string ByteArray.empty,.string ByteArray.empty,.string ByteArray.empty,.string ByteArray.empty,.string ByteArray.empty] }:=C6
theorem bW (x:AE):AI Tryz.prog 74 [.ag (qD x)] (.ag (qD x)) true:=by
 refine Tf (tab:=tab) EO D7 Tryz.func74 rfl (by kernel_rfl) (by kernel_rfl) (by simp[Tryz.f74]) ?_;unfold qD;refine Z0 ?_;exact HT (by simp -implicitDefEqProofs only[go_sem,Nat.reduceEqDiff,Nat.reduceAdd, ↓reduceIte,Tryz.f74]<;>rfl) rfl rfl (fun _=>rfl)
theorem PM (x:AE){k:Nat}(hk:k<6):∃s,(tk x)[k]? =some s/\(qA x)[k]? =some (.v (.string s)):=by
 match k,hk with
 |0,_=>exact⟨_,rfl,rfl⟩
 |1,_=>exact⟨_,rfl,rfl⟩
 |2,_=>exact⟨_,rfl,rfl⟩
 |3,_=>exact⟨_,rfl,rfl⟩
 |4,_=>exact⟨_,rfl,rfl⟩
 |5,_=>exact⟨_,rfl,rfl⟩
theorem kV:∀ {k:Nat} {X Y:List ByteArray} {s t:ByteArray},X.take k=Y.take k->X[k]? =some s->Y[k]? =some t->s≠t->Gd X Y=Gc s t
 |0,a::X,b::Y,s,t,_,h2,h3,h4=>by
  cases h2;cases h3
  have:¬Gc a b=0:=fun e=>h4 ((Sh a b).1 e)
  simp[Gd,HZ,this]
 |k+1,a::X,b::Y,s,t,h1,h2,h3,h4=>by
  rw[Oj,Oj] at h1;injection h1 with e1 e2;subst e1;have ih:=kV (k:=k) e2 (by simpa using h2) (by simpa using h3) h4;unfold Gd at *;rw[BH,HZ,if_pos ((Sh a a).2 rfl),ih]
 |_,[],_,_,_,_,h2,_,_=>by simp at h2
 |_,_::_,[],_,_,_,_,h3,_=>by simp at h3
theorem uJ {k:Nat}{X Y:List ByteArray}{s t:ByteArray}(h1:X.take k=Y.take k)(h2:X[k]? =some s)(h3:Y[k]? =some t)(h:s=t):X.take (k+1)=Y.take (k+1):=by
 subst h;rw[Bn,Bn,h1,h2,h3]
theorem less (x y:AE):AI Tryz.prog 37 [.ag (qD x),.ag (qD y)] (.v (.bool (tO.lt x y))) true:=by
 refine Tf (tab:=tab) EO D7 Tryz.func37 rfl (by kernel_rfl) (by kernel_rfl) (by simp[Tryz.f37]) ?_;refine Z0 ?_;refine WR (by simp -implicitDefEqProofs only[go_sem];rfl) (bW x) (.inr rfl) ?_;simp -implicitDefEqProofs only[go_sem,Nx,Nat.reduceEqDiff,Nat.reduceAdd, ↓reduceIte];refine WR (by simp -implicitDefEqProofs only[go_sem];rfl) (bW y) (.inr rfl) ?_;simp -implicitDefEqProofs only[go_sem,Nx,Nat.reduceEqDiff,Nat.reduceAdd, ↓reduceIte];refine ZM (by rfl) ?_;refine Z0 ?_;refine WS (fun p:{ p:Nat × Nat // p.1<=6/\(tk x).take p.1=(tk y).take p.1 }=>⟨upd 7 (.v (.int .i64 (p.1.1:Int))) (upd 6 (.pt 8 0) (upd 5 (.pt 7 0) (upd 4 (.v (.bool false)) AQ))),upd 8 (some (.bx (qA y))) (upd 7 (some (.bx (qA x))) AS),p.1.2+12⟩) (fun p=>7-p.1.1) ⟨(0,0),by simp⟩ ⟨Cv rfl C7,We rfl (We rfl (Mi _)),by simp⟩ ?_;rintro⟨⟨k,m⟩,hk0,hB⟩;simp only at hk0 hB;by_cases hk:k<6
 ·have c1:decide ((k:Int)<6)=true:=by simp;omega
  obtain⟨s,e1,e2⟩:=PM x hk;obtain⟨t,e3,e4⟩:=PM y hk;refine Z1 (Y4 c1 hk e2 e4) ?_;refine ZM (by rfl) ?_;refine Z0 ?_;refine WQ (fun h=> ?_) (fun h=> ?_)
  ·refine Z1 (Y3 hk e2 e4) ?_;refine ZM (by rfl) ?_;refine Z0 ?_;have hne:s≠t:=(by rintro rfl;simp at h);refine HT (by simp -implicitDefEqProofs only[go_sem, ↓reduceIte,Tryz.f37]<;>rfl) rfl ?_ (fun _=>rfl);have e5:tO.lt x y=tx.lt s t:=by
    show decide (Gd (tk x) (tk y)<0)=_;rw[kV hB e1 e3 hne,QY]
   rw[e5];rfl
  have he:s=t:=toList_inj (by simpa using h);have w2:IntKind.i64.wrap ((k:Int)+1)=((k+1:Nat):Int):=by rw[Xj]
  refine Z1 w2 ?_;exact⟨⟨(k+1,_),by omega,uJ hB e1 e3 he⟩,⟨Cv rfl C7,We rfl (We rfl (Mi _)),Lc _⟩,by simp only;omega⟩
 have c1:decide ((k:Int)<6)=false:=by simp;omega
 refine Z1 c1 ?_;have e5:tO.lt x y=false:=by
  have e6:k=6:=by omega
  subst e6;have e7:tk x=tk y:=hB;rw[kW _ _ e7];exact tO.irrefl _
 exact HT (by simp -implicitDefEqProofs only[go_sem, ↓reduceIte,Tryz.f37]<;>rfl) rfl (by rw[e5]) (fun _=>rfl)
end Go.Proofs.YtnmkbmefohakmaaGreat.Ab
namespace Go.Proofs.YtnmkbmefohakmaaGreat.Ab
open Go.RowKit
theorem sq (x:AY)(a b:IV):post (.op x a b)=post a++post b++[x]:=rfl
theorem su (x:AY)(a b:IV):(post (.op x a b)).length=(post a).length+(post b).length+1:=by rw[sq];grind
theorem aQ:∀t:IV,0<(post t).length
 | .leaf _=>Nat.zero_lt_one
 | .op x a b=>by rw[su];omega
def HY:List AL->List Hj
 |[]=>[]
 |s::r=>if s.rel={ data:= #[] } then HY r else⟨s.type_,s.rel,false⟩::HY r
def nm (x:J9):AA:=⟨x.t,x.rel⟩
def wn (w:Hj):AA:=⟨w.type_,w.rel⟩
def MD (R:List Int)(st:Bool)(R':List Int)(st':Bool):Prop:=(st'=true->st=true/\R'=R)/\R.sum<=R'.sum/\(st'=false->st=true->R.sum<R'.sum)
theorem MD.trans {R R1 R2:List Int}{s s1 s2:Bool}(h1:MD R s R1 s1)(h2:MD R1 s1 R2 s2):MD R s R2 s2:=by
 refine⟨fun h=> ?_,Bw h1.2.1 h2.2.1,fun a b=> ?_⟩
 ·obtain⟨a,b⟩:=h2.1 h;obtain⟨c,d⟩:=h1.1 a;exact⟨c,b.trans d⟩
 cases hs:s1 with
 |true=>exact Int.lt_of_le_of_lt h1.2.1 (h2.2.2 a hs)
 |false=>exact Int.lt_of_lt_of_le (h1.2.2 hs b) h2.2.1
section
variable {ts:List AT}{S:AC}(hW:Es ts S)
theorem sk {s:AL}{r:List AL}(h:s.rel={ data:= #[] }):FI (s::r)=FI r:=by
 rw[RU,Ge];exact if_pos (decide_eq_true h)
theorem sm {s:AL}{r:List AL}(h:¬s.rel={ data:= #[] }):FI (s::r)=⟨⟨s.type_,s.rel⟩,0⟩::FI r:=by
 rw[RU,Ge];exact if_neg (mt of_decide_eq_true h)
theorem aP:∀(ss:List AL) (v:AG),v∈FI ss->v.taken=0/\(∃w∈HY ss,wn w=v.to1)/\∃s∈ss,s.rel≠{ data:= #[] }/\v.to1=⟨s.type_,s.rel⟩
 |[],_,h=>by cases h
 |s::r,v,h=>by
  unfold HY;by_cases e:s.rel={ data:= #[] }
  ·rw[sk e] at h;rw[if_pos e];obtain⟨a,b,x,hx,c⟩:=aP r v h;grind
  rw[sm e] at h;rw[if_neg e];rcases Lm.1 h with rfl |h
  ·exact⟨rfl,⟨_,Lo ..,rfl⟩,s,Lo ..,e,rfl⟩
  obtain⟨a,⟨w,h1,h2⟩,x,hx,c⟩:=aP r v h;grind
variable (hT:bV ts)
end
def KH (ts:List AT):Prop:=∀t∈ts,∀g∈t.rels,∀x∈g.expr,x.kind≠4
theorem vO {l l2:List AE}(h:∀t∈l,t∈l2){o:Ao}{x:AY}:∀d∈EX l o x,d∈EX l2 o x:=by
 intro d hd;unfold EX at hd⊢;split at hd
 ·rename_i hk;rw[if_pos hk];exact hd
 rename_i hk;rw[if_neg hk];split at hd
 ·rename_i hk2;rw[if_pos hk2];unfold QU at hd⊢;obtain⟨s,hs,rfl⟩:=LQ.1 hd;obtain⟨t,ht,q⟩:=ME.1 hs;exact LH (ME.2 ⟨t,h t ht,q⟩)
 cases hd
theorem cQ {l l2:List AE}(h:∀t∈l,t∈l2){T:AB->Bool}{o:Ao}:∀t:IV,IW t->(∀x∈post t,x.kind≠4)->JL T l o t=true->JL T l2 o t=true
 | .leaf x,_,_,e=>by
  unfold JL at e⊢;rw[Nm] at e⊢;obtain⟨d,h1,h2⟩:=e;exact⟨d,vO h d h1,h2⟩
 | .op x a b,hw,hp,e=>by
  have e0:post (.op x a b)=post a++post b++[x]:=rfl;rw[e0] at hp;have i1:=cQ (T:=T) (o:=o) h a hw.2.1 fun y hy=>hp y (LS _ (LS _ hy));have i2:=cQ (T:=T) (o:=o) h b hw.2.2 fun y hy=>hp y (LS _ (LZ _ hy));have hx:=hp x (LZ _ (Ln.2 rfl));unfold JL Us at e⊢;rcases hw.1 with k |k |k
  ·rw[k] at e⊢;simp only[show((3:Int)==3)=true from rfl,if_true,LP] at e⊢;exact e.imp i1 i2
  ·exact absurd k hx
  rw[k] at e⊢;simp only[show((5:Int)==3)=false from rfl,show((5:Int)==5)=true from rfl,Nl,if_false,if_true,Li] at e⊢;exact⟨i1 e.1,i2 e.2⟩
theorem cS {o:Ao}:∀t:IV,IW t->(∀x∈post t,x.kind≠4)->JL (fun _=>false) [] o t=false
 | .leaf x,_,_=>by
  unfold JL;rw[Ih];exact fun _ _ h=>by cases h
 | .op x a b,hw,hp=>by
  have e0:post (.op x a b)=post a++post b++[x]:=rfl;rw[e0] at hp;have i1:=cS (o:=o) a hw.2.1 fun y hy=>hp y (LS _ (LS _ hy));have i2:=cS (o:=o) b hw.2.2 fun y hy=>hp y (LS _ (LZ _ hy));have hx:=hp x (LZ _ (Ln.2 rfl));unfold JL Us;rw[i1,i2];rcases hw.1 with k |k |k
  ·rw[k];rfl
  ·exact absurd k hx
  rw[k];rfl
section
variable {n:Nat}{ts:List AT}{S:AC}(hW:Es ts S)(hB:JG ts)(hT:bV ts)(hP:KH ts)(hn:2000000000<n)
include hW hT hP in
theorem cT {m:AA}(hm:Ar m S.rels=true):((qg_ m DX S.rels).expr= [])\/∃t,IW t/\(qg_ m DX S.rels).expr=post t/\∀x∈post t,x.kind≠4:=by
 obtain⟨t,ht,g,hg,rfl,e⟩:=iZ hW hm;rw[e];rcases hT t ht g hg with⟨h,_⟩ |⟨_,tr,h1,h2⟩
 ·exact .inl h
 exact .inr ⟨tr,h1,h2,fun x hx=>hP t ht g hg x (by rw[h2];exact hx)⟩
theorem mG {a:ByteArray}:∀(ex:List AY) (W:List (List AG)),(∀x∈ex,x.kind≠4)->(∀ws∈W,∀w∈ws,w.taken=0)->∀ws∈ex.foldl (Dd S a) W,∀w∈ws,w.taken=0
 |[],W,_,h=>h
 |x::ex,W,hx,h=>by
  rw[Ba];refine mG ex _ (fun y hy=>hx y (Lh _ hy)) fun ws hws w hw=> ?_;unfold Dd at hws;split at hws
  ·rcases Ls.1 hws with hws |hws
   ·exact h ws hws w hw
   rw[Ln.1 hws] at hw;unfold Gu at hw;split at hw
   ·rw[Ln.1 hw]
   obtain⟨_,_,rfl⟩:=LQ.1 hw;rfl
  split at hws
  ·rename_i hl;obtain⟨A,q1,q2,rfl⟩:=dN hl;have e1:(A++[q1,q2])=A++[q1]++[q2]:=(by simp);rw[e1] at hws h;rw[(Gx A q1 q2 []).1,(Gx A q1 q2 []).2.1,(Gx A q1 q2 []).2.2] at hws;rcases Ls.1 hws with hws |hws
   ·exact h ws (LS _ (LS _ hws)) w hw
   rw[Ln.1 hws] at hw;rcases Ls.1 hw with hw |hw
   ·exact h q1 (by simp) w hw
   obtain⟨u,hu,rfl⟩:=LQ.1 hw;unfold Dc;rw[if_neg (by simpa using hx x (Lo ..))];exact h q2 (by simp) u hu
  exact h ws hws w hw
include hW hT hP in
theorem YF (r:AB):GP S r=0:=by
 have h1:=hW.low (fun _=>0) (fun _=>⟨Bu _,Oq _⟩) (fun m hm w hw=> ?_) (D4 r)
 ·have h2:=hW.rk0 (D4 r);unfold GP;have h1:Ca S.ranks (D4 r)<=0:=h1;omega
 have hk:Ar m S.rels=true:=by rw[Pb,hW.rels,Vv];exact hm
 have:w.taken=0:=by
  unfold FW at hw;rcases cT hW hT hP hk with e |⟨t,_,e,hx⟩
  ·rw[if_pos e] at hw;exact(aP _ w hw).1
  rw[if_neg (by rw[e];exact B5 (aQ t))] at hw;obtain⟨ws,h1,h2⟩:=Io.1 hw;exact mG _ [] (by rw[e];exact hx) (fun _ h=>nomatch h) ws h1 w h2
 omega
include hW hT hP in
theorem Vd {l l2:List AE}(h:∀t∈l,t∈l2){s:AL}{T:AB->Bool}{r:AB}(hk:Ar (D4 r) S.rels=true)(e:nwB S l s T r=true):nwB S l2 s T r=true:=by
 have hsub:∀u,u∈GM (tO.ofL l) r.obj r.rel->u∈GM (tO.ofL l2) r.obj r.rel:=fun u hu=>by
  obtain⟨t,ht,q⟩:=ME.1 hu;exact ME.2 ⟨t,h t ht,q⟩
 unfold nwB at e⊢;rcases cT hW hT hP hk with e1 |⟨t,hw,e1,hx⟩
 ·have e1:(qg_ (⟨r.obj.type_,r.rel⟩:AA) DX S.rels).expr= []:=e1;rw[if_pos e1] at e⊢;unfold D1 at e⊢;rw[if_pos e1] at e⊢;rw[LP,decide_eq_true_eq,Nm] at e⊢;refine e.imp (hsub s) fun⟨d,h1,h2⟩=>⟨d,?_,h2⟩;obtain⟨u,hu,q⟩:=XV.1 h1;exact XV.2 ⟨u,hsub u hu,q⟩
 have e1:(qg_ (⟨r.obj.type_,r.rel⟩:AA) DX S.rels).expr=post t:=e1;have hne:¬(qg_ (⟨r.obj.type_,r.rel⟩:AA) DX S.rels).expr= []:=by rw[e1];exact B5 (aQ t)
 rw[if_neg hne,e1,mM hw] at e⊢;exact cQ h t hw hx e
include hW hT hP in
theorem vP {s:AL}{r:AB}(hk:Ar (D4 r) S.rels=true):nwB S [] s (fun _=>false) r=false:=by
 unfold nwB;rcases cT hW hT hP hk with e1 |⟨t,hw,e1,hx⟩
 ·have e1:(qg_ (⟨r.obj.type_,r.rel⟩:AA) DX S.rels).expr= []:=e1;rw[if_pos e1,Bool.or_eq_false_iff];refine⟨decide_eq_false fun h=> ?_,Ih.2 fun _ _ h=>by cases h⟩;obtain⟨t,ht,_⟩:=ME.1 h;cases ht
 have e1:(qg_ (⟨r.obj.type_,r.rel⟩:AA) DX S.rels).expr=post t:=e1;have hne:¬(qg_ (⟨r.obj.type_,r.rel⟩:AA) DX S.rels).expr= []:=by rw[e1];exact B5 (aQ t)
 rw[if_neg hne,e1,mM hw];exact cS t hw hx
include hW hB hT hP hn in
theorem RK {rows more:List AE}(hr:(rows++more).length<=100)(s:AL){r:AB}(hk:Ar (D4 r) S.rels=true)(h:I0 n S rows s r=true):I0 n S (rows++more) s r=true:=by
 rw[Lf] at hr;obtain⟨K,k1,k2,_,k4⟩:=cX hW hB hn (rows:=rows) (by omega) s hk;refine k4.low 0 _ (fun x _ hx=>by rw[YF hW hT hP] at hx;omega) (fun x hx _ hnw=> ?_) r k1 (YF hW hT hP r) h;rw[vh hW hB hn (by rw[Lf];omega) s (k2 x hx)];exact Vd hW hT hP (fun t ht=>by
  obtain⟨h1,h2⟩:=Nh.1 ht;exact Nh.2 ⟨LS _ h1,h2⟩) (k2 x hx) hnw
include hW hB hT hP hn in
theorem vQ (s:AL){r:AB}(hk:Ar (D4 r) S.rels=true):I0 n S [] s r=false:=by
 obtain⟨K,k1,k2,_,k4⟩:=cX hW hB hn (rows:=[]) (by simp) s hk;cases h:I0 n S [] s r with
 |false=>rfl
 |true=>
  have:=k4.low 0 (fun _=>false) (fun x _ hx=>by rw[YF hW hT hP] at hx;omega) (fun x hx _ hnw=>by
   have e:=vP hW hT hP (s:=s) (k2 x hx);rw[show([]:List AE).filter (Dq S)= [] from rfl,e] at hnw;exact hnw) r k1 (YF hW hT hP r) h
  cases this
end
def nB (l:List UInt8):List Int:=l.map fun x=>(x.toNat:Int)
def YG (n:Nat)(t0 t1 t2:List Int)(t3:Int):Option Bool:=(M6 n t0).bind fun s=>if s.size<1000000/\0<s.size then YD n t1 t2 t3 (nB (DI s.data.toList)) else none
theorem law9_SeekMore_ok {n:Nat}{t0 t1 t2:List Int}{t3:Int}{r:Bool}(H:YG n t0 t1 t2 t3=some r):AI Tryz.prog 4 [D.sl (List.map eI t0),D.sl (List.map eI t1),D.sl (List.map eI t2),D.v (.int .i64 t3)] (D.v (.bool r)) true:=by
 unfold YG at H;obtain⟨s,hs,H⟩:=AJ H;split at H
 ·rename_i hsz;have h0:0<(nB (DI s.data.toList)).length:=by
   unfold nB;rw[LC,KG];exact hsz.2
  have e:(DI s.data.toList).map eU=(nB (DI s.data.toList)).map VY:=by
   unfold nB;rw[N8];rfl
  have key:∀ {A B C rest:Code} (_:Tryz.f4.body=some (.seq A (.seq B (.seq C rest)))) (_:DY 131 rest=true),AI Tryz.prog 4 [D.sl (List.map eI t0),D.sl (List.map eI t1),D.sl (List.map eI t2),D.v (.int .i64 t3)] (D.v (.bool r)) true:=fun hcode hd=>vU hcode hs hsz.1 hd (by
   have h:=vL hcode h0 H;unfold RL;rw[e];exact h)
  exact key rfl (by kernel_rfl)
 cases H
theorem Ve (l:List UInt8):S4 (nB l)=l:=by
 unfold S4 nB;rw[N8];conv=>rhs;rw[<-Ii l]
 refine Ni fun x _=> ?_;show UInt8.ofNat ((x.toNat:Int)).toNat=x;rw[Lv,UInt8.ofNat_toNat]
theorem mH:∀ {Q:List Fo} {G:List Ac},IM false Q G->∀g∈G,∀x∈g.expr,x.kind≠4
 |_,_,.nil,_,h=>by cases h
 |_,_,.cons h hs,g,hg=>by
  rcases Lm.1 hg with rfl |hg
  ·exact h.2.2.2 rfl
  exact mH hs g hg
theorem mI:∀ {Q:List Gg} {G:List AT},Gi false Q G->KH G
 |_,_,.nil=>fun _ h=>by cases h
 |q::_,g::_,.cons h hs=>fun t ht=>by
  rcases Lm.1 ht with rfl |ht
  ·obtain⟨_,h⟩:=h;split at h
   ·rw[h];intro _ h;cases h
   exact mH h
  exact mI hs t ht
theorem mJ:∀ {mn:Bool} {Q:List Gg} {G:List AT},Gi mn Q G->G.length=Q.length
 |_,_,_,.nil=>rfl
 |_,_,_,.cons _ hs=>by rw[Lg,Lg,mJ hs]
theorem cU {n:Nat}{ts:List AT}{S:AC}(w1:I6 n ts=some (.inl S))(hW:Es ts S)(hB:JG ts)(hn:2000000000<n){rows:List AE}(hr:rows.length<=100)(hok:∀t∈rows,I4 n t=some true)(o:Ao)(rel:ByteArray){s:AL}(hs:s.rel={ data:= #[] }):
  JK n ts rows o rel s=some (I0 n S rows s ⟨o,rel⟩,if Ar (⟨o.type_,rel⟩:AA) S.rels then 0 else 12):=by
 have hf:(rows.filter (Dq S)).length<=rows.length:=NP _ _;have h:=vg (o:=o) (rel:=rel) (s:=s) w1 (Ur hW hB) (by omega) (by omega) hok;unfold JK;rw[w1];show S6 n ts rows o rel s=_;rw[h];unfold ae I0 D4;rw[if_pos hs];dsimp only;cases hk:Ar (⟨o.type_,rel⟩:AA) S.rels with
 |false=>
  rw[if_neg (by decide),if_neg (by decide)];rfl
 |true=>
  obtain⟨b,hb⟩:=tF hW hB (r0:=[]) (o:=o) (rel:=rel) (s:=s) (l:=rows.filter (Dq S)) (n:=n) (by omega) (by omega) (fun t ht=>of_decide_eq_true (Nh.1 ht).2) hk;rw[if_pos rfl,if_pos rfl,hb];rfl
theorem law_seekMore (t0 t1 t2:List Int)(t3:Int):∃n,YG n t0 t1 t2 t3=some true:=by
 refine⟨3000000000,?_⟩;generalize hn0:(3000000000:Nat)=n;have hn:2000200000<n:=by omega
 clear hn0;obtain⟨m,rfl⟩:∃m,n=m+10:=⟨n-10,by omega⟩;obtain⟨s,h1,hs⟩:=tQ (n:=m+10) (by omega) t0;obtain⟨P,Q,hP,hQ,hb⟩:=tZ (m:=m+7) h1;have hb:s.data.toList=B3 P Q false:=hb;have hp0:0<s.size:=by
  have:s.size=s.data.toList.length:=Nr.symm;rw[this,hb];exact Nat.succ_pos _
 have hs2:bA (Iz (nB (DI s.data.toList)))=B3 P Q true:=by
  show(S4 (nB (DI s.data.toList))).toArray.toList=_;rw[Ve,hb,Vc hP hQ]
 have hz2:(Iz (nB (DI s.data.toList))).size=s.size:=by
  show(S4 (nB (DI s.data.toList))).toArray.size=_;rw[Ve,LU,KG];exact Nr
 obtain⟨ts,h2,hO⟩:=tY hP hQ hs2 (by omega) (show(Iz (nB (DI s.data.toList))).size+40<m by omega);obtain⟨ts2,h2',hB⟩:=uB (Iz (nB (DI s.data.toList))) (m+10) (by omega);rw[h2] at h2';cases h2';have hT:=uI h2;have hpl:KH ts:=mI hO;have hlen:ts.length=3:=mJ hO;obtain⟨l,h3,hl⟩:=io t1 20;have h3:G6 t1 0 (if 20<(t1.length:Int) then 20 else(t1.length:Int))=some l:=h3;obtain⟨rows,h4,_,hr,hp⟩:=jN (n:=m+10) l (by omega);obtain⟨l3,h5,hl3⟩:=io t2 10;have h5:G6 t2 0 (if 10<(t2.length:Int) then 10 else(t2.length:Int))=some l3:=h5;obtain⟨more,h6,_,hr2,hp2⟩:=jN (n:=m+10) l3 (by omega);obtain⟨ak,h7,ha⟩:=tR (m+10) t3;have hsr:ak.2.2.rel={ data:= #[] }:=ha.2.2.2.2;have ok1:∀t∈rows,I4 (m+10) t=some true:=fun t ht=>(jP (by omega) (hp t ht)).2;have ok2:∀t∈rows++more,I4 (m+10) t=some true:=fun t ht=>by
  rcases Ls.1 ht with ht |ht
  ·exact ok1 t ht
  exact(jP (by omega) (hp2 t ht)).2
 have a1:EA [] rows=some rows:=Ef (by simp only[LB];omega);have a2:EA rows more=some (rows++more):=Ef (by omega);have key:∃(a b:Bool) (e:Int),(a=true->b=true)/\JK (m+10) ts rows (⟨ak.1.type_,ak.1.id_⟩:Ao) ak.2.1 (⟨ak.2.2.type_,ak.2.2.id_,ak.2.2.rel⟩:AL)=some (a,e)/\JK (m+10) ts (rows++more) (⟨ak.1.type_,ak.1.id_⟩:Ao) ak.2.1 (⟨ak.2.2.type_,ak.2.2.id_,ak.2.2.rel⟩:AL)=some (b,e)/\JK (m+10) ts [] (⟨ak.1.type_,ak.1.id_⟩:Ao) ak.2.1 (⟨ak.2.2.type_,ak.2.2.id_,ak.2.2.rel⟩:AL)=some (false,e):=by
  obtain⟨w,w1,w2⟩:=wQ hB (n:=m+10) (by omega);cases w with
  |inr e=>
   have he:=tH w1;have hc:∀rs o rel s,JK (m+10) ts rs o rel s=some (false,e):=fun rs o rel s=>by
    unfold JK;rw[w1];dsimp only;rw[if_pos he]
   exact⟨false,false,e,id,hc _ _ _ _,hc _ _ _ _,hc _ _ _ _⟩
  |inl S=>
   have hW:=w2 S rfl;have hra:(rows++more).length<=100:=(by rw[Lf];omega);have c1:=cU w1 hW hB (by omega) (show rows.length<=100 by omega) ok1 ak.1 ak.2.1 hsr;have c2:=cU w1 hW hB (by omega) hra ok2 ak.1 ak.2.1 hsr;have c3:=cU w1 hW hB (by omega) (rows:=[]) (by simp) (fun _ h=>by cases h) ak.1 ak.2.1 hsr;refine⟨_,_,_,?_,c1,c2,?_⟩
   ·intro h;cases hk:Ar (D4 (⟨ak.1,ak.2.1⟩:AB)) S.rels with
    |false=>
     unfold I0 at h;rw[hk] at h;cases h
    |true=>exact RK hW hB hT hpl (by omega) hra ak.2.2 hk h
   have h0:I0 (m+10) S [] ak.2.2 ⟨ak.1,ak.2.1⟩=false:=by
    cases hk:Ar (D4 (⟨ak.1,ak.2.1⟩:AB)) S.rels with
    |false=>
     unfold I0;rw[hk];rfl
    |true=>exact vQ hW hB hT hpl (by omega) ak.2.2 hk
   rw[h0] at c3;exact c3
 obtain⟨a,b,e,hab,k1,k2,k3⟩:=key;unfold YG;rw[h1,Zo,if_pos ⟨by omega,hp0⟩];unfold YD;rw[h2,Zo,h3,Zo,h4,Zo,h7,Zo,k1,Zo,a1,Zo,h5,Zo,h6,Zo,a2,Zo,k2,Zo,k3,Zo,hlen];dsimp only;have hee:(e==e)=true:=beq_self_eq_true e;cases a with
 |true=>
  rw[hab rfl,if_pos rfl,if_pos rfl,if_pos hee,if_pos hee];rfl
 |false=>
  rw[if_neg (by decide),if_pos hee,if_pos hee];rfl
end Go.Proofs.YtnmkbmefohakmaaGreat.Ab
namespace Go.Proofs.YtnmkbmefohakmaaGreat.Ab
open Go.ChangeShapes Go.WideShapes Go.ChangeAt Go.RowKit
abbrev HC (W:World):Nat->Prop:=fun k=>k<W.heap.size/\¬False
section
variable {H:Type}{enc:TypeId × Value->H}{P:Program}{W:World}
def Opens {H:Type}(enc:TypeId × Value->H)(P:Program)(W:World)(t:TypeId){α:Type}(e:α->List D)(ok:α->Prop):Prop:=∀(fuel:Nat) (cs:List Value) (x:DataW H × List MemPlace),DataW.trod enc P W 0 (fun _=>true) true fuel t cs=some x->∃a:α,ok a/\cs.length=(e a).length/\∀(j:Nat) (d:D),(e a)[j]? =some d->∃u,cs[j]? =some u/\RC W (HC W) d u
theorem bF {d:D}{u:Value}(h:RC W (HC W) d u):∀(j:Nat) (d':D),[d][j]? =some d'->∃u',[u][j]? =some u'/\RC W (HC W) d' u':=fun j d' hj=>by
 cases j with
 |zero=>cases hj;exact⟨u,rfl,h⟩
 |succ j=>simp at hj
theorem Opens.int {t:TypeId}{k:IntKind}(ht:P.underlying t=some (.int k)):Opens enc P W t (fun n:Int=>[.v (.int k n)]) fun n=>(Lit.int k n).wf=true:=fun fuel cs x h=>by
 obtain⟨n,rfl,_,hw⟩:=DataW.trod_int ht h;exact⟨n,hw,rfl,bF (.v _ rfl)⟩
theorem ta {w:World}{p:Addr}{x:Value}(h:w.cell? p=some x):p.block<w.heap.size:=by
 rcases Nf p.block w.heap.size with h1 |h1
 ·exact h1
 have:w.heap[p.block]? =none:=N7 h1;simp[World.cell?,this] at h
theorem Xg {b o i:Nat}:(⟨b,o,none⟩:Addr).add i=⟨b,o+i,none⟩:=by
 unfold Addr.add;split<;>simp_all
theorem Opens.slice {t e:TypeId}{k:Nat}(ht:P.underlying t=some (.slice e))(hk:P.cellsOf e=k)(h0:0<k){α:Type}{en:α->List D}{ok:α->Prop}(hl:∀a,(en a).length=k)(he:Opens enc P W e en ok):
  Opens enc P W t (fun l:List α=>[.sl (List.map en l)]) fun l=>l.length<=maxLen/\∀a∈l,ok a:=fun fuel cs x h=>by
 subst hk;rcases DataW.trod_slice ht h with⟨rfl,_⟩ |⟨a,len,cap,elems,rest,n,_,rfl,_,_,hlc,hm,hel,hat,_,_⟩
 ·exact⟨[],⟨Ll _,by simp⟩,rfl,bF (.nl _ _)⟩
 have each:∀i:Fin len,∃(y:α) (us:List Value),ok y/\us.length=P.cellsOf e/\(∀j,j<P.cellsOf e->W.cell? ((a.add (i.1*P.cellsOf e)).add j)=us[j]?)/\∀(j:Nat) (d:D),(en y)[j]? =some d->∃u,us[j]? =some u/\RC W (HC W) d u:=fun i=>by
  have h1:=hat i.1 i.2;rw[Ld (by rw[hel];exact i.2)] at h1;obtain⟨us,h2,h3⟩:=Option.bind_eq_some_iff.1 h1;obtain⟨_,h5,h6⟩:=World.cells?_some h2;obtain⟨y,k1,k2,k3⟩:=he _ _ _ h3;exact⟨y,us,k1,h5,h6,k3⟩
 have ch:∃(f:Fin len->α) (g:Fin len->List Value),∀i,ok (f i)/\(g i).length=P.cellsOf e/\(∀j,j<P.cellsOf e->W.cell? ((a.add (i.1*P.cellsOf e)).add j)=(g i)[j]?)/\∀(j:Nat) (d:D),(en (f i))[j]? =some d->∃u,(g i)[j]? =some u/\RC W (HC W) d u:=
  ⟨fun i=>(each i).choose,fun i=>(each i).choose_spec.choose,fun i=>(each i).choose_spec.choose_spec⟩
 obtain⟨f,g,hfg⟩:=ch;refine⟨List.ofFn f,⟨by simp;omega,fun y hy=> ?_⟩,rfl,bF ?_⟩
 ·obtain⟨i,rfl⟩:=List.mem_ofFn.1 hy;exact(hfg i).1
 cases len with
 |zero=>exact .nl _ _
 |succ m=>
  have hc0:=(hfg ⟨0,by omega⟩).2.2.1 0 h0;have hl0:0<(g ⟨0,by omega⟩).length:=by rw[(hfg ⟨0,by omega⟩).2.1];exact h0
  rw[Ld hl0] at hc0;obtain⟨b,o,s⟩:=a;have hspot:s=none:=by
   have:=World.cell?_spot hc0;simpa [Addr.add] using this
  subst hspot;have hlen:(List.map en (List.ofFn f)).length=m+1:=by simp
  have at':∀(i:Nat) (cs:List D),(List.map en (List.ofFn f))[i]? =some cs->∃hi:i<m+1,cs=en (f ⟨i,hi⟩):=fun i cs hi=>by
   have h1:i<m+1:=by
    have:=(Lb.1 hi).1;rwa [hlen] at this
   refine⟨h1,?_⟩;rw[Lj,Ld (by rw[List.length_ofFn];exact h1),List.getElem_ofFn] at hi;exact(LI hi).symm
  have key:=RC.sl (w:=W) (I:=HC W) (List.map en (List.ofFn f)) b o cap (P.cellsOf e) (fun i j=>(W.cell? ⟨b,o+i*P.cellsOf e+j,none⟩).getD (.bool true)) ⟨?_,fun h=>h⟩ (by rw[hlen];exact hlc) ?_ ?_ ?_
  ·rw[hlen] at key;exact key
  ·have:=ta hc0;simpa [Addr.add] using this
  ·intro i cs hi;obtain⟨h1,rfl⟩:=at' i cs hi;exact hl _
  ·intro i j cs d hi hj;obtain⟨h1,rfl⟩:=at' i cs hi;obtain⟨u,k1,k2⟩:=(hfg ⟨i,h1⟩).2.2.2 j d hj;have hjk:j<P.cellsOf e:=(by have:=(Lb.1 hj).1;rwa [hl] at this);have k3:=(hfg ⟨i,h1⟩).2.2.1 j hjk;rw[Xg,Xg,k1] at k3;simp only[k3,Nw]
  intro i j cs d hi hj;obtain⟨h1,rfl⟩:=at' i cs hi;obtain⟨u,k1,k2⟩:=(hfg ⟨i,h1⟩).2.2.2 j d hj;have hjk:j<P.cellsOf e:=by have:=(Lb.1 hj).1;rwa [hl] at this
  have k3:=(hfg ⟨i,h1⟩).2.2.1 j hjk;rw[Xg,Xg,k1] at k3;simp only[k3,Nw];exact k2
theorem Opens.one {t:TypeId}{α:Type}{e:α->D}{ok:α->Prop}(h:Opens enc P W t (fun a=>[e a]) ok){v:Value}(hc:v.cells= #[v]){d:DataW H}{p:List MemPlace}(h0:DataW.Trod enc P W 0 (fun _=>true) true t v d p):∃a,ok a/\RC W (HC W) (e a) v:=by
 obtain⟨fuel,hf⟩:=h0;obtain⟨a,k1,_,k3⟩:=h _ _ _ hf;rw[hc] at k3;obtain⟨u,e1,e2⟩:=k3 0 (e a) rfl;cases e1;exact⟨a,k1,e2⟩
end
theorem rows_nil {W:World}:∀(j:Nat) (d:D),([]:List D)[j]? =some d->∃u,([]:List Value)[j]? =some u/\DJ W (HC W) d u:=fun j d h=>by simp at h
theorem rows_cons {W:World}{d:D}{v:Value}{ds:List D}{vs:List Value}(h:DJ W (HC W) d v)(hs:∀(j:Nat) (d:D),ds[j]? =some d->∃u,vs[j]? =some u/\DJ W (HC W) d u):∀(j:Nat) (d':D),(d::ds)[j]? =some d'->∃u,(v::vs)[j]? =some u/\DJ W (HC W) d' u:=fun j d' hj=>by
 cases j with
 |zero=>cases hj;exact⟨v,rfl,h⟩
 |succ j=>exact hs j d' (by simpa using hj)
theorem law_pure {P:Program}{f:FuncId}{fr:Bool}{ds:List D}(h:AI P f ds (.v (.bool true)) fr)(W:World)(vs:List Value)(hl:vs.length=ds.length)(ha:∀(j:Nat) (d:D),ds[j]? =some d->∃u,vs[j]? =some u/\DJ W (HC W) d u):Calls P f vs.toArray W fun e W'=>e= .returned (.bool true)/\Below W.heap.size W W':=by
 refine(h.2 W (fun _=>False) vs.toArray (fun _ h=>h.elim) (by simpa using hl) fun j x hj=> ?_).mono fun e W' ⟨u,he,⟨hb,_⟩,hv⟩=> ?_
 ·obtain⟨u,e1,e2⟩:=ha j x hj;exact⟨u,by simpa using e1,e2⟩
 cases(show RC W' _ (.v (.bool true)) u from hv);exact⟨he,hb⟩
end Go.Proofs.YtnmkbmefohakmaaGreat.Ab
namespace Go.Proofs.YtnmkbmefohakmaaGreat
open Go.ChangeShapes Go.WideShapes Go.ChangeAt Go.RowKit
namespace Ab
end Ab
namespace SmzF
open Ab
set_option maxRecDepth 100000 in
theorem RM (os:Os)(started:os.Started)(H:Type)(enc:TypeId × Value->H):
  ReturnsInHanded {} Tryz.checked os 4 .any (Rows.seekMoreSpec.pre6 enc Tryz.prog Tryz.f4 Rows.seekMoreRow.domain false) (Rows.seekMoreSpec.post enc Tryz.prog Tryz.f4 false true false false):=by
 refine returnsInHanded_of_change (C:=Tryz.checked) (by kernel_rfl) started (by kernel_rfl) Tryz.func4
  (ChangeSpec.witness6 (enc:=enc) (C:=Tryz.checked) false ⟨#[], #[.slice none 0 0,.slice none 0 0,.slice none 0 0,.int .i64 0],[]⟩ 8 (by kernel_rfl) (by kernel_rfl) (by kernel_rfl) (by kernel_rfl)) ?_
 intro W base args ds gs before hval0 hW _ _;have hval:∀(j:Nat) t v,Tryz.f4.params[j]? =some t->args[j]? =some v->Value.okWide Tryz.prog W .any base t v:=hval0;have hW0:DataW.Whole enc Tryz.prog Tryz.f4.params.toList Rows.seekMoreSpec.vars false W args.toList ds gs before:=hW;have hW':=hW0;obtain⟨p,q,hA0,hV,rfl,_,_⟩:=hW;have hA:DataW.TrodAll enc Tryz.prog W 0 (fun _=>true) true Tryz.f4.params.toList args.toList ds p:=hA0;rw[Tryz.params4] at hA hval;obtain⟨vs⟩:=args;obtain⟨v0,vs1,d0,ds1,p0,q0,e0,c0,_,h0,hA1⟩:=trodAll_cons hA;obtain⟨v1,vs2,d1,ds2,p1,q1,e1,c1,_,h1,hA2⟩:=trodAll_cons hA1;obtain⟨v2,vs3,d2,ds3,p2,q2,e2,c2,_,h2,hA3⟩:=trodAll_cons hA2;obtain⟨v3,vs4,d3,ds4,p3,q3,e3,c3,_,h3,hA4⟩:=trodAll_cons hA3;obtain⟨eN,cN,_⟩:=trodAll_nil hA4;subst eN;subst cN;subst e3;subst c3;subst e2;subst c2;subst e1;subst c1;have e0:vs=_:=e0;subst e0;subst c0;obtain⟨x0,y0,z0,rfl⟩:=okWide_slice Tryz.underlying22 (hval 0 22 v0 rfl rfl);obtain⟨a0,k0,r0⟩:=Ab.Opens.one (e:=(fun l:List Int=>D.sl (List.map eI l))) (ok:=(fun l:List Int=>l.length<=maxLen/\∀y∈l,(Lit.int .i64 y).wf=true)) (Ab.Opens.slice (k:=1) (ok:=(fun n:Int=>(Lit.int .i64 n).wf=true)) Tryz.underlying22 (by kernel_rfl) (by decide) (by intro _;rfl) (Ab.Opens.int Tryz.underlying2)) rfl h0;obtain⟨x1,y1,z1,rfl⟩:=okWide_slice Tryz.underlying22 (hval 1 22 v1 rfl rfl);obtain⟨a1,k1,r1⟩:=Ab.Opens.one (e:=(fun l:List Int=>D.sl (List.map eI l))) (ok:=(fun l:List Int=>l.length<=maxLen/\∀y∈l,(Lit.int .i64 y).wf=true)) (Ab.Opens.slice (k:=1) (ok:=(fun n:Int=>(Lit.int .i64 n).wf=true)) Tryz.underlying22 (by kernel_rfl) (by decide) (by intro _;rfl) (Ab.Opens.int Tryz.underlying2)) rfl h1;obtain⟨x2,y2,z2,rfl⟩:=okWide_slice Tryz.underlying22 (hval 2 22 v2 rfl rfl);obtain⟨a2,k2,r2⟩:=Ab.Opens.one (e:=(fun l:List Int=>D.sl (List.map eI l))) (ok:=(fun l:List Int=>l.length<=maxLen/\∀y∈l,(Lit.int .i64 y).wf=true)) (Ab.Opens.slice (k:=1) (ok:=(fun n:Int=>(Lit.int .i64 n).wf=true)) Tryz.underlying22 (by kernel_rfl) (by decide) (by intro _;rfl) (Ab.Opens.int Tryz.underlying2)) rfl h2;obtain⟨x3,rfl⟩:=okWide_int Tryz.underlying2 (hval 3 2 v3 rfl rfl);obtain⟨a3,k3,r3⟩:=Ab.Opens.one (e:=(fun n:Int=>D.v (.int .i64 n))) (ok:=(fun n:Int=>(Lit.int .i64 n).wf=true)) (Ab.Opens.int Tryz.underlying2) rfl h3;obtain⟨n,hn⟩:=Ab.law_seekMore a0 a1 a2 a3;exact(Ab.law_pure (Ab.law9_SeekMore_ok hn) W [.slice x0 y0 z0,.slice x1 y1 z1,.slice x2 y2 z2,.int .i64 x3] rfl (Ab.rows_cons r0 (Ab.rows_cons r1 (Ab.rows_cons r2 (Ab.rows_cons r3 Ab.rows_nil))))).mono fun e W' ⟨he,hb⟩=>⟨_,he,Cm.law_post (by kernel_rfl) (by kernel_rfl) rfl (tb:=4) (by kernel_rfl) Tryz.underlying4 rfl rfl rfl hW0 hb⟩

theorem said:Rows.SeekMoreSaid:=
 OpenClaim.holds_of_wide 4 Tryz.f4 rfl rfl rfl rfl rfl rfl rfl ⟨rfl,rfl,rfl,rfl,rfl⟩ rfl rfl rfl rfl rfl (by kernel_rfl) Tryz.func4 (by kernel_rfl)
  (of_decide_eq_true (by kernel_rfl)) (by unfold Func.isWrapper;first |(rw[if_pos (by decide+kernel)];kernel_rfl) |(rw[if_neg (by decide+kernel)];exact⟨rfl,rfl⟩))
  (fun os started H enc _=>RM os started H enc)
#print axioms said
end SmzF
end Go.Proofs.YtnmkbmefohakmaaGreat
