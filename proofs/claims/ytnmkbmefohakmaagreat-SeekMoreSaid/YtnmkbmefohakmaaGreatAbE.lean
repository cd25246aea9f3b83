/-
 Open orders: two neighbours.
-/
import Derived.Test.YtnmkbmefohakmaaGreatAbD
set_option linter.all false
namespace Go.Proofs.YtnmkbmefohakmaaGreat.Ab
open Go.RowKit
section
variable {P:Program}{tab:Nat->TI}
def gd (ops:Array Oper)(o:Oper)(fr:Fr):Option Bool:=
 match o.guard with
 |none=>some true
 |some (j,t)=>match (ops[j]?).bind (·.dst) with
  |none=>some false
  |some d=>match fr d with
   | .v (.bool b)=>some (b==t)
   | .tu []=>some false
   |_=>none
theorem pE {ops:Array Oper}{o:Oper}{s:St}{y n:Prop}(h:Fx ops o s y n):(gd ops o s.fr=some true/\y)\/(gd ops o s.fr=some false/\n):=by
 unfold Fx at h;unfold gd;split at h
 ·rename_i e;rw[e];exact .inl ⟨rfl,h⟩
 rename_i j t e;rw[e];split at h
 ·rename_i e2;simp only[e2];exact .inr ⟨trivial,h⟩
 rename_i d e2;simp only[e2];split at h
 ·rename_i b e3;simp only[e3];by_cases hb:b=t
  ·exact .inl ⟨by simp[hb],h.1 hb⟩
  exact .inr ⟨by simp[hb],h.2 (by cases b<;>cases t<;>simp_all)⟩
 ·rename_i e3;simp only[e3];exact .inr ⟨trivial,h⟩
 exact h.elim
theorem pF {ops:Array Oper}{o:Oper}{s:St}{y n:Prop}(h:(gd ops o s.fr=some true/\y)\/(gd ops o s.fr=some false/\n)):Fx ops o s y n:=by
 unfold gd at h;unfold Fx;split at h
 ·rename_i e;simp only[e];rcases h with h |h
  ·exact h.2
  cases h.1
 rename_i j t e;simp only[e];split at h
 ·rename_i e2;simp only[e2];rcases h with h |h
  ·cases h.1
  exact h.2
 rename_i d e2;simp only[e2];split at h
 ·rename_i b e3;simp only[e3];rcases h with h |h
  ·have hb:b=t:=(by simpa using h.1);exact⟨fun _=>h.2,fun e=>by subst hb;cases b<;>cases e⟩
  have hb:¬b=t:=by simpa using h.1
  exact⟨fun e=>absurd e hb,fun _=>h.2⟩
 ·rename_i e3;simp only[e3];rcases h with h |h
  ·cases h.1
  exact h.2
 rcases h with h |h<;>cases h.1
theorem fZ {ops:Array Oper}{o:Oper}{fr fr':Fr}(h:∀t∈Pu ops o,fr t=fr' t):gd ops o fr=gd ops o fr':=by
 unfold gd;cases hg:o.guard with
 |none=>rfl
 |some p=>
  obtain⟨j,t⟩:=p;simp only;cases hd:(ops[j]?).bind (·.dst) with |none=>rfl |some d=>simp only[h d (by simp[Pu,hg,hd])]
theorem pG {ops:Array Oper}{o:Oper}{fr fr':Fr}(h:∀t∈Pu ops o,fr t=fr' t):∀x∈o.op.operands.toList,ev fr x=ev fr' x:=by
 intro x hx;cases x with
 |tmp t=>
  refine h t ?_;simp only[Pu,Ls,Om];exact .inl ⟨.tmp t,hx,rfl⟩
 |_=>rfl
def Mg (P:Program)(tab:Nat->TI)(op:Op)(id nx:Nat)(fr:Fr)(hp:Hp)(v:AV)(δ:List (Nat × AO))(ids:List Nat)(n:Option Nat):Prop:=
 match op with
 | .call { callee:=.value f,args, .. }=>∃g caps,ev fr f= .fn g caps/\((∃ds b is d fr',CT hp (args.toList.map (ev fr)++caps)=some (ds,b,is)/\AI P g ds d fr'/\(is= []\/fr'=true)/\v=Aw (!fr'&&b) d/\δ= []/\ids=CX (ev fr) op/\n=none)\/
   ∃nx',Mf P g (args.toList.map (ev fr)++caps) hp nx ids v δ nx'/\n=some nx')
 |op=>CB tab (ev fr) hp id op=some (v,δ)/\ids=CX (ev fr) op/\n=none
theorem pH {op:Op}{id nx:Nat}{fr:Fr}{hp:Hp}{K:AV->List (Nat × AO)->List Nat->Option Nat->Prop}(h:Ri P tab op id nx fr hp K):∃v δ ids n,Mg P tab op id nx fr hp v δ ids n/\K v δ ids n:=by
 unfold Ri at h;unfold Mg;split at h
 ·split at h
  ·rename_i g caps e;rcases h with⟨ds,b,is,d,fr',h1,h2,h3,h4⟩ |⟨ids,v,δ,nx',h1,h2⟩
   ·exact⟨_,_,_,_,⟨g,caps,e,.inl ⟨ds,b,is,d,fr',h1,h2,h3,rfl,rfl,rfl,rfl⟩⟩,h4⟩
   exact⟨_,_,_,_,⟨g,caps,e,.inr ⟨nx',h1,rfl⟩⟩,h2⟩
  exact h.elim
 rename_i hne;split at h
 ·rename_i v δ e;refine⟨v,δ,_,_,?_,h⟩;split
  ·rename_i f args ty;exact absurd rfl (hne f args ty)
  exact⟨e,rfl,rfl⟩
 exact h.elim
theorem pI {op:Op}{id:Nat}{s:St}{K:AV->Hp->Nat->Prop}{v:AV}{δ:List (Nat × AO)}{ids:List Nat}{n:Option Nat}(h:Mg P tab op id s.nx s.fr s.hp v δ ids n)(hK:K v (Av δ s.hp) (n.getD s.nx)):HQ P tab op id s K:=by
 unfold Mg at h;unfold HQ;split at h
 ·obtain⟨g,caps,e,h⟩:=h;simp only[KN,e];rcases h with⟨ds,b,is,d,fr',h1,h2,h3,rfl,rfl,rfl,rfl⟩ |⟨nx',h1,rfl⟩
  ·exact .inl ⟨ds,b,is,d,fr',h1,h2,h3,hK⟩
  refine .inr ((h1 s.hp ⟨fun _ _=>rfl,fun _=>rfl⟩).mono ?_);rintro _ _ _ ⟨rfl,rfl,rfl⟩;exact hK
 rename_i hne;obtain⟨h,rfl,rfl⟩:=h;split
 ·rename_i f args ty;exact absurd rfl (hne f args ty)
 rw[h];exact hK
theorem pJ {op:Op}{id nx nx1:Nat}{fr fr':Fr}{hp hp':Hp}{v:AV}{δ:List (Nat × AO)}{ids:List Nat}{n:Option Nat}(h:Mg P tab op id nx fr hp v δ ids n)(hρ:∀x∈op.operands.toList,ev fr x=ev fr' x)(hh:∀i∈ids,hp i=hp' i)(hw:n.isSome=true->DN∈ids->hp=hp')(hn:n.isSome=true->nx=nx1):Mg P tab op id nx1 fr' hp' v δ ids n:=by
 have hids:CX (ev fr) op=CX (ev fr') op:=by
  unfold CX;split
  ·rw[Ni hρ]
  rfl
 unfold Mg at *;split at h
 ·rename_i f args ty;obtain⟨g,caps,e,h⟩:=h;have hf:ev fr f=ev fr' f:=hρ f (by simp[Op.operands,Call.operands]);have ha:args.toList.map (ev fr)=args.toList.map (ev fr'):=Ni fun x hx=>hρ x (by simp[Op.operands,Call.operands] at hx⊢;exact .inr hx);refine⟨g,caps,hf▸e,?_⟩;rcases h with⟨ds,b,is,d,fr2,h1,h2,h3,h4,h5,h6,h7⟩ |⟨nx',h1,h2⟩
  ·refine .inl ⟨ds,b,is,d,fr2,?_,h2,h3,h4,h5,h6.trans hids,h7⟩;rw[<-ha,<-Y7 (hp:=hp) (hp':=hp')]
   ·exact h1
   intro i hi;refine hh i ?_;rw[h6];simp only[CX,F5,if_true,Op.operands,Call.operands];rw[Yy] at hi;simp only[O1,Na,Yy,Ls];rcases Ls.1 hi with hi |hi
   ·exact .inr hi
   exact .inl (by simp[Ax,e,Au];exact hi)
  subst h2;have hnx:=hn rfl;subst hnx;refine .inr ⟨nx',fun hp1 hq=> ?_,rfl⟩;rw[<-ha];exact h1 hp1 ⟨fun i hi=>(hq.1 i hi).trans (hh i hi).symm,fun hs=>(hq.2 hs).trans (hw rfl hs).symm⟩
 obtain⟨h1,h2,h3⟩:=h;rw[<-o8 hρ fun i hi=>hh i (by rw[h2];exact hi)];exact⟨h1,h2.trans hids,h3⟩
def TY (P:Program)(tab:Nat->TI)(ops:Array Oper)(nx0 k:Nat)(o:Oper)(nx:Nat)(fr:Fr)(hp:Hp)(v:AV)(δ:List (Nat × AO))(rc:Cd)(n:Option Nat):Prop:=(gd ops o fr=some true/\Mg P tab o.op (nx0+k) nx fr hp v δ rc.ids n/\rc.ks=δ.map (·.1)/\rc.g=n.isSome)\/(gd ops o fr=some false/\v= .tu []/\δ= []/\n=none/\rc.ids= []/\rc.ks= []/\rc.g=false)
theorem TY.ks {ops:Array Oper}{nx0 k:Nat}{o:Oper}{nx:Nat}{fr:Fr}{hp:Hp}{v:AV}{δ:List (Nat × AO)}{rc:Cd}{n:Option Nat}(h:TY P tab ops nx0 k o nx fr hp v δ rc n):rc.ks=δ.map (·.1)/\rc.g=n.isSome:=by
 rcases h with h |h
 ·exact h.2.2
 rw[h.2.2.1,h.2.2.2.1];exact⟨h.2.2.2.2.2.1,h.2.2.2.2.2.2⟩
theorem ZH {ops:Array Oper}{v v':Nat->AV}{fr0:Fr}{S:Nat->Bool}:∀n,(∀k,k<n->v k=v' k)->CU ops v fr0 S n=CU ops v' fr0 S n
 |0,_=>rfl
 |n+1,h=>by simp only[CU,ZH n fun k hk=>h k (by omega),h n (by omega)]
theorem ZI {δ δ':Nat->List (Nat × AO)}{hp0:Hp}{S:Nat->Bool}:∀n,(∀k,k<n->δ k=δ' k)->CJ δ hp0 S n=CJ δ' hp0 S n
 |0,_=>rfl
 |n+1,h=>by simp only[CJ,ZI n fun k hk=>h k (by omega),h n (by omega)]
theorem fc {ops:Array Oper}{nx0 nxb:Nat}{K:St->Prop}{fr0:Fr}{hp0:Hp}:∀(r:List Oper) (i:Nat) (acc:List Cd) (v:Nat->AV) (δ:Nat->List (Nat × AO)) (rc:Nat->Cd) (m:Nat->Option Nat),i+r.length=ops.size->(∀(k:Nat) (o:Oper),r[k]? =some o->ops[i+k]? =some o)->acc.reverse=(List.range i).map rc->
  WD P tab ops nx0 K (CY m nxb (fun _=>true) i) i r acc (CU ops v fr0 (fun _=>true) i) (CJ δ hp0 (fun _=>true) i)->
  ∃v' δ' rc' m',(∀k,k<i->v' k=v k/\δ' k=δ k/\rc' k=rc k/\m' k=m k)/\(∀k o,i<=k->ops[k]? =some o->TY P tab ops nx0 k o (CY m' nxb (fun _=>true) k) (CU ops v' fr0 (fun _=>true) k) (CJ δ' hp0 (fun _=>true) k) (v' k) (δ' k) (rc' k) (m' k))/\
   Gv ops ((List.range ops.size).map rc')=true/\K ⟨CU ops v' fr0 (fun _=>true) ops.size,CJ δ' hp0 (fun _=>true) ops.size,CY m' nxb (fun _=>true) ops.size⟩
 |[],i,acc,v,δ,rc,m,hl,hr,ha,h=>by
  simp only[LB,NS] at hl;subst hl;obtain⟨h1,h2⟩:=h;refine⟨v,δ,rc,m,fun _ _=>⟨rfl,rfl,rfl,rfl⟩,fun k o hk ho=> ?_,by rw[<-ha];exact h1,h2⟩
  have:=(LN.1 ho).1;omega
 |o::r,i,acc,v,δ,rc,m,hl,hr,ha,h=>by
  have ho:ops[i]? =some o:=by simpa using hr 0 o rfl
  simp only[Lg] at hl;have step:∀(v1:AV) (δ1:List (Nat × AO)) (rc1:Cd) (m1:Option Nat),TY P tab ops nx0 i o (CY m nxb (fun _=>true) i) (CU ops v fr0 (fun _=>true) i) (CJ δ hp0 (fun _=>true) i) v1 δ1 rc1 m1->
    WD P tab ops nx0 K (m1.getD (CY m nxb (fun _=>true) i)) (i+1) r (rc1::acc) (A7 o.dst v1 (CU ops v fr0 (fun _=>true) i)) (Av δ1 (CJ δ hp0 (fun _=>true) i))->
    ∃v' δ' rc' m',(∀k,k<i->v' k=v k/\δ' k=δ k/\rc' k=rc k/\m' k=m k)/\(∀k o,i<=k->ops[k]? =some o->TY P tab ops nx0 k o (CY m' nxb (fun _=>true) k) (CU ops v' fr0 (fun _=>true) k) (CJ δ' hp0 (fun _=>true) k) (v' k) (δ' k) (rc' k) (m' k))/\
     Gv ops ((List.range ops.size).map rc')=true/\K ⟨CU ops v' fr0 (fun _=>true) ops.size,CJ δ' hp0 (fun _=>true) ops.size,CY m' nxb (fun _=>true) ops.size⟩:=by
   intro v1 δ1 rc1 m1 hs hw;have e1:CU ops (upd i v1 v) fr0 (fun _=>true) (i+1)=A7 o.dst v1 (CU ops v fr0 (fun _=>true) i):=by
    simp only[CU,if_true,Ah,ho,NR];rw[ZH i fun k hk=>AR]
   have e2:CJ (upd i δ1 δ) hp0 (fun _=>true) (i+1)=Av δ1 (CJ δ hp0 (fun _=>true) i):=by
    simp only[CJ,if_true,Ah];rw[ZI i fun k hk=>AR]
   have e3:CY (upd i m1 m) nxb (fun _=>true) (i+1)=m1.getD (CY m nxb (fun _=>true) i):=by
    simp only[CY,if_true,Ah];rw[ZD i fun k hk=>AR]
   rw[<-e1,<-e2,<-e3] at hw;obtain⟨v',δ',rc',m',g1,g2,g3⟩:=fc r (i+1) (rc1::acc) (upd i v1 v) (upd i δ1 δ) (upd i rc1 rc) (upd i m1 m) (by omega) (fun k o' hk=>by
    have:=hr (k+1) o' (by simpa using hk);rw[Nu,BM 1 k];exact this) (by
    rw[Nc,ha,OE,Na];congr 1
    ·exact Ni fun k hk=>(Ad _ _ (by have:=NY.1 hk;omega)).symm
    simp[Ah]) hw
   refine⟨v',δ',rc',m',fun k hk=> ?_,fun k o' hk ho'=> ?_,g3⟩
   ·obtain⟨q1,q2,q3,q4⟩:=g1 k (by omega);rw[AR] at q1 q2 q3 q4;exact⟨q1,q2,q3,q4⟩
   by_cases e:k=i
   ·subst e;rw[ho] at ho';cases ho';obtain⟨q1,q2,q3,q4⟩:=g1 k (by omega);rw[Ah] at q1 q2 q3 q4;rw[q1,q2,q3,q4,ZH k fun j hj=> ?_,ZI k fun j hj=> ?_,ZD k fun j hj=> ?_]
    ·exact hs
    ·have:=(g1 j (by omega)).2.2.2;rw[AR] at this;exact this
    ·have:=(g1 j (by omega)).2.1;rw[AR] at this;exact this
    have:=(g1 j (by omega)).1;rw[AR] at this;exact this
   exact g2 k o' (by omega) ho'
  unfold WD at h;rcases pE h with⟨hg,h⟩ |⟨hg,h⟩
  ·obtain⟨v1,δ1,ids1,n1,h1,h2⟩:=pH h;exact step v1 δ1 _ n1 (.inl ⟨hg,h1,rfl,rfl⟩) h2
  exact step (.tu []) [] ⟨[],[],false⟩ none (.inr ⟨hg,rfl,rfl,rfl,rfl,rfl,rfl⟩) h
end
end Go.Proofs.YtnmkbmefohakmaaGreat.Ab
