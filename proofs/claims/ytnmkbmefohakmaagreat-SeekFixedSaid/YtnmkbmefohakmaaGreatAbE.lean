/-
 Open orders: two neighbours.
-/
import Derived.Test.YtnmkbmefohakmaaGreatAbD
set_option linter.all false
namespace Go.Proofs.YtnmkbmefohakmaaGreat.Ab
open Go.RowKit
variable {fr fr':Fr}{hp:Hp}{id:Nat}{n:Option Nat}{o:Oper}{ops:Array Oper}{s:St}{δ:List (Nat × AO)}
section
variable {P:Program}{tab:Nat->TI}
def gd (ops:Array Oper)(o:Oper)(fr:Fr):Option Bool:=
 match o.guard with
 |none=>some true
 |some (j,t)=>match (ops[j]?).bind (·.dst) with
  |none=>some false
  |some d=>match fr d with
   | .v (.bool b)=>some (b==t)
   | .tu []=>some false
   |_=>none
theorem tG {y n:Prop}(h:Ga ops o s y n):(gd ops o s.fr=some true/\y)\/(gd ops o s.fr=some false/\n):=by
 unfold Ga at h;unfold gd;split at h
 ·rename_i e;rw[e];exact .inl ⟨rfl,h⟩
 rename_i j t e;rw[e];split at h
 ·rename_i a;simp only[a];exact .inr ⟨trivial,h⟩
 rename_i d a;simp only[a];split at h
 ·rename_i b c;simp only[c];by_cases f:b=t
  ·exact .inl ⟨by simp[f],h.1 f⟩
  exact .inr ⟨by simp[f],h.2 (by cases b<;>cases t<;>simp_all)⟩
 ·rename_i c;simp only[c];exact .inr ⟨trivial,h⟩
 exact h.elim
theorem tH {y n:Prop}(h:(gd ops o s.fr=some true/\y)\/(gd ops o s.fr=some false/\n)):Ga ops o s y n:=by
 unfold gd at h;unfold Ga;split at h
 ·rename_i e;simp only[e];rcases h with h |h
  ·exact h.2
  cases h.1
 rename_i j t e;simp only[e];split at h
 ·rename_i a;simp only[a];rcases h with h |h
  ·cases h.1
  exact h.2
 rename_i d a;simp only[a];split at h
 ·rename_i b c;simp only[c];rcases h with h |h
  ·have f:b=t:=(by simpa using h.1);exact⟨fun _=>h.2,fun e=>by subst f;cases b<;>cases e⟩
  have f:¬b=t:=by simpa using h.1
  exact⟨fun e=>absurd e f,fun _=>h.2⟩
 ·rename_i c;simp only[c];rcases h with h |h
  ·cases h.1
  exact h.2
 rcases h with h |h<;>cases h.1
theorem jo (h:∀t∈RK ops o,fr t=fr' t):gd ops o fr=gd ops o fr':=by
 unfold gd;cases a:o.guard with
 |none=>rfl
 |some p=>
  have⟨j,t⟩:=p;simp only;cases b:(ops[j]?).bind (·.dst) with |none=>rfl |some d=>simp only[h d (by simp[RK,a,b])]
theorem tI (h:∀t∈RK ops o,fr t=fr' t):∀x∈o.op.operands.toList,ev fr x=ev fr' x:=by
 intro x a;cases x with
 |tmp t=>
  refine h t ?_;simp only[RK,Ly,OA];exact .inl ⟨.tmp t,a,rfl⟩
 |_=>rfl
def Pj (P:Program)(tab:Nat->TI)(op:Op)(id nx:Nat)(fr:Fr)(hp:Hp)(v:AV)(δ:List (Nat × AO))(ids:List Nat)(n:Option Nat):Prop:=
 match op with
 | .call { callee:=.value f,args, .. }=>∃g a,ev fr f= .fn g a/\((∃c b is d fr',Cj hp (args.toList.map (ev fr)++a)=some (c,b,is)/\AI P g c d fr'/\(is= []\/fr'=true)/\v=CE (!fr'&&b) d/\δ= []/\ids=Ct (ev fr) op/\n=none)\/
   ∃e,Pi P g (args.toList.map (ev fr)++a) hp nx ids v δ e/\n=some e)
 |op=>CM tab (ev fr) hp id op=some (v,δ)/\ids=Ct (ev fr) op/\n=none
theorem tJ {j:Op}{nx:Nat}{K:AV->List (Nat × AO)->List Nat->Option Nat->Prop}(h:TO P tab j id nx fr hp K):∃v δ a n,Pj P tab j id nx fr hp v δ a n/\K v δ a n:=by
 unfold TO at h;unfold Pj;split at h
 ·split at h
  ·rename_i g k e;rcases h with⟨l,b,is,d,fr',c,i,m,p⟩ |⟨a,v,δ,q,c,i⟩
   ·exact⟨_,_,_,_,⟨g,k,e,.inl ⟨l,b,is,d,fr',c,i,m,rfl,rfl,rfl,rfl⟩⟩,p⟩
   exact⟨_,_,_,_,⟨g,k,e,.inr ⟨q,c,rfl⟩⟩,i⟩
  exact h.elim
 rename_i r;split at h
 ·rename_i v δ e;refine⟨v,δ,_,_,?_,h⟩;split
  ·rename_i f t u;exact absurd rfl (r f t u)
  exact⟨e,rfl,rfl⟩
 exact h.elim
theorem tK {i:Op}{K:AV->Hp->Nat->Prop}{v:AV}{ids:List Nat}(h:Pj P tab i id s.nx s.fr s.hp v δ ids n)(a:K v (CC δ s.hp) (n.getD s.nx)):IS P tab i id s K:=by
 unfold Pj at h;unfold IS;split at h
 ·have⟨g,r,e,h⟩:=h;simp only[MF,e];rcases h with⟨j,b,is,d,fr',c,k,l,rfl,rfl,rfl,rfl⟩ |⟨t,c,rfl⟩
  ·exact .inl ⟨j,b,is,d,fr',c,k,l,a⟩
  refine .inr ((c s.hp ⟨fun _ _=>rfl,fun _=>rfl⟩).mono ?_);rintro _ _ _ ⟨rfl,rfl,rfl⟩;exact a
 rename_i m;obtain⟨h,rfl,rfl⟩:=h;split
 ·rename_i f p q;exact absurd rfl (m f p q)
 rw[h];exact a
theorem tL {j:Op}{nx q:Nat}{hp':Hp}{v:AV}{ids:List Nat}(h:Pj P tab j id nx fr hp v δ ids n)(l:∀x∈j.operands.toList,ev fr x=ev fr' x)(m:∀i∈ids,hp i=hp' i)(B:n.isSome=true->Df∈ids->hp=hp')(C:n.isSome=true->nx=q):Pj P tab j id q fr' hp' v δ ids n:=by
 have r:Ct (ev fr) j=Ct (ev fr') j:=by
  unfold Ct;split
  ·rw[Ns l]
  rfl
 unfold Pj at *;split at h
 ·rename_i f t O;have⟨g,E,e,h⟩:=h;have F:ev fr f=ev fr' f:=l f (by simp[Op.operands,Call.operands]);have u:t.toList.map (ev fr)=t.toList.map (ev fr'):=Ns fun x w=>l x (by simp[Op.operands,Call.operands] at w⊢;exact .inr w);refine⟨g,E,F▸e,?_⟩;rcases h with⟨G,b,is,d,H,k,c,p,I,J,y,K⟩ |⟨L,k,c⟩
  ·refine .inl ⟨G,b,is,d,H,?_,c,p,I,J,y.trans r,K⟩;rw[<-u,<-bf (hp:=hp) (hp':=hp')]
   ·exact k
   intro i a;refine m i ?_;rw[y];simp only[Ct,G4,if_true,Op.operands,Call.operands];rw[bY] at a;simp only[Id,Nc,bY,Ly];rcases Ly.1 a with a |a
   ·exact .inr a
   exact .inl (by simp[CG,e,CB];exact a)
  subst c;have M:=C rfl;subst M;refine .inr ⟨L,fun N z=> ?_,rfl⟩;rw[<-u];exact k N ⟨fun i a=>(z.1 i a).trans (m i a).symm,fun A=>(z.2 A).trans (B rfl A).symm⟩
 have⟨k,c,p⟩:=h;rw[<-tA l fun i a=>m i (by rw[c];exact a)];exact⟨k,c.trans r,p⟩
def VJ (P:Program)(tab:Nat->TI)(ops:Array Oper)(b k:Nat)(o:Oper)(nx:Nat)(fr:Fr)(hp:Hp)(v:AV)(δ:List (Nat × AO))(a:Cx)(n:Option Nat):Prop:=(gd ops o fr=some true/\Pj P tab o.op (b+k) nx fr hp v δ a.ids n/\a.ks=δ.map (·.1)/\a.g=n.isSome)\/(gd ops o fr=some false/\v= .tu []/\δ= []/\n=none/\a.ids= []/\a.ks= []/\a.g=false)
theorem VJ.ks {b k:Nat}{nx:Nat}{v:AV}{a:Cx}(h:VJ P tab ops b k o nx fr hp v δ a n):a.ks=δ.map (·.1)/\a.g=n.isSome:=by
 rcases h with h |h
 ·exact h.2.2
 rw[h.2.2.1,h.2.2.2.1];exact⟨h.2.2.2.2.2.1,h.2.2.2.2.2.2⟩
theorem bt {ops:Array Oper}{v a:Nat->AV}{fr0:Fr}{S:Nat->Bool}:∀n,(∀k,k<n->v k=a k)->Ch ops v fr0 S n=Ch ops a fr0 S n
 |0,_=>rfl
 |n+1,h=>by simp only[Ch,bt n fun k b=>h k (by omega),h n (by omega)]
theorem bu {δ a:Nat->List (Nat × AO)}{hp0:Hp}{S:Nat->Bool}:∀n,(∀k,k<n->δ k=a k)->CV δ hp0 S n=CV a hp0 S n
 |0,_=>rfl
 |n+1,h=>by simp only[CV,bu n fun k b=>h k (by omega),h n (by omega)]
theorem jp {ops:Array Oper}{u nxb:Nat}{K:St->Prop}{fr0:Fr}{hp0:Hp}:∀(r:List Oper) (i:Nat) (q:List Cx) (v:Nat->AV) (δ:Nat->List (Nat × AO)) (p:Nat->Cx) (m:Nat->Option Nat),i+r.length=ops.size->(∀(k:Nat) (o:Oper),r[k]? =some o->ops[i+k]? =some o)->q.reverse=(List.range i).map p->
  WD P tab ops u K (Co m nxb (fun _=>true) i) i r q (Ch ops v fr0 (fun _=>true) i) (CV δ hp0 (fun _=>true) i)->
  ∃a b d c,(∀k,k<i->a k=v k/\b k=δ k/\d k=p k/\c k=m k)/\(∀k o,i<=k->ops[k]? =some o->VJ P tab ops u k o (Co c nxb (fun _=>true) k) (Ch ops a fr0 (fun _=>true) k) (CV b hp0 (fun _=>true) k) (a k) (b k) (d k) (c k))/\
   HT ops ((List.range ops.size).map d)=true/\K ⟨Ch ops a fr0 (fun _=>true) ops.size,CV b hp0 (fun _=>true) ops.size,Co c nxb (fun _=>true) ops.size⟩
 |[],i,q,v,δ,p,m,C,F,G,h=>by
  simp only[Lu,NW] at C;subst C;have⟨H,I⟩:=h;refine⟨v,δ,p,m,fun _ _=>⟨rfl,rfl,rfl,rfl⟩,fun k o f E=> ?_,by rw[<-G];exact H,I⟩
  have:=(LW.1 E).1;omega
 |o::r,i,q,v,δ,p,m,C,F,G,h=>by
  have E:ops[i]? =some o:=by simpa using F 0 o rfl
  simp only[Lh] at C;have N:∀(g:AV) (l:List (Nat × AO)) (w:Cx) (t:Option Nat),VJ P tab ops u i o (Co m nxb (fun _=>true) i) (Ch ops v fr0 (fun _=>true) i) (CV δ hp0 (fun _=>true) i) g l w t->
    WD P tab ops u K (t.getD (Co m nxb (fun _=>true) i)) (i+1) r (w::q) (CJ o.dst g (Ch ops v fr0 (fun _=>true) i)) (CC l (CV δ hp0 (fun _=>true) i))->
    ∃a b d c,(∀k,k<i->a k=v k/\b k=δ k/\d k=p k/\c k=m k)/\(∀k o,i<=k->ops[k]? =some o->VJ P tab ops u k o (Co c nxb (fun _=>true) k) (Ch ops a fr0 (fun _=>true) k) (CV b hp0 (fun _=>true) k) (a k) (b k) (d k) (c k))/\
     HT ops ((List.range ops.size).map d)=true/\K ⟨Ch ops a fr0 (fun _=>true) ops.size,CV b hp0 (fun _=>true) ops.size,Co c nxb (fun _=>true) ops.size⟩:=by
   intro g l w t R O;have S:Ch ops (upd i g v) fr0 (fun _=>true) (i+1)=CJ o.dst g (Ch ops v fr0 (fun _=>true) i):=by
    simp only[Ch,if_true,Ap,E,LU];rw[bt i fun k f=>Aa]
   have T:CV (upd i l δ) hp0 (fun _=>true) (i+1)=CC l (CV δ hp0 (fun _=>true) i):=by
    simp only[CV,if_true,Ap];rw[bu i fun k f=>Aa]
   have U:Co (upd i t m) nxb (fun _=>true) (i+1)=t.getD (Co m nxb (fun _=>true) i):=by
    simp only[Co,if_true,Ap];rw[bm i fun k f=>Aa]
   rw[<-S,<-T,<-U] at O;have⟨a,b,d,c,x,V,g3⟩:=jp r (i+1) (w::q) (upd i g v) (upd i l δ) (upd i w p) (upd i t m) (by omega) (fun k J f=>by
    have:=F (k+1) J (by simpa using f);rw[Ny,BT 1 k];exact this) (by
    rw[Nl,G,OO,Nc];congr 1
    ·exact Ns fun k f=>(Ai _ _ (by have:=N9.1 f;omega)).symm
    simp[Ap]) O
   refine⟨a,b,d,c,fun k f=> ?_,fun k J f L=> ?_,g3⟩
   ·have⟨y,z,A,B⟩:=x k (by omega);rw[Aa] at y z A B;exact⟨y,z,A,B⟩
   by_cases e:k=i
   ·subst e;rw[E] at L;cases L;have⟨y,z,A,B⟩:=x k (by omega);rw[Ap] at y z A B;rw[y,z,A,B,bt k fun j Q=> ?_,bu k fun j Q=> ?_,bm k fun j Q=> ?_]
    ·exact R
    ·have:=(x j (by omega)).2.2.2;rw[Aa] at this;exact this
    ·have:=(x j (by omega)).2.1;rw[Aa] at this;exact this
    have:=(x j (by omega)).1;rw[Aa] at this;exact this
   exact V k J (by omega) L
  unfold WD at h;rcases tG h with⟨M,h⟩ |⟨M,h⟩
  ·have⟨g,l,X,n1,H,I⟩:=tJ h;exact N g l _ n1 (.inl ⟨M,H,rfl,rfl⟩) I
  exact N (.tu []) [] ⟨[],[],false⟩ none (.inr ⟨M,rfl,rfl,rfl,rfl,rfl,rfl⟩) h
end
end Go.Proofs.YtnmkbmefohakmaaGreat.Ab
