/-
 The walk of the machine, step by step.
-/
import Derived.DeepKeys
import Derived.WideKeyRuns
import Derived.Test.YtnmkbmefohakmaaGreatAbF
set_option linter.all false
namespace Go.Proofs.YtnmkbmefohakmaaGreat.Ab
variable {P:Program}{T kt:Nat}{caps vs:List AV}{ds:List D}{g:FuncId}{is:List Nat}{k:TK}{s:St}{x:Value}
section
open Go.RowKit
def iN (ops:Array Oper):Bool:=Jh ops&&(List.range ops.size).all fun j=>(List.range j).all fun i=>
 ((Kx ops).getD j []).contains i||(match ops[i]?,ops[j]? with |some a,some b=> !Mn ops a b |_,_=>true)
def SL (a:C7):Bool:=a.ks.isEmpty&& !a.g
def SM (d:List Nat)(b:C7):Nat->List C7->Bool
 |_,[]=>true
 |i,a::r=>(d.contains i||(SL a&&SL b)|| !Fl a b)&&SM d b (i+1) r
def SN (rs:List C7):List (List Nat)->Nat->List C7->Bool
 |_,_,[]=>true
 |[],j,b::r=>SM [] b 0 (rs.take j)&&SN rs [] (j+1) r
 |p::d,j,b::r=>SM p b 0 (rs.take j)&&SN rs d (j+1) r
def SO (ops:Array Oper)(rs:List C7):Bool:=iN ops&&(rs.all SL||SN rs (Kx ops) 0 rs)
theorem iO {a b:C7}(h:(SL a&&SL b)=true):Fl a b=false:=by
 simp only[SL,Lm,Oj,NN] at h;have⟨⟨d,l⟩,u,w⟩:=h;simp[Fl,IN,FQ,d,l,u,w,De]
theorem iP {u:List Nat}{b:C7}:∀ {l:List C7} {n:Nat},SM u b n l=true->∀(i:Nat) (a:C7),l[i]? =some a->Fl a b=false\/(n+i)∈u
 |[],n,h,i,a,e=>by simp at e
 |c::r,n,h,i,a,e=>by
  simp only[SM,Lm,LQ,NN] at h;cases i with
  |zero=>
   simp only[Nc,Lg] at e;subst e;rcases h.1 with(d |d) |d
   ·exact .inr (by simpa using d)
   ·exact .inl (iO (by rw[d.1,d.2];rfl))
   ·exact .inl d
  |succ i=>
   have:=iP h.2 i a (by simpa using e);rw[show n+1+i=n+(i+1) by omega] at this;exact this
theorem aQ {rs:List C7}:∀ {l:List C7} {d:List (List Nat)} {n:Nat},SN rs d n l=true->∀(j:Nat) (b:C7),l[j]? =some b->SM (d.getD j []) b 0 (rs.take (n+j))=true
 |[],d,n,h,j,b,e=>by simp at e
 |c::r,[],n,h,j,b,e=>by
  simp only[SN,Lm] at h;cases j with
  |zero=>simp only[Nc,Lg] at e;subst e;exact h.1
  |succ j=>
   have:=aQ h.2 j b (by simpa using e);rw[show n+1+j=n+(j+1) by omega] at this;simpa using this
 |c::r,p::d,n,h,j,b,e=>by
  simp only[SN,Lm] at h;cases j with
  |zero=>simp only[Nc,Lg] at e;subst e;exact h.1
  |succ j=>
   have:=aQ h.2 j b (by simpa using e);rw[show n+1+j=n+(j+1) by omega] at this;simpa using this
theorem XL {ops:Array Oper}{rs:List C7}(h:SO ops rs=true):Gz ops rs=true:=by
 simp only[SO,iN,Lm,LQ] at h;have⟨⟨B,C⟩,l⟩:=h;simp only[Gz,Lm];refine⟨B,?_⟩;unfold SJ;refine LP.2 fun j E=>LP.2 fun i u=> ?_;have d:=LP.1 (LP.1 C j E) i u;rw[LQ] at d⊢;rcases d with d |d
 ·exact .inl d
 cases w:rs[i]? with
 |none=>exact .inr (Lm _ _▸⟨d,rfl⟩)
 |some a=>
  cases A:rs[j]? with
  |none=>exact .inr (Lm _ _▸⟨d,rfl⟩)
  |some b=>
   have F:=N3.1 u;rcases l with l |l
   ·have G:=LP.1 l a (Ly w);have H:=LP.1 l b (Ly A);exact .inr (Lm _ _▸⟨d,by simp[iO (a:=a) (b:=b) (by rw[G,H];rfl)]⟩)
   rcases iP (aQ l j b A) i a (by rw[Ny,Nh,if_pos F];exact w) with h5 |h5
   ·exact .inr (Lm _ _▸⟨d,by simp[h5]⟩)
   rw[Ny] at h5;exact .inl (by simpa using h5)
inductive It where
 |c (x:Code)
 |blk (n:Nat)
 |lp (X:St->Prop)
section
variable (P:Program)(tab:Nat->TI)
def WT (ops:Array Oper)(nx0:Nat)(K:St->Prop):Nat->List Oper->St->Prop
 |_,[],s=>K s
 |i,o::r,s=>Gc ops o s (JL P tab o.op (nx0+i) s fun v hp nx=>WT ops nx0 K (i+1) r ⟨CM o.dst v s.fr,hp,nx⟩) (WT ops nx0 K (i+1) r ⟨CM o.dst (.tu []) s.fr,s.hp,s.nx⟩)
def W2:Code->(Ex->St->Prop)->St->Prop
 | .skip,Q,s=>Q .normal s
 | .label _,Q,s=>Q .normal s
 | .ret,Q,s=>Q .ret s
 | .exit n,Q,s=>Q (.exit n) s
 | .seq a b,Q,s=>W2 a (fun e d=>match e with | .normal=>W2 b Q d |e=>Q e d) s
 | .cond c a b,Q,s=>match ev s.fr c with
  | .v (.bool t)=>(t=true->W2 a Q s)/\(t=false->W2 b Q s)
  |_=>False
 | .block n a,Q,s=>W2 a (fun e d=>match e with | .exit m=>if m=n then Q .normal d else Q (.exit m) d |e=>Q e d) s
 | .region _ ops w,Q,s=>match w with
  |false=>WT P tab ops s.nx (Q .normal) 0 ops.toList ⟨s.fr,s.hp,s.nx+ops.size⟩
  |true=>WD P tab ops s.nx (Q .normal) (s.nx+ops.size) 0 ops.toList [] s.fr s.hp
 | .loop a,Q,s=>∀X:St->Prop,(∀h,W2 a (fun e d=>match e with | .normal=>X d |e=>Q e d) h->X h)->(∀l u,CE s.nx l u->X l->X u)->X s
 |_,_,_=>False
end
section
variable {P:Program}{tab:Nat->TI}
theorem Ji {ops:Array Oper}{nx0:Nat}{K:St->Prop}:∀(r:List Oper) (i:Nat) (s:St),(∀k,r[k]? =ops[i+k]?)->WT P tab ops nx0 K i r s->WL P tab ops nx0 K (List.range' i r.length) s
 |[],i,s,_,h=>h
 |o::r,i,s,d,h=>by
  have u:ops[i]? =some o:=by simpa using(d 0).symm
  have l:∀k,r[k]? =ops[i+1+k]? :=fun k=>by have:=d (k+1);simpa [Nv,BN 1 k] using this
  rw[Ll,List.range'_succ];unfold WL;rw[u];exact XF h (fun h=>Z9 h fun _ _ _ h=>Ji r (i+1) _ l h) fun h=>Ji r (i+1) _ l h
theorem SP {ops:Array Oper}{nx0:Nat}{K A:St->Prop}(l:∀s,K s->A s):∀(r:List Oper) (nx i:Nat) (acc:List C7) (fr:Fr) (hp:Hp),WD P tab ops nx0 K nx i r acc fr hp->WD P tab ops nx0 A nx i r acc fr hp
 |[],nx,i,acc,fr,hp,h=>⟨h.1,l _ h.2⟩
 |o::r,nx,i,acc,fr,hp,h=>by
  unfold WD at *;refine XF h (fun h=> ?_) fun h=>SP l r _ _ _ _ _ h;unfold HV at *;split at h
  ·split at h
   ·rcases h with⟨ds,b,is,d,B,u,w,C,E⟩ |⟨ids,v,δ,F,u,w⟩
    ·exact .inl ⟨ds,b,is,d,B,u,w,C,SP l r _ _ _ _ _ E⟩
    exact .inr ⟨ids,v,δ,F,u,SP l r _ _ _ _ _ w⟩
   exact h.elim
  split at h
  ·exact SP l r _ _ _ _ _ h
  exact h.elim
theorem iQ (x:Operand)(y z:Code)(Q:Ex->St->Prop)(s:St):W2 P tab (.cond x y z) Q s=(match ev s.fr x with | .v (.bool t)=>(t=true->W2 P tab y Q s)/\(t=false->W2 P tab z Q s) |_=>False):=rfl
theorem Ky:∀(w:Code) (Q u:Ex->St->Prop) (s:St),(∀e s,Q e s->u e s)->W2 P tab w Q s->W P tab w u s:=by
 intro w;induction w with
 |region id ops C=>
  intro Q u s d h;cases C with
  |false=>
   have:=Ji ops.toList 0 _ (by simp) (show WT P tab ops s.nx (Q .normal) 0 ops.toList ⟨s.fr,s.hp,s.nx+ops.size⟩ from h);rw[NM,<-List.range_eq_range'] at this;exact XG (fun s h=>d _ s h) _ _ this
  |true=>exact QF (id:=id) (Q:=u) (SP (fun s h=>d _ s h) _ _ _ _ _ _ h)
 |seq x y E A=>
  intro Q u s d h;refine E _ _ s (fun e s h=> ?_) h;cases e with |normal=>exact A _ _ s d h |ret=>exact d _ s h |exit n=>exact d _ s h
 |cond x y z A F=>
  intro Q u s d h;rw[iQ] at h;rw[QB];split at h
  ·rename_i t e;simp only[e];exact⟨fun e=>A _ _ s d (h.1 e),fun e=>F _ _ s d (h.2 e)⟩
  ·exact h.elim
 |block n x B=>
  intro Q u s d h;refine B _ _ s (fun e s h=> ?_) h;cases e with
  |normal=>exact d _ s h
  |ret=>exact d _ s h
  |exit m=>
   simp only at h⊢;split
   ·rename_i e;rw[if_pos e] at h;exact d _ s h
   ·rename_i e;rw[if_neg e] at h;exact d _ s h
 |loop x B=>
  intro Q u s d h X G H;refine h X (fun s h=>G s (B _ _ s (fun e s h=> ?_) h)) H;cases e with |normal=>exact h |ret=>exact d _ s h |exit n=>exact d _ s h
 |skip=>exact fun Q u s d h=>d _ s h
 |label l=>exact fun Q u s d h=>d _ s h
 |ret=>exact fun Q u s d h=>d _ s h
 |exit n=>exact fun Q u s d h=>d _ s h
 |_=>exact fun Q u s d h=>h.elim
theorem sB:∀(B:Code) (Q u:Ex->St->Prop) (s:St),(∀e s,Q e s->u e s)->W2 P tab B Q s->W2 P tab B u s:=by
 intro B;induction B with
 |region id ops E=>
  intro Q u s d h;cases E with
  |false=>
   have:∀(r:List Oper) (i:Nat) (A:St),WT P tab ops s.nx (Q .normal) i r A->WT P tab ops s.nx (u .normal) i r A:=by
    intro r;induction r with
    |nil=>exact fun i A h=>d _ A h
    |cons o r w=>exact fun i A h=>XF h (fun h=>Z9 h fun _ _ _ h=>w _ _ h) fun h=>w _ _ h
   exact this _ _ _ h
  |true=>exact SP (fun s h=>d _ s h) _ _ _ _ _ _ h
 |seq x y F C=>
  intro Q u s d h;refine F _ _ s (fun e s h=> ?_) h;cases e with |normal=>exact C _ _ s d h |ret=>exact d _ s h |exit n=>exact d _ s h
 |cond x y z C G=>
  intro Q u s d h;rw[iQ] at h⊢;split at h
  ·exact⟨fun e=>C _ _ s d (h.1 e),fun e=>G _ _ s d (h.2 e)⟩
  ·exact h.elim
 |block n x w=>
  intro Q u s d h;refine w _ _ s (fun e s h=> ?_) h;cases e with
  |normal=>exact d _ s h
  |ret=>exact d _ s h
  |exit m=>
   simp only at h⊢;split
   ·rename_i e;rw[if_pos e] at h;exact d _ s h
   ·rename_i e;rw[if_neg e] at h;exact d _ s h
 |loop x w=>
  intro Q u s d h X H I;refine h X (fun s h=>H s (w _ _ s (fun e s h=> ?_) h)) I;cases e with |normal=>exact h |ret=>exact d _ s h |exit n=>exact d _ s h
 |skip=>exact fun Q u s d h=>d _ s h
 |label l=>exact fun Q u s d h=>d _ s h
 |ret=>exact fun Q u s d h=>d _ s h
 |exit n=>exact fun Q u s d h=>d _ s h
 |_=>exact fun Q u s d h=>h.elim
end
section
variable (P:Program)(tab:Nat->TI)
def C0:List It->(Ex->St->Prop)->Ex->St->Prop
 |[],Q,e,s=>Q e s
 | .c x::k,Q,e,s=>match e with
  | .normal=>W2 P tab x (C0 k Q) s
  | .ret=>C0 k Q .ret s
  | .exit m=>C0 k Q (.exit m) s
 | .blk n::k,Q,e,s=>match e with
  | .normal=>C0 k Q .normal s
  | .ret=>C0 k Q .ret s
  | .exit m=>if m=n then C0 k Q .normal s else C0 k Q (.exit m) s
 | .lp X::k,Q,e,s=>match e with
  | .normal=>X s
  | .ret=>C0 k Q .ret s
  | .exit m=>C0 k Q (.exit m) s
def run (k:List It)(Q:Ex->St->Prop)(s:St):Prop:=C0 P tab k Q .normal s
def Rt (ops:Array Oper)(nx0:Nat)(k:List It)(Q:Ex->St->Prop)(i:Nat)(r:List Oper)(s:St):Prop:=WT P tab ops nx0 (fun s=>run P tab k Q s) i r s
def Rd (ops:Array Oper)(nx0 nx:Nat)(k:List It)(Q:Ex->St->Prop)(i:Nat)(r:List Oper)(acc:List C7)(fr:Fr)(hp:Hp):Prop:=WD P tab ops nx0 (fun s=>run P tab k Q s) nx i r acc fr hp
def FR (ops:Array Oper)(nx0:Nat)(k:List It)(Q:Ex->St->Prop)(i:Nat)(r:List Oper)(dst:Option Nat)(s:St)(x:Option (AV × List (Nat × AO))):Prop:=
 match x with
 |some (v,δ)=>Rt P tab ops nx0 k Q i r ⟨CM dst v s.fr,CL δ s.hp,s.nx⟩
 |none=>False
def Fb (ops:Array Oper)(nx0 nx:Nat)(k:List It)(Q:Ex->St->Prop)(i:Nat)(r:List Oper)(dst:Option Nat)(acc:List C7)(ids:List Nat)(fr:Fr)(hp:Hp)(x:Option (AV × List (Nat × AO))):Prop:=
 match x with
 |some (v,δ)=>Rd P tab ops nx0 nx k Q i r (⟨ids,δ.map (·.1),false⟩::acc) (CM dst v fr) (CL δ hp)
 |none=>False
def KK (ops:Array Oper)(nx0:Nat)(k:List It)(Q:Ex->St->Prop)(i:Nat)(r:List Oper)(dst:Option Nat)(s:St)(f:AV)(vs:List AV):Prop:=Mm P f vs s.hp s.nx fun v hp nx=>Rt P tab ops nx0 k Q i r ⟨CM dst v s.fr,hp,nx⟩
def Kz (ops:Array Oper)(nx0 nx:Nat)(k:List It)(Q:Ex->St->Prop)(i:Nat)(r:List Oper)(dst:Option Nat)(acc:List C7)(ids:List Nat)(fr:Fr)(hp:Hp)(f:AV)(vs:List AV):Prop:=
 match f with
 | .fn g caps=>(∃ds b is d h,C8 hp (vs++caps)=some (ds,b,is)/\AM P g ds d h/\(is= []\/h=true)/\Rd P tab ops nx0 nx k Q i r (⟨ids,[],false⟩::acc) (CM dst (CI (!h&&b) d) fr) hp)\/
  ∃ids v δ l,UJ P g (vs++caps) hp nx ids v δ l/\Rd P tab ops nx0 l k Q i r (⟨ids,δ.map (·.1),true⟩::acc) (CM dst v fr) (CL δ hp)
 |_=>False
def DS (ops:Array Oper)(nx0:Nat)(k:List It)(Q:Ex->St->Prop)(i:Nat)(r:List Oper)(dst:Option Nat)(s:St)(op:Op):Prop:=
 match op with
 | .call { callee:=.value f,args, .. }=>KK P tab ops nx0 k Q (i+1) r dst s (ev s.fr f) (args.toList.map (ev s.fr))
 |op=>FR P tab ops nx0 k Q (i+1) r dst s (Cc tab (ev s.fr) s.hp (nx0+i) op)
def FK (ops:Array Oper)(nx0 nx:Nat)(k:List It)(Q:Ex->St->Prop)(i:Nat)(r:List Oper)(dst:Option Nat)(acc:List C7)(fr:Fr)(hp:Hp)(op:Op):Prop:=
 match op with
 | .call { callee:=.value f,args, .. }=>Kz P tab ops nx0 nx k Q (i+1) r dst acc (C4 (ev fr) op) fr hp (ev fr f) (args.toList.map (ev fr))
 |op=>Fb P tab ops nx0 nx k Q (i+1) r dst acc (C4 (ev fr) op) fr hp (Cc tab (ev fr) hp (nx0+i) op)
def UL (ops:Array Oper)(nx0:Nat)(k:List It)(Q:Ex->St->Prop)(i:Nat)(r:List Oper)(dst:Option Nat)(s:St)(op:Op)(t:Bool)(v:AV):Prop:=
 match v with
 | .v (.bool b)=>(b=t->DS P tab ops nx0 k Q i r dst s op)/\(b= !t->Rt P tab ops nx0 k Q (i+1) r ⟨CM dst (.tu []) s.fr,s.hp,s.nx⟩)
 | .tu []=>Rt P tab ops nx0 k Q (i+1) r ⟨CM dst (.tu []) s.fr,s.hp,s.nx⟩
 |_=>False
def Jj (ops:Array Oper)(nx0 nx:Nat)(k:List It)(Q:Ex->St->Prop)(i:Nat)(r:List Oper)(dst:Option Nat)(acc:List C7)(fr:Fr)(hp:Hp)(op:Op)(t:Bool)(v:AV):Prop:=
 match v with
 | .v (.bool b)=>(b=t->FK P tab ops nx0 nx k Q i r dst acc fr hp op)/\(b= !t->Rd P tab ops nx0 nx k Q (i+1) r (⟨[],[],false⟩::acc) (CM dst (.tu []) fr) hp)
 | .tu []=>Rd P tab ops nx0 nx k Q (i+1) r (⟨[],[],false⟩::acc) (CM dst (.tu []) fr) hp
 |_=>False
def SQ (a b:Code)(k:List It)(Q:Ex->St->Prop)(s:St)(v:AV):Prop:=
 match v with
 | .v (.bool t)=>(t=true->run P tab (.c a::k) Q s)/\(t=false->run P tab (.c b::k) Q s)
 |_=>False
end
section
variable {P:Program}{tab:Nat->TI}{ops:Array Oper}{nx0 nx i n m id:Nat}{k:List It}{Q:Ex->St->Prop}{r:List Oper}{s:St}{dst:Option Nat}{acc:List C7}{fr:Fr}{hp:Hp}{op:Op}{T:TypeId}{pos:String}{after:Array Edge}{a b:Code}{x:Operand}{t:Bool}{ids:List Nat}{v:AV}{δ:List (Nat × AO)}
theorem sC:run P tab (.c (.seq a b)::k) Q s=run P tab (.c a:: .c b::k) Q s:=by
 have e:(fun e d=>match e with | .normal=>W2 P tab b (C0 P tab k Q) d |e=>C0 P tab k Q e d)=C0 P tab (.c b::k) Q:=by
  funext e d;cases e<;>rfl
 show W2 P tab a _ s=W2 P tab a _ s;rw[e]
theorem sD:run P tab (.c (.block n a)::k) Q s=run P tab (.c a:: .blk n::k) Q s:=by
 have e:(fun e d=>match e with | .exit m=>if m=n then C0 P tab k Q .normal d else C0 P tab k Q (.exit m) d |e=>C0 P tab k Q e d)=C0 P tab (.blk n::k) Q:=by
  funext e d;cases e<;>rfl
 show W2 P tab a _ s=W2 P tab a _ s;rw[e]
theorem sE:run P tab (.c .skip::k) Q s=run P tab k Q s:=rfl
theorem sF:run P tab (.blk n::k) Q s=run P tab k Q s:=rfl
theorem sG:run P tab [] Q s=Q .normal s:=rfl
theorem QG {X:St->Prop}:run P tab (.lp X::k) Q s=X s:=rfl
theorem UM:∀(k:List It),C0 P tab k Q .ret s=Q .ret s
 |[]=>rfl
 | .c _::k=>UM k
 | .blk _::k=>UM k
 | .lp _::k=>UM k
theorem sH:run P tab (.c .ret::k) Q s=Q .ret s:=UM k
theorem sI:run P tab (.c (.exit m)::k) Q s=C0 P tab k Q (.exit m) s:=rfl
theorem QH:C0 P tab (.c a::k) Q (.exit m) s=C0 P tab k Q (.exit m) s:=rfl
theorem sJ {X:St->Prop}:C0 P tab (.lp X::k) Q (.exit m) s=C0 P tab k Q (.exit m) s:=rfl
theorem sK:C0 P tab (.blk n::k) Q (.exit m) s=if m=n then run P tab k Q s else C0 P tab k Q (.exit m) s:=rfl
theorem sL:run P tab (.c (.cond x a b)::k) Q s=SQ P tab a b k Q s (ev s.fr x):=rfl
theorem sM:SQ P tab a b k Q s (.v (.bool true))=run P tab (.c a::k) Q s:=by simp[SQ]
theorem sN:SQ P tab a b k Q s (.v (.bool false))=run P tab (.c b::k) Q s:=by simp[SQ]
theorem XM {c:Bool}(d:c=true->run P tab (.c a::k) Q s)(h:c=false->run P tab (.c b::k) Q s):SQ P tab a b k Q s (.v (.bool c)):=⟨d,h⟩
theorem sO:run P tab (.c (.region id ops false)::k) Q s=Rt P tab ops s.nx k Q 0 ops.toList ⟨s.fr,s.hp,s.nx+ops.size⟩:=rfl
theorem sP:run P tab (.c (.region id ops true)::k) Q s=Rd P tab ops s.nx (s.nx+ops.size) k Q 0 ops.toList [] s.fr s.hp:=rfl
theorem QI:Rt P tab ops nx0 k Q i [] s=run P tab k Q s:=rfl
theorem UN:Rt P tab ops nx0 k Q i (⟨dst,op,T,pos,after,none⟩::r) s=DS P tab ops nx0 k Q i r dst s op:=by
 cases op with
 |call c=>have⟨d,h,l⟩:=c;cases d<;>rfl
 |_=>rfl
theorem UO:Rd P tab ops nx0 nx k Q i (⟨dst,op,T,pos,after,none⟩::r) acc fr hp=FK P tab ops nx0 nx k Q i r dst acc fr hp op:=by
 cases op with
 |call c=>have⟨d,h,l⟩:=c;cases d<;>rfl
 |_=>rfl
theorem sQ {f:Operand}{d:Array Operand}{h:Array TypeId}:DS P tab ops nx0 k Q i r dst s (.call { callee:=.value f,args:=d,argTypes:=h })=KK P tab ops nx0 k Q (i+1) r dst s (ev s.fr f) (d.toList.map (ev s.fr)):=rfl
theorem sR {f:Operand}{d:Array Operand}{h:Array TypeId}:FK P tab ops nx0 nx k Q i r dst acc fr hp (.call { callee:=.value f,args:=d,argTypes:=h })=Kz P tab ops nx0 nx k Q (i+1) r dst acc (C4 (ev fr) (.call { callee:=.value f,args:=d,argTypes:=h })) fr hp (ev fr f) (d.toList.map (ev fr)):=rfl
theorem sS:FR P tab ops nx0 k Q i r dst s (some (v,δ))=Rt P tab ops nx0 k Q i r ⟨CM dst v s.fr,CL δ s.hp,s.nx⟩:=rfl
theorem sT:Fb P tab ops nx0 nx k Q i r dst acc ids fr hp (some (v,δ))=Rd P tab ops nx0 nx k Q i r (⟨ids,δ.map (·.1),false⟩::acc) (CM dst v fr) (CL δ hp):=rfl
theorem sU {j d:Nat}(h:(ops[j]?).bind (·.dst)=some d):Rt P tab ops nx0 k Q i (⟨dst,op,T,pos,after,some (j,t)⟩::r) s=UL P tab ops nx0 k Q i r dst s op t (s.fr d):=by
 unfold Rt WT Gc UL;simp only[h];cases op with
 |call c=>have⟨l,u,w⟩:=c;cases l<;>rfl
 |_=>rfl
theorem sV {j d:Nat}(h:(ops[j]?).bind (·.dst)=some d):Rd P tab ops nx0 nx k Q i (⟨dst,op,T,pos,after,some (j,t)⟩::r) acc fr hp=Jj P tab ops nx0 nx k Q i r dst acc fr hp op t (fr d):=by
 unfold Rd WD Gc Jj;simp only[h];cases op with
 |call c=>have⟨l,u,w⟩:=c;cases l<;>rfl
 |_=>rfl
theorem UP {b:Bool}{d:D}{f:Bool}(l:C8 s.hp (vs++caps)=some (ds,b,is))(u:AM P g ds d f)(w:is= []\/f=true)(h:Rt P tab ops nx0 k Q i r ⟨CM dst (CI (!f&&b) d) s.fr,s.hp,s.nx⟩):
  KK P tab ops nx0 k Q i r dst s (.fn g caps) vs:=.inl ⟨ds,b,is,d,f,l,u,w,h⟩
theorem CO (h:AT P g (vs++caps) s.hp s.nx fun v hp nx=>Rt P tab ops nx0 k Q i r ⟨CM dst v s.fr,hp,nx⟩):KK P tab ops nx0 k Q i r dst s (.fn g caps) vs:=.inr h
theorem XN {b:Bool}{d:D}{f:Bool}(l:C8 hp (vs++caps)=some (ds,b,is))(u:AM P g ds d f)(w:is= []\/f=true)(h:Rd P tab ops nx0 nx k Q i r (⟨ids,[],false⟩::acc) (CM dst (CI (!f&&b) d) fr) hp):
  Kz P tab ops nx0 nx k Q i r dst acc ids fr hp (.fn g caps) vs:=.inl ⟨ds,b,is,d,f,l,u,w,h⟩
theorem IP {ids':List Nat}{v:AV}{δ:List (Nat × AO)}{nx':Nat}(d:UJ P g (vs++caps) hp nx ids' v δ nx')(h:Rd P tab ops nx0 nx' k Q i r (⟨ids',δ.map (·.1),true⟩::acc) (CM dst v fr) (CL δ hp)):
  Kz P tab ops nx0 nx k Q i r dst acc ids fr hp (.fn g caps) vs:=.inr ⟨ids',v,δ,nx',d,h⟩
theorem aR (d:Gz ops acc.reverse=true)(h:run P tab k Q ⟨fr,hp,nx⟩):Rd P tab ops nx0 nx k Q i [] acc fr hp:=⟨d,h⟩
theorem XO {α:Type}(l:α->St)(u:α->Nat)(x0:α)(B:IL (l x0) s)(C:∀x,run P tab [.c a,.lp fun w=>∃d,IL (l d) w/\u d<u x] (C0 P tab k Q) (l x)):run P tab (.c (.loop a)::k) Q s:=by
 show ∀X:St->Prop,_->_->X s;intro X E A;have F:∀n x,u x=n->X (l x):=by
  intro n;induction n using Nat.strongRecOn with
  |_ n G=>
   intro x I;refine E _ (sB a _ _ _ (fun e w h=> ?_) (C x));cases e with
   |normal=>
    have⟨d,H,J⟩:=h;exact A _ _ (.weak H) (G (u d) (by omega) d rfl)
   |ret=>exact h
   |exit n=>exact h
 exact A _ _ (.weak B) (F _ x0 rfl)
theorem KL (l:Ad P tab)(u:P.follows .mixedOrders=true){f:FuncId}{fn:Func}{d:Code}(w:P.funcs[f]? =some fn)(A:fn.body=some d)(B:(fn.name== "runtime.NumGoroutine")=false)(C:Du fn.ntmps d=true){nx:Nat}{R:AV->Hp->Nat->Prop}
  (E:vs.length<=fn.ntmps) (h:run P tab [.c d] (DX tab fn.results R) ⟨D0 vs,hp,nx⟩):AT P f vs hp nx R:=
 rV l u w A B C E (Ky d _ _ _ (fun _ _ h=>h) h)
theorem XP (w:Ad P tab)(A:P.follows .mixedOrders=true){f:FuncId}{fn:Func}{l:Code}(B:P.funcs[f]? =some fn)(C:fn.body=some l)(E:(fn.name== "runtime.NumGoroutine")=false)(F:Du fn.ntmps l=true){d:D}{u:Bool}
  (G:ds.length<=fn.ntmps) (h:run P tab [.c l] (DX tab fn.results (Fk d u)) ⟨D0 (ds.map (CI true)),AK,0⟩):AM P f ds d u:=
 Z8 (KL w A B C E F (by simpa using G) h)
end
end
section
open Go.RowKit
section
variable {P:Program}{tab:Nat->TI}{ops:Array Oper}{nx0 nx i:Nat}{k:List It}{Q:Ex->St->Prop}{r:List Oper}{s:St}{dst:Option Nat}{acc:List C7}{fr:Fr}{hp:Hp}
@[go_sem] theorem SR (x:Operand):DS P tab ops nx0 k Q i r dst s (.move x)=FR P tab ops nx0 k Q (i+1) r dst s (Cc tab (ev s.fr) s.hp (nx0+i) (.move x)):=rfl
@[go_sem] theorem zp (x:Operand):FK P tab ops nx0 nx k Q i r dst acc fr hp (.move x)=Fb P tab ops nx0 nx k Q (i+1) r dst acc (C4 (ev fr) (.move x)) fr hp (Cc tab (ev fr) hp (nx0+i) (.move x)):=rfl
@[go_sem] theorem zt (x:Operand):DS P tab ops nx0 k Q i r dst s (.assign x)=FR P tab ops nx0 k Q (i+1) r dst s (Cc tab (ev s.fr) s.hp (nx0+i) (.assign x)):=rfl
@[go_sem] theorem zu (x:Operand):FK P tab ops nx0 nx k Q i r dst acc fr hp (.assign x)=Fb P tab ops nx0 nx k Q (i+1) r dst acc (C4 (ev fr) (.assign x)) fr hp (Cc tab (ev fr) hp (nx0+i) (.assign x)):=rfl
@[go_sem] theorem SS (x y z:Operand):DS P tab ops nx0 k Q i r dst s (.pick x y z)=FR P tab ops nx0 k Q (i+1) r dst s (Cc tab (ev s.fr) s.hp (nx0+i) (.pick x y z)):=rfl
@[go_sem] theorem zv (x y z:Operand):FK P tab ops nx0 nx k Q i r dst acc fr hp (.pick x y z)=Fb P tab ops nx0 nx k Q (i+1) r dst acc (C4 (ev fr) (.pick x y z)) fr hp (Cc tab (ev fr) hp (nx0+i) (.pick x y z)):=rfl
@[go_sem] theorem oG_ (A:TypeId):DS P tab ops nx0 k Q i r dst s (.alloc A)=FR P tab ops nx0 k Q (i+1) r dst s (Cc tab (ev s.fr) s.hp (nx0+i) (.alloc A)):=rfl
@[go_sem] theorem ld_ (A:TypeId):FK P tab ops nx0 nx k Q i r dst acc fr hp (.alloc A)=Fb P tab ops nx0 nx k Q (i+1) r dst acc (C4 (ev fr) (.alloc A)) fr hp (Cc tab (ev fr) hp (nx0+i) (.alloc A)):=rfl
@[go_sem] theorem UQ (A:TypeId)(x:Operand):DS P tab ops nx0 k Q i r dst s (.box A x)=FR P tab ops nx0 k Q (i+1) r dst s (Cc tab (ev s.fr) s.hp (nx0+i) (.box A x)):=rfl
@[go_sem] theorem SU (A:TypeId)(x:Operand):FK P tab ops nx0 nx k Q i r dst acc fr hp (.box A x)=Fb P tab ops nx0 nx k Q (i+1) r dst acc (C4 (ev fr) (.box A x)) fr hp (Cc tab (ev fr) hp (nx0+i) (.box A x)):=rfl
@[go_sem] theorem oH_ (A:TypeId)(d:Array (Nat × Operand)):DS P tab ops nx0 k Q i r dst s (.build A d)=FR P tab ops nx0 k Q (i+1) r dst s (Cc tab (ev s.fr) s.hp (nx0+i) (.build A d)):=rfl
@[go_sem] theorem le_ (A:TypeId)(d:Array (Nat × Operand)):FK P tab ops nx0 nx k Q i r dst acc fr hp (.build A d)=Fb P tab ops nx0 nx k Q (i+1) r dst acc (C4 (ev fr) (.build A d)) fr hp (Cc tab (ev fr) hp (nx0+i) (.build A d)):=rfl
@[go_sem] theorem s3_ (A:TypeId)(c:Nat)(d:Array (Nat × Operand)):DS P tab ops nx0 k Q i r dst s (.buildSlice A c d)=FR P tab ops nx0 k Q (i+1) r dst s (Cc tab (ev s.fr) s.hp (nx0+i) (.buildSlice A c d)):=rfl
@[go_sem] theorem sp_ (A:TypeId)(c:Nat)(d:Array (Nat × Operand)):FK P tab ops nx0 nx k Q i r dst acc fr hp (.buildSlice A c d)=Fb P tab ops nx0 nx k Q (i+1) r dst acc (C4 (ev fr) (.buildSlice A c d)) fr hp (Cc tab (ev fr) hp (nx0+i) (.buildSlice A c d)):=rfl
@[go_sem] theorem SV (A:TypeId)(x:Operand):DS P tab ops nx0 k Q i r dst s (.load A x)=FR P tab ops nx0 k Q (i+1) r dst s (Cc tab (ev s.fr) s.hp (nx0+i) (.load A x)):=rfl
@[go_sem] theorem oI_ (A:TypeId)(x:Operand):FK P tab ops nx0 nx k Q i r dst acc fr hp (.load A x)=Fb P tab ops nx0 nx k Q (i+1) r dst acc (C4 (ev fr) (.load A x)) fr hp (Cc tab (ev fr) hp (nx0+i) (.load A x)):=rfl
@[go_sem] theorem oJ_ (A:TypeId)(x y:Operand):DS P tab ops nx0 k Q i r dst s (.store A x y)=FR P tab ops nx0 k Q (i+1) r dst s (Cc tab (ev s.fr) s.hp (nx0+i) (.store A x y)):=rfl
@[go_sem] theorem lf_ (A:TypeId)(x y:Operand):FK P tab ops nx0 nx k Q i r dst acc fr hp (.store A x y)=Fb P tab ops nx0 nx k Q (i+1) r dst acc (C4 (ev fr) (.store A x y)) fr hp (Cc tab (ev fr) hp (nx0+i) (.store A x y)):=rfl
@[go_sem] theorem aV_ (x:Operand):DS P tab ops nx0 k Q i r dst s (.nilCheck x)=FR P tab ops nx0 k Q (i+1) r dst s (Cc tab (ev s.fr) s.hp (nx0+i) (.nilCheck x)):=rfl
@[go_sem] theorem ao_ (x:Operand):FK P tab ops nx0 nx k Q i r dst acc fr hp (.nilCheck x)=Fb P tab ops nx0 nx k Q (i+1) r dst acc (C4 (ev fr) (.nilCheck x)) fr hp (Cc tab (ev fr) hp (nx0+i) (.nilCheck x)):=rfl
@[go_sem] theorem oK_ (o:BinOp)(A B:TypeId)(x y:Operand):DS P tab ops nx0 k Q i r dst s (.binOp o A x y B)=FR P tab ops nx0 k Q (i+1) r dst s (Cc tab (ev s.fr) s.hp (nx0+i) (.binOp o A x y B)):=rfl
@[go_sem] theorem lg_ (o:BinOp)(A B:TypeId)(x y:Operand):FK P tab ops nx0 nx k Q i r dst acc fr hp (.binOp o A x y B)=Fb P tab ops nx0 nx k Q (i+1) r dst acc (C4 (ev fr) (.binOp o A x y B)) fr hp (Cc tab (ev fr) hp (nx0+i) (.binOp o A x y B)):=rfl
@[go_sem] theorem SW (o:UnOp)(A:TypeId)(x:Operand):DS P tab ops nx0 k Q i r dst s (.unOp o A x)=FR P tab ops nx0 k Q (i+1) r dst s (Cc tab (ev s.fr) s.hp (nx0+i) (.unOp o A x)):=rfl
@[go_sem] theorem oL_ (o:UnOp)(A:TypeId)(x:Operand):FK P tab ops nx0 nx k Q i r dst acc fr hp (.unOp o A x)=Fb P tab ops nx0 nx k Q (i+1) r dst acc (C4 (ev fr) (.unOp o A x)) fr hp (Cc tab (ev fr) hp (nx0+i) (.unOp o A x)):=rfl
@[go_sem] theorem ia_ (A B:TypeId)(x:Operand):DS P tab ops nx0 k Q i r dst s (.convert A B x)=FR P tab ops nx0 k Q (i+1) r dst s (Cc tab (ev s.fr) s.hp (nx0+i) (.convert A B x)):=rfl
@[go_sem] theorem ap_ (A:TypeId)(x:Operand)(f:Nat):DS P tab ops nx0 k Q i r dst s (.fieldAddr A x f)=FR P tab ops nx0 k Q (i+1) r dst s (Cc tab (ev s.fr) s.hp (nx0+i) (.fieldAddr A x f)):=rfl
@[go_sem] theorem s4_ (A:TypeId)(x:Operand)(f:Nat):FK P tab ops nx0 nx k Q i r dst acc fr hp (.fieldAddr A x f)=Fb P tab ops nx0 nx k Q (i+1) r dst acc (C4 (ev fr) (.fieldAddr A x f)) fr hp (Cc tab (ev fr) hp (nx0+i) (.fieldAddr A x f)):=rfl
@[go_sem] theorem aq_ (A:TypeId)(x y:Operand):DS P tab ops nx0 k Q i r dst s (.indexAddr A x y)=FR P tab ops nx0 k Q (i+1) r dst s (Cc tab (ev s.fr) s.hp (nx0+i) (.indexAddr A x y)):=rfl
@[go_sem] theorem s5_ (A:TypeId)(x y:Operand):FK P tab ops nx0 nx k Q i r dst acc fr hp (.indexAddr A x y)=Fb P tab ops nx0 nx k Q (i+1) r dst acc (C4 (ev fr) (.indexAddr A x y)) fr hp (Cc tab (ev fr) hp (nx0+i) (.indexAddr A x y)):=rfl
@[go_sem] theorem oM_ (A:TypeId)(x y:Operand):DS P tab ops nx0 k Q i r dst s (.index A x y)=FR P tab ops nx0 k Q (i+1) r dst s (Cc tab (ev s.fr) s.hp (nx0+i) (.index A x y)):=rfl
@[go_sem] theorem oN_ (A:TypeId)(x:Operand)(l h m:Option Operand):DS P tab ops nx0 k Q i r dst s (.slice A x l h m)=FR P tab ops nx0 k Q (i+1) r dst s (Cc tab (ev s.fr) s.hp (nx0+i) (.slice A x l h m)):=rfl
@[go_sem] theorem lh_ (A:TypeId)(x:Operand)(l h m:Option Operand):FK P tab ops nx0 nx k Q i r dst acc fr hp (.slice A x l h m)=Fb P tab ops nx0 nx k Q (i+1) r dst acc (C4 (ev fr) (.slice A x l h m)) fr hp (Cc tab (ev fr) hp (nx0+i) (.slice A x l h m)):=rfl
@[go_sem] theorem ib_ (x:Operand)(f:Nat):DS P tab ops nx0 k Q i r dst s (.extract x f)=FR P tab ops nx0 k Q (i+1) r dst s (Cc tab (ev s.fr) s.hp (nx0+i) (.extract x f)):=rfl
@[go_sem] theorem aW_ (x:Operand)(f:Nat):FK P tab ops nx0 nx k Q i r dst acc fr hp (.extract x f)=Fb P tab ops nx0 nx k Q (i+1) r dst acc (C4 (ev fr) (.extract x f)) fr hp (Cc tab (ev fr) hp (nx0+i) (.extract x f)):=rfl
@[go_sem] theorem aX_ (f:Fn)(u w:Array Operand):DS P tab ops nx0 k Q i r dst s (.makeFunc f u w)=FR P tab ops nx0 k Q (i+1) r dst s (Cc tab (ev s.fr) s.hp (nx0+i) (.makeFunc f u w)):=rfl
@[go_sem] theorem ar_ (f:Fn)(u w:Array Operand):FK P tab ops nx0 nx k Q i r dst acc fr hp (.makeFunc f u w)=Fb P tab ops nx0 nx k Q (i+1) r dst acc (C4 (ev fr) (.makeFunc f u w)) fr hp (Cc tab (ev fr) hp (nx0+i) (.makeFunc f u w)):=rfl
@[go_sem] theorem ic_ (b:Builtin)(u:Array Operand)(w:Array TypeId):DS P tab ops nx0 k Q i r dst s (.call { callee:=.builtin b,args:=u,argTypes:=w })=FR P tab ops nx0 k Q (i+1) r dst s (Cc tab (ev s.fr) s.hp (nx0+i) (.call { callee:=.builtin b,args:=u,argTypes:=w })):=rfl
@[go_sem] theorem aY_ (b:Builtin)(u:Array Operand)(w:Array TypeId):FK P tab ops nx0 nx k Q i r dst acc fr hp (.call { callee:=.builtin b,args:=u,argTypes:=w })=Fb P tab ops nx0 nx k Q (i+1) r dst acc (C4 (ev fr) (.call { callee:=.builtin b,args:=u,argTypes:=w })) fr hp (Cc tab (ev fr) hp (nx0+i) (.call { callee:=.builtin b,args:=u,argTypes:=w })):=rfl
@[go_sem] theorem ie_ (A:TypeId)(x:Option Operand):DS P tab ops nx0 k Q i r dst s (.makeMap A x)=FR P tab ops nx0 k Q (i+1) r dst s (Cc tab (ev s.fr) s.hp (nx0+i) (.makeMap A x)):=rfl
@[go_sem] theorem li_ (A:TypeId)(x y:Operand)(c:Bool):DS P tab ops nx0 k Q i r dst s (.lookup A x y c)=FR P tab ops nx0 k Q (i+1) r dst s (Cc tab (ev s.fr) s.hp (nx0+i) (.lookup A x y c)):=rfl
@[go_sem] theorem if_ (A:TypeId)(x y:Operand)(c:Bool):FK P tab ops nx0 nx k Q i r dst acc fr hp (.lookup A x y c)=Fb P tab ops nx0 nx k Q (i+1) r dst acc (C4 (ev fr) (.lookup A x y c)) fr hp (Cc tab (ev fr) hp (nx0+i) (.lookup A x y c)):=rfl
@[go_sem] theorem s6_ (A:TypeId)(x y z:Operand):FK P tab ops nx0 nx k Q i r dst acc fr hp (.mapUpdate A x y z)=Fb P tab ops nx0 nx k Q (i+1) r dst acc (C4 (ev fr) (.mapUpdate A x y z)) fr hp (Cc tab (ev fr) hp (nx0+i) (.mapUpdate A x y z)):=rfl
theorem HW {α:Type}(k:Nat)(x:α)(f:Nat->α)(j:Nat):upd k x f j=if j=k then x else f j:=rfl
theorem sW (k:IntKind)(n:Int):KF (.int k n)= .v (.int k n):=rfl
theorem sX (b:Bool):KF (.bool b)= .v (.bool b):=rfl
theorem sY (b:ByteArray):KF (.string b)= .v (.string b):=rfl
theorem sZ:KF (.slice none 0 0)= .v (.slice none 0 0):=rfl
theorem sa:KF (.pointer none)= .v (.pointer none):=rfl
theorem QJ (b:Bool)(x:Value):CI b (.v x)= .v x:=rfl
theorem sb (b:Bool)(x:List (List D)):CI b (.sl x)= .d (.sl x) b:=rfl
theorem sd (b:Bool)(x:List D)(o:Nat):CI b (.pt x o)= .d (.pt x o) b:=rfl
theorem se (b:Bool)(x:List D):CI b (.ag x)= .d (.ag x) b:=rfl
theorem sg (b:Bool)(x:List D):CI b (.tu x)= .d (.tu x) b:=rfl
theorem QK (fr:Fr)(t:Nat):ev fr (.tmp t)=fr t:=rfl
theorem sj (fr:Fr)(x:Value):ev fr (.const x)=KF x:=rfl
theorem sk (fr:Fr)(f:Nat):ev fr (.func f)= .fn f []:=rfl
theorem sm (t:Nat)(v:AV)(fr:Fr):CM (some t) v fr=upd t v fr:=rfl
theorem sp (v:AV)(fr:Fr):CM none v fr=fr:=rfl
theorem sq (h:Hp):CL [] h=h:=rfl
theorem su (k:Nat)(o:AO)(r:List (Nat × AO))(h:Hp):CL ((k,o)::r) h=CL r (upd k (some o) h):=rfl
theorem sy (vs:List AV)(t:Nat):D0 vs t=vs.getD t (.tu []):=rfl
theorem tA (t:Nat):AK t=none:=rfl
theorem tB (k:IntKind)(n:Nat):EY (.v (.int k (n:Int)))=some n:=by simp[EY,Wx]
attribute [go_sem] sC sD sE sF sG QG sH sI QH sJ sK sL sM sN sO sP QI UN UO sQ sR sS sT C8 Dk Ni Ll LB Lh Lu Ns LA LU Bool.or_false OF NE BO OU O7 Og Bool.not_false Cc Jb Ku HW sW sX sY sZ sa QJ sb sd se sg QK sj sk sm sp sq su sy tA tB Mk GF Ja Ks
end
section
variable (hp:Hp)(b c:Bool)(x:List (List D))(y:List D)(o n i v:Nat)(k:IntKind)(z:Int)(s:ByteArray)(m:List (Value × Bool × List D))(cs:List AV)(f:FuncId)(p:Option Addr)(q:Option Nat)(e:Value)
@[go_sem] theorem UR (i:Nat):IG i []=true:=rfl
@[go_sem] theorem US:Ci hp (.v (.int k z))=some (.v (.int k z),false,[]):=rfl
@[go_sem] theorem SX:Ci hp (.v (.bool c))=some (.v (.bool c),false,[]):=rfl
@[go_sem] theorem UT:Ci hp (.v (.string s))=some (.v (.string s),false,[]):=rfl
@[go_sem] theorem UU:Ci hp (.v (.slice none 0 0))=some (.sl [],false,[]):=rfl
@[go_sem] theorem UV:Ci hp (.d (.sl x) b)=some (.sl x,b,[]):=rfl
@[go_sem] theorem UW:Ci hp (.d (.pt y o) b)=some (.pt y o,b,[]):=rfl
@[go_sem] theorem XQ:Ci hp (.so i v o n)=match hp i with |some (.rw es _ w br _)=>if w=v then some (.sl ((es.drop o).take n),br,[i]) else none |_=>none:=rfl
@[go_sem] theorem iR:FJ hp (.v e)=Ci hp (.v e):=rfl
@[go_sem] theorem XR:FJ hp (.d (.sl x) b)=some (.sl x,b,[]):=rfl
@[go_sem] theorem aS:FJ hp (.so i v o n)=Ci hp (.so i v o n):=rfl
@[go_sem] theorem aT:FJ hp (.ag cs)=(Dk hp cs).map fun(ds,b,i)=>(.ag ds,b,i):=rfl
@[go_sem] theorem XS:FJ hp (.d (.ag y) b)=some (.ag y,b&& !H0 y,[]):=rfl
@[go_sem] theorem XT:Gb hp (.d (.sl x) b)=some (x,b&& !H9 x,[]):=rfl
@[go_sem] theorem UX:Gb hp (.so i v o n)=match hp i with |some (.rw es _ w br _)=>if v=w then some ((es.drop o).take n,br,[i]) else none |_=>none:=rfl
@[go_sem] theorem UY:EB (.v e)=some [.v e]:=rfl
@[go_sem] theorem SY:EB (.ag cs)=some cs:=rfl
@[go_sem] theorem oO_:EB (.d (.ag y) b)=some (y.map (CI b)):=rfl
@[go_sem] theorem oP_:EB (.d (.sl x) b)=some [.d (.sl x) b]:=rfl
@[go_sem] theorem oQ_:EB (.d (.pt y o) b)=some [.d (.pt y o) b]:=rfl
@[go_sem] theorem SZ:EB (.pt i o)=some [.pt i o]:=rfl
@[go_sem] theorem Sa:EB (.so i v o n)=some [.so i v o n]:=rfl
@[go_sem] theorem Sb:EB (.mo i)=some [.mo i]:=rfl
@[go_sem] theorem aU:F2 (.v e)=none:=rfl
@[go_sem] theorem XU:F2 (.ag cs)=some cs:=rfl
@[go_sem] theorem UZ:F2 (.d (.ag y) b)=some (y.map (CI b)):=rfl
@[go_sem] theorem Sc:Mj (.pt i o)=true:=rfl
@[go_sem] theorem Ua:SC (.pt i o)=true:=rfl
@[go_sem] theorem Sd:SC (.d (.pt y o) b)=true:=rfl
@[go_sem] theorem XV:Kw (.v e)=true:=rfl
@[go_sem] theorem Se:Kw (.d (.sl x) b)=true:=rfl
@[go_sem] theorem Sf:Kw (.d (.pt y o) b)=true:=rfl
@[go_sem] theorem Ub:Kw (.pt i o)=true:=rfl
@[go_sem] theorem Uc:Kw (.so i v o n)=true:=rfl
@[go_sem] theorem iS:toR hp (.v e)=Ci hp (.v e):=rfl
@[go_sem] theorem aV:toR hp (.so i v o n)=Ci hp (.so i v o n):=rfl
@[go_sem] theorem aW:toR hp (.tu cs)=(C8 hp cs).map fun(ds,b,i)=>(.tu ds,b,i):=rfl
end
end
section
open Go.RowKit
def XW (P:Program):List Field->Option (List (Nat × Nat))
 |[]=>some []
 |f::r=>match P.info? f.type,XW P r with
  |some i,some l=>some ((f.offset,i.size)::l)
  |_,_=>none
theorem iT {P:Program}:∀ {d:List Field} {l:List (Nat × Nat)},XW P d=some l->d.length=l.length/\∀(i:Nat) (f:Field),d[i]? =some f->∃w,P.info? f.type=some w/\l[i]? =some (f.offset,w.size)
 |[],l,h=>by
  cases h;exact⟨rfl,fun i f h=>by simp at h⟩
 |f::r,l,h=>by
  unfold XW at h;split at h
  ·rename_i i E A B;cases h
   have:=iT B;refine⟨by simp[this.1],fun k C u=> ?_⟩;cases k with |zero=>simp only[Nc,Lg] at u;subst u;exact⟨i,A,rfl⟩ |succ k=>exact this.2 k C (by simpa using u)
  cases h
def Sg (P:Program):TypeDesc->Option (TK × Nat × List (Nat × Nat))
 | .slice e=>some (.slice,e,[])
 | .string=>some (.string,0,[])
 | .int k=>some (.int k,0,[])
 | .bool=>some (.bool,0,[])
 | .pointer e=>some (.ptr,e,[])
 | .map _ e=>some (.map,e,[])
 | .struct d=>(XW P d.toList).map fun l=>(.struct,0,l)
 | .array _ _=>none
 |_=>some (.other,0,[])
def Sh (d:Nat->Option (List TK)):Nat->List Field->Option (List TK)
 |_,[]=>some []
 |h,f::r=>if f.name≠ "_" /\f.offset=h then match d f.type with
  |some u=>match Sh d (h+u.length) r with
   |some l=>some (u++l)
   |none=>none
  |none=>none else none
def flatK (P:Program):Nat->Nat->Option (List TK)
 |0,_=>none
 |d+1,t=>match P.underlying t with
  |some .bool=>some [.bool]
  |some (.int k)=>some [.int k]
  |some .string=>some [.string]
  |some (.struct h)=>if P.stoodInHeld t=false/\P.eqGuardType P.depth t=false then match P.info? t,Sh (flatK P d) 0 h.toList with
   |some i,some l=>if i.size=l.length then some l else none
   |_,_=>none else none
  |_=>none
theorem iU:∀ {d l:List TK} {u w:List Value} {b:Bool},EP (d++l) u w=some b->∃A B,EP d (u.take d.length) (w.take d.length)=some A/\EP l (u.drop d.length) (w.drop d.length)=some B/\b=(A&&B)
 |[],l,u,w,b,h=>⟨true,b,by simp[EP],by simpa using h,by simp⟩
 |k::d,l,[],w,b,h=>by simp[EP] at h
 |k::d,l,x::u,[],b,h=>by simp[EP] at h
 |k::d,l,x::u,y::w,b,h=>by
  simp only[LU,EP] at h;split at h
  ·rename_i C J E F;have⟨A,B,G,H,I⟩:=iU F;refine⟨C&&A,B,by simp[EP,E,G],by simpa using H,?_⟩;cases h;rw[I,Ot]
  cases h
def aX (P:Program)(l:Nat)(t:Nat)(u:List TK):Prop:=∀(w:World) (d h:Array Value) (b:Bool),EP u d.toList h.toList=some b->(Op.equalIn l t (.agg d) (.agg h)).run P w= .ok b w
def aY (P:Program)(A:Nat)(t:Nat)(h:List TK):Prop:=∀(w:World) (l u:Array Value) (d:Nat) (b:Bool),EP h ((l.toList.drop d).take h.length) ((u.toList.drop d).take h.length)=some b->∃a c,(part t l d).run P w= .ok a w/\(part t u d).run P w= .ok c w/\(Op.equalIn A t a c).run P w= .ok b w
theorem QL {t:Nat}{d:TypeDesc}{y:Value}{b:Bool}(l:P.underlying t=some d)(u:(d= .bool/\k= .bool)\/(d= .string/\k= .string)\/∃q,d= .int q/\k= .int q)(h:GG k x y=some b)(A:Nat)(w:World):(Op.equalIn (A+1) t x y).run P w= .ok b w:=by
 rcases u with⟨rfl,rfl⟩ |⟨rfl,rfl⟩ |⟨q,rfl,rfl⟩<;>(unfold GG at h;split at h<;>simp_all [Op.equalIn,run_underlying l]<;>(have⟨⟨B,C⟩,E⟩:=h;subst B;subst C;simp))
theorem QM {xs:List Value}{d:Nat}{u:List Value}{b:Bool}(h:EP [k] ((xs.drop d).take 1) ((u.drop d).take 1)=some b):∃x y,xs[d]? =some x/\u[d]? =some y/\GG k x y=some b:=by
 have A:(xs.drop d).take 1=(xs[d]?).toList:=by
  cases e:xs[d]? with
  |none=>simp at e;simp[e]
  |some x=>rw[Lb] at e;have⟨l,w⟩:=e;rw[Lj l];simp[w]
 have B:(u.drop d).take 1=(u[d]?).toList:=by
  cases e:u[d]? with
  |none=>simp at e;simp[e]
  |some x=>rw[Lb] at e;have⟨l,w⟩:=e;rw[Lj l];simp[w]
 rw[A,B] at h;cases l:xs[d]? with
 |none=>rw[l] at h;simp[EP] at h
 |some x=>
  cases w:u[d]? with
  |none=>rw[l,w] at h;simp[EP] at h
  |some y=>
   rw[l,w] at h;simp only[Ig,EP] at h;split at h
   ·rename_i F G C E;cases E;cases h;exact⟨x,y,rfl,rfl,by simpa using C⟩
   cases h
theorem iV {P:Program}{F:Nat->Option (List TK)}{G:Nat}(H:∀t l,F t=some l->aY P G t l):∀(E:List Field) (d:Nat) (l:List TK),Sh F d E=some l->
  ∀(w:World) (A B:Array Value) (b:Bool),EP l (A.toList.drop d) (B.toList.drop d)=some b->(Op.eqFields G A B E).run P w= .ok b w
 |[],d,l,h,w,A,B,b,C=>by
  cases h
  have:b=true:=by
   generalize A.toList.drop d=u at C;generalize B.toList.drop d=v at C;cases u<;>cases v<;>simp[EP] at C;exact C
  subst this;simp[Op.eqFields]
 |f::E,d,l,h,w,A,B,b,C=>by
  unfold Sh at h;split at h
  ·rename_i I;split at h
   ·rename_i L M;split at h
    ·rename_i N O;cases h;obtain⟨J,R,S,K,rfl⟩:=iU C;have⟨a,c,U,V,X⟩:=H _ _ M w A B d J S;rw[OV,OV] at K;have Y:=iV H E (d+L.length) N O w A B R K;simp only[Op.eqFields,I.1,ne_eq,not_false_eq_true,if_true,I.2,Sem.run_bind,U,V,X,Result.andThen_ok];cases J
     ·simp
     simpa using Y
    cases h
   cases h
  cases h
theorem tC {d t:Nat}{u:List TK}(h:flatK P d t=some u):(∃l,P.underlying t=some (.struct l))->P.eqGuardType P.depth t=false:=by
 rintro⟨l,w⟩;cases d with
 |zero=>cases h
 |succ d=>
  unfold flatK at h;simp only[w] at h;split at h
  ·rename_i A;exact A.2
  cases h
theorem XX {P:Program}(n:Nat):∀(d t:Nat) (u:List TK),flatK P d t=some u->aY P (n+d) t u/\((∃C,P.underlying t=some (.struct C))->aX P (n+d) t u)
 |0,t,u,h=>by cases h
 |d+1,t,u,h=>by
  have J:∀(E:TypeDesc) (k:TK),P.underlying t=some E->((E= .bool/\k= .bool)\/(E= .string/\k= .string)\/∃q,E= .int q/\k= .int q)->u= [k]->aY P (n+(d+1)) t u/\((∃C,P.underlying t=some (.struct C))->aX P (n+(d+1)) t u):=by
   intro E k A K e;subst e;refine⟨fun w F G B b H=> ?_,fun⟨C,I⟩=> ?_⟩
   ·obtain⟨x,y,R,S,U⟩:=QM (by simpa using H);have hp:P.plainKey t=true:=(by rcases K with⟨rfl,_⟩ |⟨rfl,_⟩ |⟨q,rfl,_⟩<;>simp[Program.plainKey,A]);exact⟨x,y,run_part_plain w hp (by simpa using R),run_part_plain w hp (by simpa using S),QL A K U (n+d) w⟩
   rw[A] at I;rcases K with⟨rfl,_⟩ |⟨rfl,_⟩ |⟨q,rfl,_⟩<;>cases I
  unfold flatK at h;split at h
  ·rename_i A;exact J _ .bool A (.inl ⟨rfl,rfl⟩) (by cases h;rfl)
  ·rename_i q A;exact J _ (.int q) A (.inr (.inr ⟨q,rfl,rfl⟩)) (by cases h;rfl)
  ·rename_i A;exact J _ .string A (.inr (.inl ⟨rfl,rfl⟩)) (by cases h;rfl)
  ·rename_i C A;split at h
   ·rename_i V;split at h
    ·rename_i i l M X;split at h
     ·rename_i Y;cases h;have N:P.fieldsOf t=C:=(by simp[Program.fieldsOf,A]);have I:aX P (n+(d+1)) t u:=by
       intro w F G b H;rw[show n+(d+1)=(n+d)+1 from rfl,run_equalIn_struct w (n+d) t F G (by rw[N];exact A) V.1,N];exact iV (fun Z aa h'=>(XX n d Z aa h').1) C.toList 0 u X w F G b (by simpa using H)
      refine⟨fun w F G B b H=> ?_,fun _=>I⟩;have hc:P.cellsOf t=u.length:=(by simp[Program.cellsOf,M,Y]);have O:∀L:Array Value,(L.extract B (B+u.length)).toList=(L.toList.drop B).take u.length:=fun L=>by
       rw[O3];simp[List.extract]
      refine⟨.agg (F.extract B (B+u.length)),.agg (G.extract B (B+u.length)),?_,?_,I w _ _ b (by rw[O,O];exact H)⟩<;>simp[part,isAgg,run_underlying A,run_sizeOf w M,hc]
     cases h
    cases h
   cases h
  cases h
def XY (P:Program)(k:TK)(T:Nat):Option (List TK):=match k with
 | .struct=>flatK P 20 T
 |_=>none
def Jk:TK->Bool
 | .struct | .array _=>true
 |_=>false
def Mp (k:TK)(z:Value):Bool:=z.cells.toList.all (·.oneCell')&&(match Jk k,z with
 |true,.agg _=>true
 |false,z=>z.oneCell'
 |_,_=>false)
theorem Si {z:Value}(h:Mp k z=true):(∀x∈z.cells.toList,x.oneCell'=true)/\(Jk k=true->∃vs,z= .agg vs)/\(Jk k=false->z.oneCell'=true):=by
 unfold Mp at h;rw[Lm] at h;refine⟨fun x l=>LP.1 h.1 x l,fun d=> ?_,fun d=> ?_⟩
 ·have:=h.2;rw[d] at this;cases z<;>first |exact⟨_,rfl⟩ |cases this
 have:=h.2;rw[d] at this;exact this
theorem aZ (t:TI):t.agg=Jk t.kind:=by unfold TI.agg Jk;cases t.kind<;>rfl
def G9 (P:Program)(T:Nat):TI:=
 match P.info? T,P.underlying T with
 |some i,some d=>match i.zero,Sg P d with
  |some z,some (k,e,l)=>if z.cells.size=i.size/\Mp k z=true then{ ok:=true,kind:=k,size:=i.size,bytes:=i.bytes,offs:=l,elem:=e,zero:=z.cells.toList,flat:=XY P k T } else{}
  |_,_=>{}
 |_,_=>{}
theorem K0 (P:Program)(T:Nat):G9 P T={}\/∃i d z k e l,P.info? T=some i/\P.underlying T=some d/\i.zero=some z/\Sg P d=some (k,e,l)/\z.cells.size=i.size/\Mp k z=true/\G9 P T={ ok:=true,kind:=k,size:=i.size,bytes:=i.bytes,offs:=l,elem:=e,zero:=z.cells.toList,flat:=XY P k T }:=by
 unfold G9;split
 ·rename_i i d u w;split
  ·rename_i z k e l A B;split
   ·rename_i h;exact .inr ⟨i,d,z,k,e,l,u,w,A,B,h.1,h.2,rfl⟩
   exact .inl rfl
  exact .inl rfl
 exact .inl rfl
theorem iW {d:TypeDesc}{C:Nat}{l:List (Nat × Nat)}{B:List TK}(E:P.underlying T=some d)(u:Sg P d=some (k,C,l))(h:XY P k T=some B):(∃w,P.underlying T=some (.struct w))/\flatK P 20 T=some B:=by
 cases d<;>simp only[Sg,Lg,LE,La,reduceCtorEq] at u
 case struct w=>
  have⟨F,_,A,_⟩:=u;subst A;exact⟨⟨w,E⟩,h⟩
 all_goals (have⟨A,_⟩:=u;subst A;simp[XY] at h)
theorem Ud (P:Program):Ad P (G9 P) where
 mkey T q h:=by
  obtain e |⟨i,d,z,k,G,l,C,A,E,u,F,B,e⟩:=K0 P T<;>(rw[e] at h;cases h)
 dflt T h:=by
  obtain e |⟨i,d,z,k,G,l,C,A,E,u,F,B,e⟩:=K0 P T
  ·exact e
  rw[e] at h;cases h
 info T h:=by
  obtain e |⟨i,d,z,k,G,l,C,A,E,u,F,B,e⟩:=K0 P T
  ·rw[e] at h;cases h
  rw[e];exact⟨i,z,C,rfl,rfl,E,by simp,by simpa using F,(Si B).1,by rw[aZ];exact(Si B).2⟩
 kind T h:=by
  obtain e |⟨i,d,z,k,G,l,C,A,E,u,F,B,e⟩:=K0 P T
  ·rw[e] at h;cases h
  rw[e];refine⟨d,A,?_⟩;cases d with
  |struct K=>
   simp only[Sg,La] at u;have⟨O,H,I⟩:=u;cases I;have⟨L,M⟩:=iT H;exact⟨K,rfl,by simpa using L,fun i f N=>M i f (by simpa using N)⟩
  |pointer J=>cases u;exact⟨_,rfl⟩
  |map R J=>cases u;exact⟨_,rfl⟩
  |array n J=>cases u
  |_=>cases u;first |rfl |trivial
 flat T ks h xs ys b hb w:=by
  obtain e |⟨i,d,z,k,G,l,C,A,E,u,F,B,e⟩:=K0 P T
  ·rw[e] at h;cases h
  rw[e] at h;have⟨H,I⟩:=iW A u h;exact(XX 9980 20 T ks I).2 H w xs.toArray ys.toArray b (by simpa using hb)
 guard T ks h:=by
  obtain e |⟨i,d,z,k,G,l,C,A,E,u,F,B,e⟩:=K0 P T
  ·rw[e] at h;cases h
  rw[e] at h;have⟨H,I⟩:=iW A u h;exact tC I H
def D1 (P:Program)(T:Nat):TI:=
 match P.info? T,P.underlying T with
 |some i,some (.array n e)=>match i.zero with
  |some z=>if z.cells.size=i.size/\Mp (.array n) z=true/\(G9 P e).ok=true then{ ok:=true,kind:=.array n,size:=i.size,bytes:=i.bytes,offs:=(List.range n).map fun j=>(j*(G9 P e).size,(G9 P e).size),elem:=e,zero:=z.cells.toList } else{}
  |none=>{}
 |_,_=>G9 P T
theorem Sj (P:Program)(T:Nat):D1 P T=G9 P T\/D1 P T={}\/∃i n e z,P.info? T=some i/\P.underlying T=some (.array n e)/\i.zero=some z/\z.cells.size=i.size/\Mp (.array n) z=true/\(G9 P e).ok=true/\D1 P T={ ok:=true,kind:=.array n,size:=i.size,bytes:=i.bytes,offs:=(List.range n).map fun j=>(j*(G9 P e).size,(G9 P e).size),elem:=e,zero:=z.cells.toList }:=by
 unfold D1;split
 ·rename_i i n e h l;split
  ·rename_i z u;split
   ·rename_i d;exact .inr (.inr ⟨i,n,e,z,h,l,u,d.1,d.2.1,d.2.2,rfl⟩)
   exact .inr (.inl rfl)
  exact .inr (.inl rfl)
 exact .inl rfl
theorem iX (h:(G9 P T).ok=true):D1 P T=G9 P T:=by
 obtain e |⟨i,d,z,k,B,l,u,w,C,A,E,F,e⟩:=K0 P T
 ·rw[e] at h;cases h
 unfold D1;rw[u,w];cases d with
 |array n G=>cases A
 |_=>rfl
theorem iY (P:Program)(T:Nat):(D1 P T).mkey=none:=by
 obtain e |e |⟨i,n,h,z,u,w,A,B,C,E,e⟩:=Sj P T
 ·rw[e];obtain e |⟨i,d,z,k,h,l,u,w,A,B,C,E,e⟩:=K0 P T<;>rw[e]
 ·rw[e]
 rw[e]
theorem Ue (P:Program):Ad P (D1 P) where
 mkey T q h:=by rw[iY] at h;cases h
 dflt T h:=by
  obtain e |e |⟨i,n,G,z,C,E,F,A,B,u,e⟩:=Sj P T
  ·rw[e] at h⊢;exact(Ud P).dflt T h
  ·exact e
  rw[e] at h;cases h
 info T h:=by
  obtain e |e |⟨i,n,G,z,C,E,F,A,B,u,e⟩:=Sj P T
  ·rw[e] at h⊢;exact(Ud P).info T h
  ·rw[e] at h;cases h
  rw[e];exact⟨i,z,C,rfl,rfl,F,by simp,by simpa using A,(Si B).1,by rw[aZ];exact(Si B).2⟩
 kind T h:=by
  obtain e |e |⟨i,n,G,z,C,E,F,A,B,u,e⟩:=Sj P T
  ·rw[e] at h⊢;have⟨d,K,J⟩:=(Ud P).kind T h;refine⟨d,K,?_⟩;cases I:(G9 P T).kind with
   |array n=>
    exfalso;obtain e |⟨i,d,z,k,G,l,C,E,F,A,B,u,e⟩:=K0 P T
    ·rw[e] at h;cases h
    ·rw[e] at I;simp only at I;subst I;cases d<;>simp[Sg] at A
   |_=>rw[I] at J;exact J
  ·rw[e] at h;cases h
  rw[e];refine⟨_,E,rfl,by rw[iX u];exact u,fun j p hp=> ?_⟩;simp only[Ln,La] at hp;obtain⟨L,H,rfl⟩:=hp;rw[Lb] at H;have⟨_,H⟩:=H;simp only[Ih] at H;subst H;rw[iX u]
 flat T ks h xs ys b hb w:=by
  obtain e |e |⟨i,n,G,z,C,E,F,A,B,u,e⟩:=Sj P T
  ·rw[e] at h;exact(Ud P).flat T ks h xs ys b hb w
  ·rw[e] at h;cases h
  rw[e] at h;cases h
 guard T ks h:=by
  obtain e |e |⟨i,n,G,z,C,E,F,A,B,u,e⟩:=Sj P T
  ·rw[e] at h;exact(Ud P).guard T ks h
  ·rw[e] at h;cases h
  rw[e] at h;cases h
def HA (P:Program)(T:Nat):TI:=
 if (D1 P T).ok=true then D1 P T else match P.info? T,P.underlying T with
 |some i,some (.array n e)=>match i.zero with
  |some z=>if z.cells.size=i.size/\Mp (.array n) z=true/\(D1 P e).ok=true then{ ok:=true,kind:=.array n,size:=i.size,bytes:=i.bytes,offs:=(List.range n).map fun j=>(j*(D1 P e).size,(D1 P e).size),elem:=e,zero:=z.cells.toList } else{}
  |none=>{}
 |_,_=>{}
theorem Sk (P:Program)(T:Nat):HA P T=D1 P T\/HA P T={}\/∃i n e z,P.info? T=some i/\P.underlying T=some (.array n e)/\i.zero=some z/\z.cells.size=i.size/\Mp (.array n) z=true/\(D1 P e).ok=true/\HA P T={ ok:=true,kind:=.array n,size:=i.size,bytes:=i.bytes,offs:=(List.range n).map fun j=>(j*(D1 P e).size,(D1 P e).size),elem:=e,zero:=z.cells.toList }:=by
 unfold HA;split
 ·exact .inl rfl
 split
 ·rename_i i n e h l;split
  ·rename_i z u;split
   ·rename_i d;exact .inr (.inr ⟨i,n,e,z,h,l,u,d.1,d.2.1,d.2.2,rfl⟩)
   exact .inr (.inl rfl)
  exact .inr (.inl rfl)
 exact .inr (.inl rfl)
theorem ac (h:(D1 P T).ok=true):HA P T=D1 P T:=by
 unfold HA;rw[if_pos h]
theorem tD (P:Program)(T:Nat):(HA P T).mkey=none:=by
 obtain e |e |⟨i,n,d,z,h,l,u,w,A,B,e⟩:=Sk P T
 ·rw[e];exact iY P T
 ·rw[e]
 rw[e]
theorem Uf (P:Program):Ad P (HA P) where
 mkey T q h:=by rw[tD] at h;cases h
 dflt T h:=by
  obtain e |e |⟨i,n,H,z,B,C,E,F,u,l,e⟩:=Sk P T
  ·rw[e] at h⊢;exact(Ue P).dflt T h
  ·exact e
  rw[e] at h;cases h
 info T h:=by
  obtain e |e |⟨i,n,H,z,B,C,E,F,u,l,e⟩:=Sk P T
  ·rw[e] at h⊢;exact(Ue P).info T h
  ·rw[e] at h;cases h
  rw[e];exact⟨i,z,B,rfl,rfl,E,by simp,by simpa using F,(Si u).1,by rw[aZ];exact(Si u).2⟩
 kind T h:=by
  obtain e |e |⟨i,n,H,z,B,C,E,F,u,l,e⟩:=Sk P T
  ·rw[e] at h⊢;have⟨d,J,A⟩:=(Ue P).kind T h;refine⟨d,J,?_⟩;cases I:(D1 P T).kind with
   |array n=>
    rw[I] at A;simp only at A⊢;rw[ac A.2.1];exact A
   |_=>rw[I] at A;exact A
  ·rw[e] at h;cases h
  rw[e];refine⟨_,C,rfl,by rw[ac l];exact l,fun j p hp=> ?_⟩;simp only[Ln,La] at hp;obtain⟨K,G,rfl⟩:=hp;rw[Lb] at G;have⟨_,G⟩:=G;simp only[Ih] at G;subst G;rw[ac l]
 flat T ks h xs ys b hb w:=by
  obtain e |e |⟨i,n,H,z,B,C,E,F,u,l,e⟩:=Sk P T
  ·rw[e] at h;exact(Ue P).flat T ks h xs ys b hb w
  ·rw[e] at h;cases h
  rw[e] at h;cases h
 guard T ks h:=by
  obtain e |e |⟨i,n,H,z,B,C,E,F,u,l,e⟩:=Sk P T
  ·rw[e] at h;exact(Ue P).guard T ks h
  ·rw[e] at h;cases h
  rw[e] at h;cases h
def ae (P:Program)(u:Nat)(t:Nat)(d:List TK):Prop:=∀(w:World) (A:Bool) (h:Array Value) (l:Nat),F4 d ((h.toList.drop l).take d.length)=true->∃a,(part t h l).run P w= .ok a w/\(Instr.checkKey A u t a).run P w= .ok () w
def af (P:Program)(h:Nat)(t:Nat)(l:List TK):Prop:=∀(w:World) (u:Bool) (d:Array Value),F4 l d.toList=true->(Instr.checkKey u h t (.agg d)).run P w= .ok () w
theorem iZ:∀ {d l:List TK} {u:List Value},F4 (d++l) u=true->F4 d (u.take d.length)=true/\F4 l (u.drop d.length)=true
 |[],l,u,h=>⟨by simp[F4],by simpa using h⟩
 |k::d,l,[],h=>by simp[F4] at h
 |k::d,l,x::u,h=>by
  simp only[LU,F4,Lm] at h;have⟨w,A⟩:=iZ h.2;exact⟨by simp[F4,h.1,w],by simpa using A⟩
theorem ah:∀ {l:List TK} {d:List Value},F4 l d=true->∃b,EP l d d=some b
 |[],[],_=>⟨true,rfl⟩
 |[],_::_,h=>by simp[F4] at h
 |_::_,[],h=>by simp[F4] at h
 |k::l,x::d,h=>by
  simp only[F4,Lm] at h;have⟨b,u⟩:=ah h.2
  have:∃c,GG k x x=some c:=by
   have:=h.1;unfold Pz at this;split at this
   ·exact⟨_,by rw[GG,if_pos ⟨by simpa using this,by simpa using this⟩]⟩
   ·exact⟨_,rfl⟩
   ·exact⟨_,rfl⟩
   cases this
  have⟨c,w⟩:=this;exact⟨c&&b,by simp[EP,w,u]⟩
theorem ic {P:Program}{A:Nat->Option (List TK)}{B:Nat}{em:Bool}(C:∀t d,A t=some d->ae P B t d)(w:World)(xs:Array Value):∀(u:List Field) (l:Nat) (d:List TK),Sh A l u=some d->F4 d (xs.toList.drop l)=true->
  (forIn (m:=Sem) u PUnit.unit fun(f:Field) (_:PUnit)=>do
   if f.name≠ "_" then Instr.checkKey em B f.type (<-part f.type xs f.offset)
   pure (ForInStep.yield PUnit.unit)).run P w= .ok PUnit.unit w
 |[],l,d,h,E=>by simp
 |f::u,l,d,h,E=>by
  unfold Sh at h;split at h
  ·rename_i F;split at h
   ·rename_i H I;split at h
    ·rename_i J K;cases h;have⟨L,G⟩:=iZ E;have⟨a,M,N⟩:=C _ _ I w em xs l L;rw[OV] at G;have O:=ic (em:=em) C w xs u (l+H.length) J K G;simp only[List.forIn_cons,Sem.run_bind,F.1,ne_eq,not_false_eq_true,if_true,F.2,M,N,Result.andThen_ok,Sem.run_pure];exact O
    cases h
   cases h
  cases h
theorem ig {P:Program}(n:Nat):∀(d t:Nat) (u:List TK),flatK P d t=some u->ae P (n+d) t u/\((∃E,P.underlying t=some (.struct E))->af P (n+d) t u)
 |0,t,u,h=>by cases h
 |d+1,t,u,h=>by
  have N:=XX n (d+1) t u h;have J:∀(G:TypeDesc) (k:TK),P.underlying t=some G->(G= .bool\/G= .string\/∃q,G= .int q)->ae P (n+(d+1)) t u/\((∃E,P.underlying t=some (.struct E))->af P (n+(d+1)) t u):=by
   intro G k A K;refine⟨fun w H B C F=> ?_,fun⟨E,I⟩=> ?_⟩
   ·have⟨b,L⟩:=ah F;have⟨a,c,O,_,_⟩:=N.1 w B B C b L;refine⟨a,O,?_⟩;rw[show n+(d+1)=(n+d)+1 from rfl];rcases K with rfl |rfl |⟨q,rfl⟩<;>simp[Instr.checkKey,run_underlying A]
   rw[A] at I;rcases K with rfl |rfl |⟨q,rfl⟩<;>cases I
  unfold flatK at h;split at h
  ·rename_i A;exact J _ .bool A (.inl rfl)
  ·rename_i q A;exact J _ (.int q) A (.inr (.inr ⟨q,rfl⟩))
  ·rename_i A;exact J _ .string A (.inr (.inl rfl))
  ·rename_i E A;split at h;rotate_left
   ·cases h
   rename_i aa;split at h
   ·rename_i i l M R;split at h
    ·rename_i S;cases h;have I:af P (n+(d+1)) t u:=by
      intro w H B F;rw[show n+(d+1)=(n+d)+1 from rfl,Instr.checkKey];simp only[Sem.run_bind,run_underlying A,Result.andThen_ok];rw[<-Array.forIn_toList]
      have:=ic (em:=H) (fun U V X=>(ig n d U V X).1) w B E.toList 0 u R (by simpa using F);simp at this⊢;rw[this];rfl
     refine⟨fun w H B C F=> ?_,fun _=>I⟩;have⟨b,L⟩:=ah F;have Y:P.cellsOf t=u.length:=(by simp[Program.cellsOf,M,S]);have Z:(B.extract C (C+u.length)).toList=(B.toList.drop C).take u.length:=by
      rw[O3];simp[List.extract]
     exact⟨.agg (B.extract C (C+u.length)),by simp[part,isAgg,run_underlying A,run_sizeOf w M,Y],I w H _ (by rw[Z];exact F)⟩
    cases h
   cases h
  cases h
def Jl (P:Program)(kt:Nat):Option (Bool × List TK):=match P.underlying kt with
 |some .string=>some (false,[.string])
 |some (.int k)=>some (false,[.int k])
 |some .bool=>some (false,[.bool])
 |some (.struct _)=>(flatK P 20 kt).map fun d=>(true,d)
 |_=>none
def XZ (P:Program)(T:Nat):Option (Bool × List TK):=if (HA P T).kind= .map then match P.underlying T with
 |some (.map kt e)=>if (HA P e).ok=true/\e=(HA P T).elem then Jl P kt else none
 |_=>none else none
def Jm (P:Program)(T:Nat):TI:={ HA P T with mkey:=XZ P T }
theorem ii {y:Value}(h:GG k x y=some true):y=x:=by
 unfold GG at h;split at h
 ·split at h
  ·rename_i d;simp only[Lg,beq_iff_eq] at h;rw[h,<-d.1,<-d.2]
  cases h
 ·rename_i a b;simp only[Lg] at h;rw[(MapKept.bytes_beq a b).1 h]
 ·simp only[Lg,beq_iff_eq] at h;rw[h]
 cases h
theorem ij:∀ {u:List TK} {d l:List Value},EP u d l=some true->l=d
 |[],[],[],_=>rfl
 |[],[],_::_,h=>by simp[EP] at h
 |[],_::_,_,h=>by simp[EP] at h
 |_::_,[],_,h=>by simp[EP] at h
 |_::_,_::_,[],h=>by simp[EP] at h
 |k::u,x::d,y::l,h=>by
  simp only[EP] at h;split at h
  ·rename_i b c w A;simp only[Lg,Lm] at h;obtain⟨rfl,rfl⟩:=h;rw[ii w,ij A]
  cases h
theorem il (h:Pz k x=true)(n:Nat):Instr.sameBits n x x=true:=by
 unfold Pz at h;split at h
 ·simp[Instr.sameBits]
 ·simp[Instr.sameBits,MapKept.bytes_beq]
 ·simp[Instr.sameBits]
 cases h
theorem io (n:Nat):∀ {l:List TK} {d:List Value},F4 l d=true->((d.zip d).all fun(x,y)=>Instr.sameBits n x y)=true
 |[],[],_=>rfl
 |[],_::_,h=>by simp[F4] at h
 |_::_,[],h=>by simp[F4] at h
 |k::l,x::d,h=>by
  simp only[F4,Lm] at h;simp[il h.1 n];simpa using io n h.2
theorem tE {d:TypeDesc}(C:P.underlying kt=some d)(A:∀y b,GG k x y=some b->Instr.sameNow d x y=some b)(l:List MapEntry)(r:Option Nat)(h:JI (false,[k]) x (l.map (·.key))=some r)(w:World):
  (Instr.findKey kt x l).run P w= .ok (r.bind fun i=>(l[i]?).map fun e=>(i,e.val)) w:=by
 refine MapKept.run_findKey C ?_
 have:∀(l:List MapEntry) (r:Option Nat) (j:Nat),JI (false,[k]) x (l.map (·.key))=some r->Instr.findNow d x l j=some (r.bind fun i=>(l[i]?).map fun e=>(j+i,e.val)):=by
  intro l;induction l with
  |nil=>intro r j h;cases h;rfl
  |cons e G B=>
   intro r j h;rw[Lh] at h;unfold JI at h;split at h
   ·rename_i u;cases h;simp[Instr.findNow,A _ _ u]
   ·rename_i u;simp only[Instr.findNow,A _ _ u];split at h
    ·rename_i i E;cases h;rw[B _ (j+1) E];simp only[LR,BB];congr 2;funext e;rw[Ii,Nv]
    rename_i o F;rw[B _ (j+1) h];cases r with |none=>rfl |some i=>exact absurd h (F i)
   cases h
 simpa using this l r 0 h
theorem tF {fs:Array Field}{l:List TK}{xs:Array Value}(G:P.underlying kt=some (.struct fs))(H:∀u b,EP l xs.toList u=some b->∀w,(Op.equal kt (.agg xs) (.agg u.toArray)).run P w= .ok b w)(d:List MapEntry)(r:Option Nat)(h:JI (true,l) (.agg xs) (d.map (·.key))=some r)(w:World):
  (Instr.findKey kt (.agg xs) d).run P w= .ok (r.bind fun i=>(d[i]?).map fun e=>(i,e.val)) w:=by
 rw[run_findKey_eq (P:=P) w (by simp[G])]
 have:∀(d:List MapEntry) (r:Option Nat) (j:Nat),JI (true,l) (.agg xs) (d.map (·.key))=some r->(Instr.findAsking kt (.agg xs) d j).run P w= .ok (r.bind fun i=>(d[i]?).map fun e=>(j+i,e.val)) w:=by
  intro d;induction d with
  |nil=>intro r j h;cases h;simp[Instr.findAsking]
  |cons e K C=>
   intro r j h;rw[Lh] at h;have E:∀b,Jc (true,l) (.agg xs) e.key=some b->(Op.equal kt (.agg xs) e.key).run P w= .ok b w:=by
    intro b A;cases F:e.key with |agg u=>rw[F] at A;exact H u.toList b A w |_=>rw[F] at A;cases A
   unfold JI at h;split at h
   ·rename_i B;cases h;simp[Instr.findAsking,E _ B]
   ·rename_i B;simp only[Instr.findAsking,Sem.run_bind,E _ B,Result.andThen_ok,Nb,if_false];split at h
    ·rename_i i I;cases h;rw[C _ (j+1) I];simp only[LR,BB];congr 2;funext e;rw[Ii,Nv]
    rename_i o J;rw[C _ (j+1) h];cases r with |none=>rfl |some i=>exact absurd h (J i)
   cases h
 simpa using this d r 0 h
theorem tG {q:Bool × List TK}(h:Jl P kt=some q)(x:Value)(A:GI q x=true):(∀w e,(Instr.checkKey e 10000 kt x).run P w= .ok () w)/\
  (∀y,Jc q x y=some true->y=x/\Instr.sameBits 10000 x x=true)/\∀(u:List MapEntry) (r:Option Nat),JI q x (u.map (·.key))=some r->∀w,(Instr.findKey kt x u).run P w= .ok (r.bind fun i=>(u[i]?).map fun e=>(i,e.val)) w:=by
 have F:∀(d:TypeDesc) (k:TK),P.underlying kt=some d->((d= .string/\k= .string)\/(d= .bool/\k= .bool)\/∃i,d= .int i/\k= .int i)->Pz k x=true->(∀w e,(Instr.checkKey e 10000 kt x).run P w= .ok () w)/\
  (∀y,Jc (false,[k]) x y=some true->y=x/\Instr.sameBits 10000 x x=true)/\∀(u:List MapEntry) (r:Option Nat),JI (false,[k]) x (u.map (·.key))=some r->∀w,(Instr.findKey kt x u).run P w= .ok (r.bind fun i=>(u[i]?).map fun e=>(i,e.val)) w:=by
  intro d k l J A;refine⟨fun w e=> ?_,fun y B=>⟨ii B,il A _⟩,fun u r G w=>tE l (fun y b B=> ?_) u r G w⟩
  ·have:∀n,(Instr.checkKey e (n+1) kt x).run P w= .ok () w:=fun n=>by
    rcases J with⟨rfl,_⟩ |⟨rfl,_⟩ |⟨i,rfl,_⟩<;>simp[Instr.checkKey,run_underlying l]
   exact this 9999
  rcases J with⟨rfl,rfl⟩ |⟨rfl,rfl⟩ |⟨i,rfl,rfl⟩<;>(unfold GG at B;split at B<;>simp_all [Instr.sameNow]<;>(have⟨⟨E,M⟩,R⟩:=B;subst E;subst M;simp))
 unfold Jl at h;split at h
 ·rename_i l;cases h;exact F _ _ l (.inl ⟨rfl,rfl⟩) A
 ·rename_i k l;cases h;exact F _ _ l (.inr (.inr ⟨k,rfl,rfl⟩)) A
 ·rename_i l;cases h;exact F _ _ l (.inr (.inl ⟨rfl,rfl⟩)) A
 ·rename_i K l;obtain⟨L,E,rfl⟩:=La.1 h;cases x with
  |agg H=>
   have N:=(ig 9980 20 kt L E).2 ⟨K,l⟩;have O:=(XX 9980 20 kt L E).2 ⟨K,l⟩;refine⟨fun w e=>N w e H A,fun y B=> ?_,fun u r G w=>tF l (fun C b I w=>O w H C.toArray b (by simpa using I)) u r G w⟩;cases y with
   |agg C=>
    have:=ij B;have e:C=H:=(by apply IE;exact this);subst e;refine⟨rfl,?_⟩;have I:=io 9999 A;show(C.size==C.size&&(C.toList.zip C.toList).all fun(x,y)=>Instr.sameBits 9999 x y)=true;rw[Lm];exact⟨by simp,I⟩
   |_=>cases B
  |_=>cases A
 cases h
theorem tH (P:Program):Ad P (Jm P) where
 dflt T h:=by
  have l:HA P T={}:=(Uf P).dflt T h;unfold Jm XZ;rw[l];rfl
 info T h:=(Uf P).info T h
 kind T h:=(Uf P).kind T h
 flat T ks h:=(Uf P).flat T ks h
 guard T ks h:=(Uf P).guard T ks h
 mkey T q h:=by
  have h:XZ P T=some q:=h;unfold XZ at h;split at h
  ·split at h
   ·rename_i kt e u;split at h
    ·rename_i d;refine⟨kt,?_,?_,fun x w=>tG h x w⟩
     ·rw[u,d.2];rfl
     show(HA P (HA P T).elem).ok=true;rw[<-d.2];exact d.1
    cases h
   cases h
  cases h
end
section
theorem KM (fr:Fr):∀t,AJ t= .un\/AJ t=fr t:=fun _=>.inl rfl
theorem DO {k:Nat}{x:AV}{d fr:Fr}(h:fr k=x)(l:∀t,d t= .un\/d t=fr t):∀t,upd k x d t= .un\/upd k x d t=fr t:=fun t=>by
 unfold upd;split
 ·rename_i e;subst e;exact .inr h.symm
 exact l t
theorem DW {fr d:Fr}(h:∀t,d t= .un\/d t=fr t:=by repeat first |exact KM _ |refine DO rfl ?_):∀t,d t= .un\/d t=fr t:=h
theorem Mq (hp:Hp):∀i,AK i=none\/AK i=hp i:=fun _=>.inl rfl
theorem Xa {k:Nat}{x:Option AO}{hp' hp:Hp}(h:hp k=x)(d:∀t,hp' t=none\/hp' t=hp t):∀t,upd k x hp' t=none\/upd k x hp' t=hp t:=fun t=>by
 unfold upd;split
 ·rename_i e;subst e;exact .inr h.symm
 exact d t
theorem ip (hp:Hp):∀i,hp i=none\/hp i=hp i:=fun _=>.inr rfl
end
section
attribute [go_sem] LT Option.map_none Lt and_self and_true true_and TI.agg
end
section
theorem GM {tab:Nat->TI}{rs:Array ResultVar}{R:AV->Hp->Nat->Prop}{v:AV}(d:Fj tab rs s=some v)(h:R v s.hp s.nx):DX tab rs R .ret s:=⟨v,s.hp,d,⟨fun _=>.inr rfl⟩,h⟩
theorem IQ {tab:Nat->TI}{rs:Array ResultVar}{d h:D}{fr b:Bool}{v:AV}(l:Fj tab rs s=some v)(u:toR s.hp v=some (h,b,is))(w:h=d)(A:fr=true->b=false):DX tab rs (Fk d fr) .ret s:=
 GM l ⟨b,is,by rw[u,w],A⟩
end
section
attribute [go_sem] List.getD_cons_zero List.getD_cons_succ Nc BB List.getElem?_nil BY Ou Ib LD Ow Ij sub DN KG Ny NP
end
section
attribute [go_sem] Fj SI UH Nb
end
section
@[go_sem] theorem Ug {tab:Nat->TI}{Q:Ex->St->Prop}{e:Ex}:C0 P tab [] Q e s=Q e s:=rfl
attribute [go_sem] Nat.mul_one
end
section
open Go.RowKit
def F5 (ops:Array Oper)(j:Nat):Option Nat:=(ops[j]?).bind (·.dst)
def QN (o:Option Nat)(f:Nat->Prop)(g:Prop):Prop:=match o with
 |some d=>f d
 |none=>g
section
variable {P:Program}{tab:Nat->TI}{ops:Array Oper}{nx0 nx i j:Nat}{k:List It}{Q:Ex->St->Prop}{r:List Oper}{s:St}{dst:Option Nat}{acc:List C7}{fr:Fr}{hp:Hp}{op:Op}{T:TypeId}{pos:String}{after:Array Edge}{t:Bool}
theorem ai:Rt P tab ops nx0 k Q i (⟨dst,op,T,pos,after,some (j,t)⟩::r) s=QN (F5 ops j) (fun d=>UL P tab ops nx0 k Q i r dst s op t (s.fr d)) (Rt P tab ops nx0 k Q (i+1) r ⟨CM dst (.tu []) s.fr,s.hp,s.nx⟩):=by
 cases h:F5 ops j with
 |some d=>exact sU h
 |none=>
  have e:(ops[j]?).bind (·.dst)=none:=h
  conv=>lhs;unfold Rt WT Gc
  simp only[e];rfl
theorem aj:Rd P tab ops nx0 nx k Q i (⟨dst,op,T,pos,after,some (j,t)⟩::r) acc fr hp=QN (F5 ops j) (fun d=>Jj P tab ops nx0 nx k Q i r dst acc fr hp op t (fr d)) (Rd P tab ops nx0 nx k Q (i+1) r (⟨[],[],false⟩::acc) (CM dst (.tu []) fr) hp):=by
 cases h:F5 ops j with
 |some d=>exact sV h
 |none=>
  have e:(ops[j]?).bind (·.dst)=none:=h
  conv=>lhs;unfold Rd WD Gc
  simp only[e];rfl
end
@[go_sem] theorem Sl (d:Nat)(f:Nat->Prop)(g:Prop):QN (some d) f g=f d:=rfl
attribute [go_sem] F5 Nx LR
end
section
@[go_sem] theorem Xb (n:Nat):EZ n []=true:=rfl
@[go_sem] theorem Uh (n:Nat)(c:List D)(r:List (List D)):EZ n (c::r)=((c.length==n)&&EZ n r):=rfl
@[go_sem] theorem Xc (hp:Hp):frz hp []= []:=rfl
@[go_sem] theorem oR_:H9 []=true:=rfl
attribute [go_sem] List.range_zero OM Ga LX Ld LK
end
section
section
variable (tab:Nat->TI)(hp:Hp)(op:BinOp)(T:Nat)
@[go_sem] theorem al (a:Value)(y:AV):GH tab hp op T (.v a) y=Mk tab op T (.v a) y:=rfl
@[go_sem] theorem am (a:D)(b:Bool)(y:AV):GH tab hp op T (.d a b) y=Mk tab op T (.d a b) y:=rfl
@[go_sem] theorem Xd (a:List AV)(y:AV):GH tab hp op T (.ag a) y=Mk tab op T (.ag a) y:=rfl
@[go_sem] theorem Xe (i o:Nat)(y:AV):GH tab hp op T (.pt i o) y=Mk tab op T (.pt i o) y:=rfl
theorem tI (i v o n:Nat):GH tab hp op T (.so i v o n) (.v (.slice none 0 0))=match hp i with |some (.rw _ _ ver _ _)=>if v=ver/\(tab T).kind= .slice then Py op else none |_=>none:=rfl
@[go_sem] theorem Ui (k k':IntKind)(a b:Int):IH tab T op (.int k a) (.int k' b)=GF op (.int k a) (.int k' b):=rfl
@[go_sem] theorem Uj (a b:ByteArray):IH tab T op (.string a) (.string b)=GF op (.string a) (.string b):=rfl
@[go_sem] theorem Xf:IH tab T op (.slice none 0 0) (.slice none 0 0)=if (tab T).kind= .slice then match op with | .eql=>some (.bool true) | .neq=>some (.bool false) |_=>none else none:=rfl
@[go_sem] theorem Xg:IH tab T op (.pointer none) (.pointer none)=if (tab T).kind= .ptr then match op with | .eql=>some (.bool true) | .neq=>some (.bool false) |_=>none else none:=rfl
end
attribute [go_sem] tI Py Ww Kt En II F3 HS Ox Nw
end
section
section
variable (ρ:Operand->AV)
@[go_sem] theorem ap (x:Value):CD (.v x)= []:=rfl
@[go_sem] theorem ar (x:D)(b:Bool):CD (.d x b)= []:=rfl
@[go_sem] theorem Xh (x:List AV):CD (.ag x)=CS x:=rfl
@[go_sem] theorem Xi (i o:Nat):CD (.pt i o)= [i]:=rfl
@[go_sem] theorem Xj (i v k o:Nat):CD (.pr i v k o)= [i]:=rfl
@[go_sem] theorem Xk (i v k o:Nat):CD (.so i v k o)= [i]:=rfl
@[go_sem] theorem Xl (i:Nat):CD (.mo i)= [i]:=rfl
@[go_sem] theorem Xm (f:FuncId)(x:List AV):CD (.fn f x)=CS x:=rfl
@[go_sem] theorem Uk:CS []= []:=rfl
@[go_sem] theorem Sm (x:AV)(r:List AV):CS (x::r)=CD x++CS r:=rfl
@[go_sem] theorem oS_ (x:Operand):C4 ρ (.move x)= []:=rfl
@[go_sem] theorem ig_ (x:Operand):C4 ρ (.assign x)= []:=rfl
@[go_sem] theorem oT_ (x y z:Operand):C4 ρ (.pick x y z)= []:=rfl
@[go_sem] theorem lv_ (T:TypeId):C4 ρ (.alloc T)= []:=rfl
@[go_sem] theorem Sn (T:TypeId)(x:Operand):C4 ρ (.box T x)= []:=rfl
@[go_sem] theorem lw_ (T:TypeId)(d:Array (Nat × Operand)):C4 ρ (.build T d)= []:=rfl
@[go_sem] theorem So (x:Operand):C4 ρ (.nilCheck x)= []:=rfl
@[go_sem] theorem Ul (o:UnOp)(T:TypeId)(x:Operand):C4 ρ (.unOp o T x)= []:=rfl
@[go_sem] theorem Um (T:TypeId)(x:Operand)(f:Nat):C4 ρ (.fieldAddr T x f)= []:=rfl
@[go_sem] theorem Sp (x:Operand)(f:Nat):C4 ρ (.extract x f)= []:=rfl
@[go_sem] theorem Un (f:Fn)(x y:Array Operand):C4 ρ (.makeFunc f x y)= []:=rfl
@[go_sem] theorem oU_ (T:TypeId)(x:Operand):C4 ρ (.load T x)=CD (ρ x):=by simp[C4,Gd,Op.operands,CS]
@[go_sem] theorem lx_ (T:TypeId)(x y:Operand):C4 ρ (.store T x y)=CD (ρ x)++CD (ρ y):=by simp[C4,Gd,Op.operands,CS]
@[go_sem] theorem Sq (o:BinOp)(T S:TypeId)(x y:Operand):C4 ρ (.binOp o T x y S)=CD (ρ x)++CD (ρ y):=by simp[C4,Gd,Op.operands,CS]
@[go_sem] theorem Uo (T:TypeId)(x y:Operand):C4 ρ (.indexAddr T x y)=CD (ρ x)++CD (ρ y):=by simp[C4,Gd,Op.operands,CS]
@[go_sem] theorem Up (T:TypeId)(x y:Operand)(b:Bool):C4 ρ (.lookup T x y b)=CD (ρ x)++CD (ρ y):=by simp[C4,Gd,Op.operands,CS]
@[go_sem] theorem Uq (T:TypeId)(x:Operand)(l h:Option Operand):C4 ρ (.slice T x l h none)=CD (ρ x)++(CS ((l.toList).map ρ)++CS ((h.toList).map ρ)):=by
 cases l<;>cases h<;>simp[C4,Gd,Op.operands,CS]
@[go_sem] theorem Ur (T:TypeId)(n:Nat)(d:Array (Nat × Operand)):C4 ρ (.buildSlice T n d)=CS (d.toList.map fun p=>ρ p.2):=by simp[C4,Gd,Op.operands,NO]
@[go_sem] theorem Us (b:Builtin)(xs:Array Operand)(ts:Array TypeId):C4 ρ (.call { callee:=.builtin b,args:=xs,argTypes:=ts })=CS (xs.toList.map ρ):=by simp[C4,Gd,Op.operands,Call.operands]
@[go_sem] theorem oV_ (f:Operand)(xs:Array Operand)(ts:Array TypeId):C4 ρ (.call { callee:=.value f,args:=xs,argTypes:=ts })=CD (ρ f)++CS (xs.toList.map ρ):=by simp[C4,Gd,Op.operands,Call.operands,CS]
end
attribute [go_sem] Ig Option.toList_none
section
variable {P:Program}{tab:Nat->TI}{ops:Array Oper}{nx0 nx i:Nat}{k:List It}{Q:Ex->St->Prop}{acc:List C7}{fr:Fr}{hp:Hp}
theorem DD (d:SO ops acc.reverse=true)(h:run P tab k Q ⟨fr,hp,nx⟩):Rd P tab ops nx0 nx k Q i [] acc fr hp:=⟨XL d,h⟩
end
end
section
section
variable {P:Program}{tab:Nat->TI}{ops:Array Oper}{nx0 nx i j:Nat}{k:List It}{Q:Ex->St->Prop}{r:List Oper}{s:St}{dst:Option Nat}{acc:List C7}{fr:Fr}{hp:Hp}{op:Op}{T:TypeId}{pos:String}{after:Array Edge}{t:Bool}
theorem Sr (h:(F5 ops j).isSome=true):F5 ops j=some ((F5 ops j).getD 0):=by
 cases e:F5 ops j with
 |none=>rw[e] at h;cases h
 |some d=>rfl
@[go_sem] theorem iq (d:(F5 ops j).isSome=true)(h:s.fr ((F5 ops j).getD 0)= .v (.bool t)):Rt P tab ops nx0 k Q i (⟨dst,op,T,pos,after,some (j,t)⟩::r) s=DS P tab ops nx0 k Q i r dst s op:=by
 rw[ai,Sr d,Sl,h];simp[UL]
@[go_sem] theorem ir (d:(F5 ops j).isSome=true)(h:s.fr ((F5 ops j).getD 0)= .v (.bool !t)):Rt P tab ops nx0 k Q i (⟨dst,op,T,pos,after,some (j,t)⟩::r) s=Rt P tab ops nx0 k Q (i+1) r ⟨CM dst (.tu []) s.fr,s.hp,s.nx⟩:=by
 rw[ai,Sr d,Sl,h];simp[UL]
@[go_sem] theorem iu (d:(F5 ops j).isSome=true)(h:s.fr ((F5 ops j).getD 0)= .tu []):Rt P tab ops nx0 k Q i (⟨dst,op,T,pos,after,some (j,t)⟩::r) s=Rt P tab ops nx0 k Q (i+1) r ⟨CM dst (.tu []) s.fr,s.hp,s.nx⟩:=by
 rw[ai,Sr d,Sl,h];rfl
@[go_sem] theorem iv (d:(F5 ops j).isSome=true)(h:fr ((F5 ops j).getD 0)= .v (.bool t)):Rd P tab ops nx0 nx k Q i (⟨dst,op,T,pos,after,some (j,t)⟩::r) acc fr hp=FK P tab ops nx0 nx k Q i r dst acc fr hp op:=by
 rw[aj,Sr d,Sl,h];simp[Jj]
@[go_sem] theorem iw (d:(F5 ops j).isSome=true)(h:fr ((F5 ops j).getD 0)= .v (.bool !t)):Rd P tab ops nx0 nx k Q i (⟨dst,op,T,pos,after,some (j,t)⟩::r) acc fr hp=Rd P tab ops nx0 nx k Q (i+1) r (⟨[],[],false⟩::acc) (CM dst (.tu []) fr) hp:=by
 rw[aj,Sr d,Sl,h];simp[Jj]
@[go_sem] theorem iy (d:(F5 ops j).isSome=true)(h:fr ((F5 ops j).getD 0)= .tu []):Rd P tab ops nx0 nx k Q i (⟨dst,op,T,pos,after,some (j,t)⟩::r) acc fr hp=Rd P tab ops nx0 nx k Q (i+1) r (⟨[],[],false⟩::acc) (CM dst (.tu []) fr) hp:=by
 rw[aj,Sr d,Sl,h];rfl
end
end
section
attribute [go_sem] UM
end
end Go.Proofs.YtnmkbmefohakmaaGreat.Ab
