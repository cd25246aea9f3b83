/-
 The walk of the machine, step by step.
-/
import Derived.DeepKeys
import Derived.WideKeyRuns
import Derived.Test.YtnmkbmefohakmaaGreatAbF
set_option linter.all false
namespace Go.Proofs.YtnmkbmefohakmaaGreat.Ab
variable {P:Program}{caps vs:List AV}{ds:List D}{g:FuncId}{k:TK}{kt:Nat}{s:St}{x:Value}
section
open Go.RowKit
def jr (ops:Array Oper):Bool:=KS ops&&(List.range ops.size).all fun j=>(List.range j).all fun i=>
 ((Mr ops).getD j []).contains i||(match ops[i]?,ops[j]? with |some a,some b=> !Ph ops a b |_,_=>true)
def TP (a:Cx):Bool:=a.ks.isEmpty&& !a.g
def TQ (d:List Nat)(b:Cx):Nat->List Cx->Bool
 |_,[]=>true
 |i,a::r=>(d.contains i||(TP a&&TP b)|| !F1 a b)&&TQ d b (i+1) r
def TR (rs:List Cx):List (List Nat)->Nat->List Cx->Bool
 |_,_,[]=>true
 |[],j,b::r=>TQ [] b 0 (rs.take j)&&TR rs [] (j+1) r
 |p::d,j,b::r=>TQ p b 0 (rs.take j)&&TR rs d (j+1) r
def RN (ops:Array Oper)(rs:List Cx):Bool:=jr ops&&(rs.all TP||TR rs (Mr ops) 0 rs)
theorem js {a b:Cx}(h:(TP a&&TP b)=true):F1 a b=false:=by
 simp only[TP,Ln,Oj,NF] at h;have⟨⟨d,l⟩,u,w⟩:=h;simp[F1,Jb,Ff,d,l,u,w,De]
theorem jt {u:List Nat}{b:Cx}:∀ {l:List Cx} {n:Nat},TQ u b n l=true->∀(i:Nat) (a:Cx),l[i]? =some a->F1 a b=false\/(n+i)∈u
 |[],n,h,i,a,e=>by simp at e
 |c::r,n,h,i,a,e=>by
  simp only[TQ,Ln,LR,NF] at h;cases i with
  |zero=>
   simp only[Nf,Lf] at e;subst e;rcases h.1 with(d |d) |d
   ·exact .inr (by simpa using d)
   ·exact .inl (js (by rw[d.1,d.2];rfl))
   ·exact .inl d
  |succ i=>
   have:=jt h.2 i a (by simpa using e);rw[show n+1+i=n+(i+1) by omega] at this;exact this
theorem bw {rs:List Cx}:∀ {l:List Cx} {d:List (List Nat)} {n:Nat},TR rs d n l=true->∀(j:Nat) (b:Cx),l[j]? =some b->TQ (d.getD j []) b 0 (rs.take (n+j))=true
 |[],d,n,h,j,b,e=>by simp at e
 |c::r,[],n,h,j,b,e=>by
  simp only[TR,Ln] at h;cases j with
  |zero=>simp only[Nf,Lf] at e;subst e;exact h.1
  |succ j=>
   have:=bw h.2 j b (by simpa using e);rw[show n+1+j=n+(j+1) by omega] at this;simpa using this
 |c::r,p::d,n,h,j,b,e=>by
  simp only[TR,Ln] at h;cases j with
  |zero=>simp only[Nf,Lf] at e;subst e;exact h.1
  |succ j=>
   have:=bw h.2 j b (by simpa using e);rw[show n+1+j=n+(j+1) by omega] at this;simpa using this
theorem VK {ops:Array Oper}{rs:List Cx}(h:RN ops rs=true):HT ops rs=true:=by
 simp only[RN,jr,Ln,LR] at h;have⟨⟨B,C⟩,l⟩:=h;simp only[HT,Ln];refine⟨B,?_⟩;unfold TN;refine LP.2 fun j E=>LP.2 fun i u=> ?_;have d:=LP.1 (LP.1 C j E) i u;rw[LR] at d⊢;rcases d with d |d
 ·exact .inl d
 cases w:rs[i]? with
 |none=>exact .inr (Ln _ _▸⟨d,rfl⟩)
 |some a=>
  cases A:rs[j]? with
  |none=>exact .inr (Ln _ _▸⟨d,rfl⟩)
  |some b=>
   have F:=N9.1 u;rcases l with l |l
   ·have G:=LP.1 l a (Lz w);have H:=LP.1 l b (Lz A);exact .inr (Ln _ _▸⟨d,by simp[js (a:=a) (b:=b) (by rw[G,H];rfl)]⟩)
   rcases jt (bw l j b A) i a (by rw[NE,Nq,if_pos F];exact w) with h5 |h5
   ·exact .inr (Ln _ _▸⟨d,by simp[h5]⟩)
   rw[NE] at h5;exact .inl (by simpa using h5)
inductive It where
 |c (x:Code)
 |blk (n:Nat)
 |lp (X:St->Prop)
section
variable (P:Program)(tab:Nat->TI)
def WT (ops:Array Oper)(nx0:Nat)(K:St->Prop):Nat->List Oper->St->Prop
 |_,[],s=>K s
 |i,o::r,s=>Ga ops o s (IS P tab o.op (nx0+i) s fun v hp nx=>WT ops nx0 K (i+1) r ⟨CJ o.dst v s.fr,hp,nx⟩) (WT ops nx0 K (i+1) r ⟨CJ o.dst (.tu []) s.fr,s.hp,s.nx⟩)
def W2:Code->(Ex->St->Prop)->St->Prop
 | .skip,Q,s=>Q .normal s
 | .label _,Q,s=>Q .normal s
 | .ret,Q,s=>Q .ret s
 | .exit n,Q,s=>Q (.exit n) s
 | .seq a b,Q,s=>W2 a (fun e d=>match e with | .normal=>W2 b Q d |e=>Q e d) s
 | .cond c a b,Q,s=>match ev s.fr c with
  | .v (.bool t)=>(t=true->W2 a Q s)/\(t=false->W2 b Q s)
  |_=>False
 | .block n a,Q,s=>W2 a (fun e d=>match e with | .exit m=>if m=n then Q .normal d else Q (.exit m) d |e=>Q e d) s
 | .region _ ops w,Q,s=>match w with
  |false=>WT P tab ops s.nx (Q .normal) 0 ops.toList ⟨s.fr,s.hp,s.nx+ops.size⟩
  |true=>WD P tab ops s.nx (Q .normal) (s.nx+ops.size) 0 ops.toList [] s.fr s.hp
 | .loop a,Q,s=>∀X:St->Prop,(∀h,W2 a (fun e d=>match e with | .normal=>X d |e=>Q e d) h->X h)->(∀l u,CH s.nx l u->X l->X u)->X s
 |_,_,_=>False
end
section
variable {P:Program}{tab:Nat->TI}
theorem KT {ops:Array Oper}{nx0:Nat}{K:St->Prop}:∀(r:List Oper) (i:Nat) (s:St),(∀k,r[k]? =ops[i+k]?)->WT P tab ops nx0 K i r s->WL P tab ops nx0 K (List.range' i r.length) s
 |[],i,s,_,h=>h
 |o::r,i,s,d,h=>by
  have u:ops[i]? =some o:=by simpa using(d 0).symm
  have l:∀k,r[k]? =ops[i+1+k]? :=fun k=>by have:=d (k+1);simpa [Ny,BT 1 k] using this
  rw[Lh,List.range'_succ];unfold WL;rw[u];exact YH h (fun h=>bX h fun _ _ _ h=>KT r (i+1) _ l h) fun h=>KT r (i+1) _ l h
theorem TT {ops:Array Oper}{nx0:Nat}{K A:St->Prop}(l:∀s,K s->A s):∀(r:List Oper) (nx i:Nat) (acc:List Cx) (fr:Fr) (hp:Hp),WD P tab ops nx0 K nx i r acc fr hp->WD P tab ops nx0 A nx i r acc fr hp
 |[],nx,i,acc,fr,hp,h=>⟨h.1,l _ h.2⟩
 |o::r,nx,i,acc,fr,hp,h=>by
  unfold WD at *;refine YH h (fun h=> ?_) fun h=>TT l r _ _ _ _ _ h;unfold TO at *;split at h
  ·split at h
   ·rcases h with⟨ds,b,is,d,B,u,w,C,E⟩ |⟨ids,v,δ,F,u,w⟩
    ·exact .inl ⟨ds,b,is,d,B,u,w,C,TT l r _ _ _ _ _ E⟩
    exact .inr ⟨ids,v,δ,F,u,TT l r _ _ _ _ _ w⟩
   exact h.elim
  split at h
  ·exact TT l r _ _ _ _ _ h
  exact h.elim
theorem bz (x:Operand)(y z:Code)(Q:Ex->St->Prop)(s:St):W2 P tab (.cond x y z) Q s=(match ev s.fr x with | .v (.bool t)=>(t=true->W2 P tab y Q s)/\(t=false->W2 P tab z Q s) |_=>False):=rfl
theorem KU:∀(w:Code) (Q u:Ex->St->Prop) (s:St),(∀e s,Q e s->u e s)->W2 P tab w Q s->W P tab w u s:=by
 intro w;induction w with
 |region id ops C=>
  intro Q u s d h;cases C with
  |false=>
   have:=KT ops.toList 0 _ (by simp) (show WT P tab ops s.nx (Q .normal) 0 ops.toList ⟨s.fr,s.hp,s.nx+ops.size⟩ from h);rw[NR,<-List.range_eq_range'] at this;exact YI (fun s h=>d _ s h) _ _ this
  |true=>exact RM (id:=id) (Q:=u) (TT (fun s h=>d _ s h) _ _ _ _ _ _ h)
 |seq x y E A=>
  intro Q u s d h;refine E _ _ s (fun e s h=> ?_) h;cases e with |normal=>exact A _ _ s d h |ret=>exact d _ s h |exit n=>exact d _ s h
 |cond x y z A F=>
  intro Q u s d h;rw[bz] at h;rw[RH];split at h
  ·rename_i t e;simp only[e];exact⟨fun e=>A _ _ s d (h.1 e),fun e=>F _ _ s d (h.2 e)⟩
  ·exact h.elim
 |block n x B=>
  intro Q u s d h;refine B _ _ s (fun e s h=> ?_) h;cases e with
  |normal=>exact d _ s h
  |ret=>exact d _ s h
  |exit m=>
   simp only at h⊢;split
   ·rename_i e;rw[if_pos e] at h;exact d _ s h
   ·rename_i e;rw[if_neg e] at h;exact d _ s h
 |loop x B=>
  intro Q u s d h X G H;refine h X (fun s h=>G s (B _ _ s (fun e s h=> ?_) h)) H;cases e with |normal=>exact h |ret=>exact d _ s h |exit n=>exact d _ s h
 |skip=>exact fun Q u s d h=>d _ s h
 |label l=>exact fun Q u s d h=>d _ s h
 |ret=>exact fun Q u s d h=>d _ s h
 |exit n=>exact fun Q u s d h=>d _ s h
 |_=>exact fun Q u s d h=>h.elim
theorem tP:∀(B:Code) (Q u:Ex->St->Prop) (s:St),(∀e s,Q e s->u e s)->W2 P tab B Q s->W2 P tab B u s:=by
 intro B;induction B with
 |region id ops E=>
  intro Q u s d h;cases E with
  |false=>
   have:∀(r:List Oper) (i:Nat) (A:St),WT P tab ops s.nx (Q .normal) i r A->WT P tab ops s.nx (u .normal) i r A:=by
    intro r;induction r with
    |nil=>exact fun i A h=>d _ A h
    |cons o r w=>exact fun i A h=>YH h (fun h=>bX h fun _ _ _ h=>w _ _ h) fun h=>w _ _ h
   exact this _ _ _ h
  |true=>exact TT (fun s h=>d _ s h) _ _ _ _ _ _ h
 |seq x y F C=>
  intro Q u s d h;refine F _ _ s (fun e s h=> ?_) h;cases e with |normal=>exact C _ _ s d h |ret=>exact d _ s h |exit n=>exact d _ s h
 |cond x y z C G=>
  intro Q u s d h;rw[bz] at h⊢;split at h
  ·exact⟨fun e=>C _ _ s d (h.1 e),fun e=>G _ _ s d (h.2 e)⟩
  ·exact h.elim
 |block n x w=>
  intro Q u s d h;refine w _ _ s (fun e s h=> ?_) h;cases e with
  |normal=>exact d _ s h
  |ret=>exact d _ s h
  |exit m=>
   simp only at h⊢;split
   ·rename_i e;rw[if_pos e] at h;exact d _ s h
   ·rename_i e;rw[if_neg e] at h;exact d _ s h
 |loop x w=>
  intro Q u s d h X H I;refine h X (fun s h=>H s (w _ _ s (fun e s h=> ?_) h)) I;cases e with |normal=>exact h |ret=>exact d _ s h |exit n=>exact d _ s h
 |skip=>exact fun Q u s d h=>d _ s h
 |label l=>exact fun Q u s d h=>d _ s h
 |ret=>exact fun Q u s d h=>d _ s h
 |exit n=>exact fun Q u s d h=>d _ s h
 |_=>exact fun Q u s d h=>h.elim
end
section
variable (P:Program)(tab:Nat->TI)
def Cu:List It->(Ex->St->Prop)->Ex->St->Prop
 |[],Q,e,s=>Q e s
 | .c x::k,Q,e,s=>match e with
  | .normal=>W2 P tab x (Cu k Q) s
  | .ret=>Cu k Q .ret s
  | .exit m=>Cu k Q (.exit m) s
 | .blk n::k,Q,e,s=>match e with
  | .normal=>Cu k Q .normal s
  | .ret=>Cu k Q .ret s
  | .exit m=>if m=n then Cu k Q .normal s else Cu k Q (.exit m) s
 | .lp X::k,Q,e,s=>match e with
  | .normal=>X s
  | .ret=>Cu k Q .ret s
  | .exit m=>Cu k Q (.exit m) s
def run (k:List It)(Q:Ex->St->Prop)(s:St):Prop:=Cu P tab k Q .normal s
def Rt (ops:Array Oper)(nx0:Nat)(k:List It)(Q:Ex->St->Prop)(i:Nat)(r:List Oper)(s:St):Prop:=WT P tab ops nx0 (fun s=>run P tab k Q s) i r s
def Rd (ops:Array Oper)(nx0 nx:Nat)(k:List It)(Q:Ex->St->Prop)(i:Nat)(r:List Oper)(acc:List Cx)(fr:Fr)(hp:Hp):Prop:=WD P tab ops nx0 (fun s=>run P tab k Q s) nx i r acc fr hp
def Fg (ops:Array Oper)(nx0:Nat)(k:List It)(Q:Ex->St->Prop)(i:Nat)(r:List Oper)(dst:Option Nat)(s:St)(x:Option (AV × List (Nat × AO))):Prop:=
 match x with
 |some (v,δ)=>Rt P tab ops nx0 k Q i r ⟨CJ dst v s.fr,CC δ s.hp,s.nx⟩
 |none=>False
def F2 (ops:Array Oper)(nx0 nx:Nat)(k:List It)(Q:Ex->St->Prop)(i:Nat)(r:List Oper)(dst:Option Nat)(acc:List Cx)(ids:List Nat)(fr:Fr)(hp:Hp)(x:Option (AV × List (Nat × AO))):Prop:=
 match x with
 |some (v,δ)=>Rd P tab ops nx0 nx k Q i r (⟨ids,δ.map (·.1),false⟩::acc) (CJ dst v fr) (CC δ hp)
 |none=>False
def Ms (ops:Array Oper)(nx0:Nat)(k:List It)(Q:Ex->St->Prop)(i:Nat)(r:List Oper)(dst:Option Nat)(s:St)(f:AV)(vs:List AV):Prop:=MF P f vs s.hp s.nx fun v hp nx=>Rt P tab ops nx0 k Q i r ⟨CJ dst v s.fr,hp,nx⟩
def Pk (ops:Array Oper)(nx0 nx:Nat)(k:List It)(Q:Ex->St->Prop)(i:Nat)(r:List Oper)(dst:Option Nat)(acc:List Cx)(ids:List Nat)(fr:Fr)(hp:Hp)(f:AV)(vs:List AV):Prop:=
 match f with
 | .fn g caps=>(∃ds b is d h,Cj hp (vs++caps)=some (ds,b,is)/\AI P g ds d h/\(is= []\/h=true)/\Rd P tab ops nx0 nx k Q i r (⟨ids,[],false⟩::acc) (CJ dst (CE (!h&&b) d) fr) hp)\/
  ∃ids v δ l,Pi P g (vs++caps) hp nx ids v δ l/\Rd P tab ops nx0 l k Q i r (⟨ids,δ.map (·.1),true⟩::acc) (CJ dst v fr) (CC δ hp)
 |_=>False
def DH (ops:Array Oper)(nx0:Nat)(k:List It)(Q:Ex->St->Prop)(i:Nat)(r:List Oper)(dst:Option Nat)(s:St)(op:Op):Prop:=
 match op with
 | .call { callee:=.value f,args, .. }=>Ms P tab ops nx0 k Q (i+1) r dst s (ev s.fr f) (args.toList.map (ev s.fr))
 |op=>Fg P tab ops nx0 k Q (i+1) r dst s (CM tab (ev s.fr) s.hp (nx0+i) op)
def Fh (ops:Array Oper)(nx0 nx:Nat)(k:List It)(Q:Ex->St->Prop)(i:Nat)(r:List Oper)(dst:Option Nat)(acc:List Cx)(fr:Fr)(hp:Hp)(op:Op):Prop:=
 match op with
 | .call { callee:=.value f,args, .. }=>Pk P tab ops nx0 nx k Q (i+1) r dst acc (Ct (ev fr) op) fr hp (ev fr f) (args.toList.map (ev fr))
 |op=>F2 P tab ops nx0 nx k Q (i+1) r dst acc (Ct (ev fr) op) fr hp (CM tab (ev fr) hp (nx0+i) op)
def VL (ops:Array Oper)(nx0:Nat)(k:List It)(Q:Ex->St->Prop)(i:Nat)(r:List Oper)(dst:Option Nat)(s:St)(op:Op)(t:Bool)(v:AV):Prop:=
 match v with
 | .v (.bool b)=>(b=t->DH P tab ops nx0 k Q i r dst s op)/\(b= !t->Rt P tab ops nx0 k Q (i+1) r ⟨CJ dst (.tu []) s.fr,s.hp,s.nx⟩)
 | .tu []=>Rt P tab ops nx0 k Q (i+1) r ⟨CJ dst (.tu []) s.fr,s.hp,s.nx⟩
 |_=>False
def KV (ops:Array Oper)(nx0 nx:Nat)(k:List It)(Q:Ex->St->Prop)(i:Nat)(r:List Oper)(dst:Option Nat)(acc:List Cx)(fr:Fr)(hp:Hp)(op:Op)(t:Bool)(v:AV):Prop:=
 match v with
 | .v (.bool b)=>(b=t->Fh P tab ops nx0 nx k Q i r dst acc fr hp op)/\(b= !t->Rd P tab ops nx0 nx k Q (i+1) r (⟨[],[],false⟩::acc) (CJ dst (.tu []) fr) hp)
 | .tu []=>Rd P tab ops nx0 nx k Q (i+1) r (⟨[],[],false⟩::acc) (CJ dst (.tu []) fr) hp
 |_=>False
def TU (a b:Code)(k:List It)(Q:Ex->St->Prop)(s:St)(v:AV):Prop:=
 match v with
 | .v (.bool t)=>(t=true->run P tab (.c a::k) Q s)/\(t=false->run P tab (.c b::k) Q s)
 |_=>False
end
section
variable {P:Program}{tab:Nat->TI}{ops:Array Oper}{nx0 nx i n m id:Nat}{k:List It}{Q:Ex->St->Prop}{r:List Oper}{s:St}{dst:Option Nat}{acc:List Cx}{fr:Fr}{hp:Hp}{op:Op}{T:TypeId}{pos:String}{after:Array Edge}{a b:Code}{x:Operand}{t:Bool}{ids:List Nat}{v:AV}{δ:List (Nat × AO)}
theorem tQ:run P tab (.c (.seq a b)::k) Q s=run P tab (.c a:: .c b::k) Q s:=by
 have e:(fun e d=>match e with | .normal=>W2 P tab b (Cu P tab k Q) d |e=>Cu P tab k Q e d)=Cu P tab (.c b::k) Q:=by
  funext e d;cases e<;>rfl
 show W2 P tab a _ s=W2 P tab a _ s;rw[e]
theorem tR:run P tab (.c (.block n a)::k) Q s=run P tab (.c a:: .blk n::k) Q s:=by
 have e:(fun e d=>match e with | .exit m=>if m=n then Cu P tab k Q .normal d else Cu P tab k Q (.exit m) d |e=>Cu P tab k Q e d)=Cu P tab (.blk n::k) Q:=by
  funext e d;cases e<;>rfl
 show W2 P tab a _ s=W2 P tab a _ s;rw[e]
theorem tS:run P tab (.c .skip::k) Q s=run P tab k Q s:=rfl
theorem tT:run P tab (.blk n::k) Q s=run P tab k Q s:=rfl
theorem tU:run P tab [] Q s=Q .normal s:=rfl
theorem RO {X:St->Prop}:run P tab (.lp X::k) Q s=X s:=rfl
theorem VM:∀(k:List It),Cu P tab k Q .ret s=Q .ret s
 |[]=>rfl
 | .c _::k=>VM k
 | .blk _::k=>VM k
 | .lp _::k=>VM k
theorem tV:run P tab (.c .ret::k) Q s=Q .ret s:=VM k
theorem tW:run P tab (.c (.exit m)::k) Q s=Cu P tab k Q (.exit m) s:=rfl
theorem RP:Cu P tab (.c a::k) Q (.exit m) s=Cu P tab k Q (.exit m) s:=rfl
theorem tX {X:St->Prop}:Cu P tab (.lp X::k) Q (.exit m) s=Cu P tab k Q (.exit m) s:=rfl
theorem tY:Cu P tab (.blk n::k) Q (.exit m) s=if m=n then run P tab k Q s else Cu P tab k Q (.exit m) s:=rfl
theorem tZ:run P tab (.c (.cond x a b)::k) Q s=TU P tab a b k Q s (ev s.fr x):=rfl
theorem ta:TU P tab a b k Q s (.v (.bool true))=run P tab (.c a::k) Q s:=by simp[TU]
theorem tc:TU P tab a b k Q s (.v (.bool false))=run P tab (.c b::k) Q s:=by simp[TU]
theorem YP {c:Bool}(d:c=true->run P tab (.c a::k) Q s)(h:c=false->run P tab (.c b::k) Q s):TU P tab a b k Q s (.v (.bool c)):=⟨d,h⟩
theorem td:run P tab (.c (.region id ops false)::k) Q s=Rt P tab ops s.nx k Q 0 ops.toList ⟨s.fr,s.hp,s.nx+ops.size⟩:=rfl
theorem tf:run P tab (.c (.region id ops true)::k) Q s=Rd P tab ops s.nx (s.nx+ops.size) k Q 0 ops.toList [] s.fr s.hp:=rfl
theorem RQ:Rt P tab ops nx0 k Q i [] s=run P tab k Q s:=rfl
theorem VN:Rt P tab ops nx0 k Q i (⟨dst,op,T,pos,after,none⟩::r) s=DH P tab ops nx0 k Q i r dst s op:=by
 cases op with
 |call c=>have⟨d,h,l⟩:=c;cases d<;>rfl
 |_=>rfl
theorem VO:Rd P tab ops nx0 nx k Q i (⟨dst,op,T,pos,after,none⟩::r) acc fr hp=Fh P tab ops nx0 nx k Q i r dst acc fr hp op:=by
 cases op with
 |call c=>have⟨d,h,l⟩:=c;cases d<;>rfl
 |_=>rfl
theorem tg {f:Operand}{d:Array Operand}{h:Array TypeId}:DH P tab ops nx0 k Q i r dst s (.call { callee:=.value f,args:=d,argTypes:=h })=Ms P tab ops nx0 k Q (i+1) r dst s (ev s.fr f) (d.toList.map (ev s.fr)):=rfl
theorem th {f:Operand}{d:Array Operand}{h:Array TypeId}:Fh P tab ops nx0 nx k Q i r dst acc fr hp (.call { callee:=.value f,args:=d,argTypes:=h })=Pk P tab ops nx0 nx k Q (i+1) r dst acc (Ct (ev fr) (.call { callee:=.value f,args:=d,argTypes:=h })) fr hp (ev fr f) (d.toList.map (ev fr)):=rfl
theorem tj:Fg P tab ops nx0 k Q i r dst s (some (v,δ))=Rt P tab ops nx0 k Q i r ⟨CJ dst v s.fr,CC δ s.hp,s.nx⟩:=rfl
theorem tl:F2 P tab ops nx0 nx k Q i r dst acc ids fr hp (some (v,δ))=Rd P tab ops nx0 nx k Q i r (⟨ids,δ.map (·.1),false⟩::acc) (CJ dst v fr) (CC δ hp):=rfl
theorem tm {j d:Nat}(h:(ops[j]?).bind (·.dst)=some d):Rt P tab ops nx0 k Q i (⟨dst,op,T,pos,after,some (j,t)⟩::r) s=VL P tab ops nx0 k Q i r dst s op t (s.fr d):=by
 unfold Rt WT Ga VL;simp only[h];cases op with
 |call c=>have⟨l,u,w⟩:=c;cases l<;>rfl
 |_=>rfl
theorem tv {j d:Nat}(h:(ops[j]?).bind (·.dst)=some d):Rd P tab ops nx0 nx k Q i (⟨dst,op,T,pos,after,some (j,t)⟩::r) acc fr hp=KV P tab ops nx0 nx k Q i r dst acc fr hp op t (fr d):=by
 unfold Rd WD Ga KV;simp only[h];cases op with
 |call c=>have⟨l,u,w⟩:=c;cases l<;>rfl
 |_=>rfl
theorem Mt {b:Bool}{is:List Nat}{d:D}{f:Bool}(l:Cj s.hp (vs++caps)=some (ds,b,is))(u:AI P g ds d f)(w:is= []\/f=true)(h:Rt P tab ops nx0 k Q i r ⟨CJ dst (CE (!f&&b) d) s.fr,s.hp,s.nx⟩):
  Ms P tab ops nx0 k Q i r dst s (.fn g caps) vs:=.inl ⟨ds,b,is,d,f,l,u,w,h⟩
theorem CR (h:AU P g (vs++caps) s.hp s.nx fun v hp nx=>Rt P tab ops nx0 k Q i r ⟨CJ dst v s.fr,hp,nx⟩):Ms P tab ops nx0 k Q i r dst s (.fn g caps) vs:=.inr h
theorem cA {b:Bool}{is:List Nat}{d:D}{f:Bool}(l:Cj hp (vs++caps)=some (ds,b,is))(u:AI P g ds d f)(w:is= []\/f=true)(h:Rd P tab ops nx0 nx k Q i r (⟨ids,[],false⟩::acc) (CJ dst (CE (!f&&b) d) fr) hp):
  Pk P tab ops nx0 nx k Q i r dst acc ids fr hp (.fn g caps) vs:=.inl ⟨ds,b,is,d,f,l,u,w,h⟩
theorem RR {ids':List Nat}{v:AV}{δ:List (Nat × AO)}{nx':Nat}(d:Pi P g (vs++caps) hp nx ids' v δ nx')(h:Rd P tab ops nx0 nx' k Q i r (⟨ids',δ.map (·.1),true⟩::acc) (CJ dst v fr) (CC δ hp)):
  Pk P tab ops nx0 nx k Q i r dst acc ids fr hp (.fn g caps) vs:=.inr ⟨ids',v,δ,nx',d,h⟩
theorem cB (d:HT ops acc.reverse=true)(h:run P tab k Q ⟨fr,hp,nx⟩):Rd P tab ops nx0 nx k Q i [] acc fr hp:=⟨d,h⟩
theorem YQ {α:Type}(l:α->St)(u:α->Nat)(x0:α)(B:JZ (l x0) s)(C:∀x,run P tab [.c a,.lp fun w=>∃d,JZ (l d) w/\u d<u x] (Cu P tab k Q) (l x)):run P tab (.c (.loop a)::k) Q s:=by
 show ∀X:St->Prop,_->_->X s;intro X E A;have F:∀n x,u x=n->X (l x):=by
  intro n;induction n using Nat.strongRecOn with
  |_ n G=>
   intro x I;refine E _ (tP a _ _ _ (fun e w h=> ?_) (C x));cases e with
   |normal=>
    have⟨d,H,J⟩:=h;exact A _ _ (.weak H) (G (u d) (by omega) d rfl)
   |ret=>exact h
   |exit n=>exact h
 exact A _ _ (.weak B) (F _ x0 rfl)
theorem Mu (l:Ad P tab)(u:P.follows .mixedOrders=true){f:FuncId}{fn:Func}{d:Code}(w:P.funcs[f]? =some fn)(A:fn.body=some d)(B:(fn.name== "runtime.NumGoroutine")=false)(C:D2 fn.ntmps d=true){nx:Nat}{R:AV->Hp->Nat->Prop}
  (E:vs.length<=fn.ntmps) (h:run P tab [.c d] (Dd tab fn.results R) ⟨Dw vs,hp,nx⟩):AU P f vs hp nx R:=
 ji l u w A B C E (KU d _ _ _ (fun _ _ h=>h) h)
theorem VP (w:Ad P tab)(A:P.follows .mixedOrders=true){f:FuncId}{fn:Func}{l:Code}(B:P.funcs[f]? =some fn)(C:fn.body=some l)(E:(fn.name== "runtime.NumGoroutine")=false)(F:D2 fn.ntmps l=true){d:D}{u:Bool}
  (G:ds.length<=fn.ntmps) (h:run P tab [.c l] (Dd tab fn.results (HA d u)) ⟨Dw (ds.map (CE true)),AM,0⟩):AI P f ds d u:=
 VH (Mu w A B C E F (by simpa using G) h)
end
end
section
open Go.RowKit
section
variable {P:Program}{tab:Nat->TI}{ops:Array Oper}{nx0 nx i:Nat}{k:List It}{Q:Ex->St->Prop}{r:List Oper}{s:St}{dst:Option Nat}{acc:List Cx}{fr:Fr}{hp:Hp}
@[go_sem] theorem TV (x:Operand):DH P tab ops nx0 k Q i r dst s (.move x)=Fg P tab ops nx0 k Q (i+1) r dst s (CM tab (ev s.fr) s.hp (nx0+i) (.move x)):=rfl
@[go_sem] theorem lF_ (x:Operand):Fh P tab ops nx0 nx k Q i r dst acc fr hp (.move x)=F2 P tab ops nx0 nx k Q (i+1) r dst acc (Ct (ev fr) (.move x)) fr hp (CM tab (ev fr) hp (nx0+i) (.move x)):=rfl
@[go_sem] theorem e3_ (x:Operand):DH P tab ops nx0 k Q i r dst s (.assign x)=Fg P tab ops nx0 k Q (i+1) r dst s (CM tab (ev s.fr) s.hp (nx0+i) (.assign x)):=rfl
@[go_sem] theorem a2_ (x:Operand):Fh P tab ops nx0 nx k Q i r dst acc fr hp (.assign x)=F2 P tab ops nx0 nx k Q (i+1) r dst acc (Ct (ev fr) (.assign x)) fr hp (CM tab (ev fr) hp (nx0+i) (.assign x)):=rfl
@[go_sem] theorem TW (x y z:Operand):DH P tab ops nx0 k Q i r dst s (.pick x y z)=Fg P tab ops nx0 k Q (i+1) r dst s (CM tab (ev s.fr) s.hp (nx0+i) (.pick x y z)):=rfl
@[go_sem] theorem lG_ (x y z:Operand):Fh P tab ops nx0 nx k Q i r dst acc fr hp (.pick x y z)=F2 P tab ops nx0 nx k Q (i+1) r dst acc (Ct (ev fr) (.pick x y z)) fr hp (CM tab (ev fr) hp (nx0+i) (.pick x y z)):=rfl
@[go_sem] theorem lH_ (A:TypeId):DH P tab ops nx0 k Q i r dst s (.alloc A)=Fg P tab ops nx0 k Q (i+1) r dst s (CM tab (ev s.fr) s.hp (nx0+i) (.alloc A)):=rfl
@[go_sem] theorem e4_ (A:TypeId):Fh P tab ops nx0 nx k Q i r dst acc fr hp (.alloc A)=F2 P tab ops nx0 nx k Q (i+1) r dst acc (Ct (ev fr) (.alloc A)) fr hp (CM tab (ev fr) hp (nx0+i) (.alloc A)):=rfl
@[go_sem] theorem VQ (A:TypeId)(x:Operand):DH P tab ops nx0 k Q i r dst s (.box A x)=Fg P tab ops nx0 k Q (i+1) r dst s (CM tab (ev s.fr) s.hp (nx0+i) (.box A x)):=rfl
@[go_sem] theorem TX (A:TypeId)(x:Operand):Fh P tab ops nx0 nx k Q i r dst acc fr hp (.box A x)=F2 P tab ops nx0 nx k Q (i+1) r dst acc (Ct (ev fr) (.box A x)) fr hp (CM tab (ev fr) hp (nx0+i) (.box A x)):=rfl
@[go_sem] theorem lI_ (A:TypeId)(d:Array (Nat × Operand)):DH P tab ops nx0 k Q i r dst s (.build A d)=Fg P tab ops nx0 k Q (i+1) r dst s (CM tab (ev s.fr) s.hp (nx0+i) (.build A d)):=rfl
@[go_sem] theorem e5_ (A:TypeId)(d:Array (Nat × Operand)):Fh P tab ops nx0 nx k Q i r dst acc fr hp (.build A d)=F2 P tab ops nx0 nx k Q (i+1) r dst acc (Ct (ev fr) (.build A d)) fr hp (CM tab (ev fr) hp (nx0+i) (.build A d)):=rfl
@[go_sem] theorem rW_ (A:TypeId)(c:Nat)(d:Array (Nat × Operand)):DH P tab ops nx0 k Q i r dst s (.buildSlice A c d)=Fg P tab ops nx0 k Q (i+1) r dst s (CM tab (ev s.fr) s.hp (nx0+i) (.buildSlice A c d)):=rfl
@[go_sem] theorem rk_ (A:TypeId)(c:Nat)(d:Array (Nat × Operand)):Fh P tab ops nx0 nx k Q i r dst acc fr hp (.buildSlice A c d)=F2 P tab ops nx0 nx k Q (i+1) r dst acc (Ct (ev fr) (.buildSlice A c d)) fr hp (CM tab (ev fr) hp (nx0+i) (.buildSlice A c d)):=rfl
@[go_sem] theorem TY (A:TypeId)(x:Operand):DH P tab ops nx0 k Q i r dst s (.load A x)=Fg P tab ops nx0 k Q (i+1) r dst s (CM tab (ev s.fr) s.hp (nx0+i) (.load A x)):=rfl
@[go_sem] theorem lJ_ (A:TypeId)(x:Operand):Fh P tab ops nx0 nx k Q i r dst acc fr hp (.load A x)=F2 P tab ops nx0 nx k Q (i+1) r dst acc (Ct (ev fr) (.load A x)) fr hp (CM tab (ev fr) hp (nx0+i) (.load A x)):=rfl
@[go_sem] theorem lK_ (A:TypeId)(x y:Operand):DH P tab ops nx0 k Q i r dst s (.store A x y)=Fg P tab ops nx0 k Q (i+1) r dst s (CM tab (ev s.fr) s.hp (nx0+i) (.store A x y)):=rfl
@[go_sem] theorem e6_ (A:TypeId)(x y:Operand):Fh P tab ops nx0 nx k Q i r dst acc fr hp (.store A x y)=F2 P tab ops nx0 nx k Q (i+1) r dst acc (Ct (ev fr) (.store A x y)) fr hp (CM tab (ev fr) hp (nx0+i) (.store A x y)):=rfl
@[go_sem] theorem cN_ (x:Operand):DH P tab ops nx0 k Q i r dst s (.nilCheck x)=Fg P tab ops nx0 k Q (i+1) r dst s (CM tab (ev s.fr) s.hp (nx0+i) (.nilCheck x)):=rfl
@[go_sem] theorem cj_ (x:Operand):Fh P tab ops nx0 nx k Q i r dst acc fr hp (.nilCheck x)=F2 P tab ops nx0 nx k Q (i+1) r dst acc (Ct (ev fr) (.nilCheck x)) fr hp (CM tab (ev fr) hp (nx0+i) (.nilCheck x)):=rfl
@[go_sem] theorem lL_ (o:BinOp)(A B:TypeId)(x y:Operand):DH P tab ops nx0 k Q i r dst s (.binOp o A x y B)=Fg P tab ops nx0 k Q (i+1) r dst s (CM tab (ev s.fr) s.hp (nx0+i) (.binOp o A x y B)):=rfl
@[go_sem] theorem e7_ (o:BinOp)(A B:TypeId)(x y:Operand):Fh P tab ops nx0 nx k Q i r dst acc fr hp (.binOp o A x y B)=F2 P tab ops nx0 nx k Q (i+1) r dst acc (Ct (ev fr) (.binOp o A x y B)) fr hp (CM tab (ev fr) hp (nx0+i) (.binOp o A x y B)):=rfl
@[go_sem] theorem TZ (o:UnOp)(A:TypeId)(x:Operand):DH P tab ops nx0 k Q i r dst s (.unOp o A x)=Fg P tab ops nx0 k Q (i+1) r dst s (CM tab (ev s.fr) s.hp (nx0+i) (.unOp o A x)):=rfl
@[go_sem] theorem lM_ (o:UnOp)(A:TypeId)(x:Operand):Fh P tab ops nx0 nx k Q i r dst acc fr hp (.unOp o A x)=F2 P tab ops nx0 nx k Q (i+1) r dst acc (Ct (ev fr) (.unOp o A x)) fr hp (CM tab (ev fr) hp (nx0+i) (.unOp o A x)):=rfl
@[go_sem] theorem a3_ (A B:TypeId)(x:Operand):DH P tab ops nx0 k Q i r dst s (.convert A B x)=Fg P tab ops nx0 k Q (i+1) r dst s (CM tab (ev s.fr) s.hp (nx0+i) (.convert A B x)):=rfl
@[go_sem] theorem ck_ (A:TypeId)(x:Operand)(f:Nat):DH P tab ops nx0 k Q i r dst s (.fieldAddr A x f)=Fg P tab ops nx0 k Q (i+1) r dst s (CM tab (ev s.fr) s.hp (nx0+i) (.fieldAddr A x f)):=rfl
@[go_sem] theorem rX_ (A:TypeId)(x:Operand)(f:Nat):Fh P tab ops nx0 nx k Q i r dst acc fr hp (.fieldAddr A x f)=F2 P tab ops nx0 nx k Q (i+1) r dst acc (Ct (ev fr) (.fieldAddr A x f)) fr hp (CM tab (ev fr) hp (nx0+i) (.fieldAddr A x f)):=rfl
@[go_sem] theorem cl_ (A:TypeId)(x y:Operand):DH P tab ops nx0 k Q i r dst s (.indexAddr A x y)=Fg P tab ops nx0 k Q (i+1) r dst s (CM tab (ev s.fr) s.hp (nx0+i) (.indexAddr A x y)):=rfl
@[go_sem] theorem rY_ (A:TypeId)(x y:Operand):Fh P tab ops nx0 nx k Q i r dst acc fr hp (.indexAddr A x y)=F2 P tab ops nx0 nx k Q (i+1) r dst acc (Ct (ev fr) (.indexAddr A x y)) fr hp (CM tab (ev fr) hp (nx0+i) (.indexAddr A x y)):=rfl
@[go_sem] theorem lN_ (A:TypeId)(x y:Operand):DH P tab ops nx0 k Q i r dst s (.index A x y)=Fg P tab ops nx0 k Q (i+1) r dst s (CM tab (ev s.fr) s.hp (nx0+i) (.index A x y)):=rfl
@[go_sem] theorem lO_ (A:TypeId)(x:Operand)(l h m:Option Operand):DH P tab ops nx0 k Q i r dst s (.slice A x l h m)=Fg P tab ops nx0 k Q (i+1) r dst s (CM tab (ev s.fr) s.hp (nx0+i) (.slice A x l h m)):=rfl
@[go_sem] theorem e8_ (A:TypeId)(x:Operand)(l h m:Option Operand):Fh P tab ops nx0 nx k Q i r dst acc fr hp (.slice A x l h m)=F2 P tab ops nx0 nx k Q (i+1) r dst acc (Ct (ev fr) (.slice A x l h m)) fr hp (CM tab (ev fr) hp (nx0+i) (.slice A x l h m)):=rfl
@[go_sem] theorem a4_ (x:Operand)(f:Nat):DH P tab ops nx0 k Q i r dst s (.extract x f)=Fg P tab ops nx0 k Q (i+1) r dst s (CM tab (ev s.fr) s.hp (nx0+i) (.extract x f)):=rfl
@[go_sem] theorem cO_ (x:Operand)(f:Nat):Fh P tab ops nx0 nx k Q i r dst acc fr hp (.extract x f)=F2 P tab ops nx0 nx k Q (i+1) r dst acc (Ct (ev fr) (.extract x f)) fr hp (CM tab (ev fr) hp (nx0+i) (.extract x f)):=rfl
@[go_sem] theorem cP_ (f:Fn)(u w:Array Operand):DH P tab ops nx0 k Q i r dst s (.makeFunc f u w)=Fg P tab ops nx0 k Q (i+1) r dst s (CM tab (ev s.fr) s.hp (nx0+i) (.makeFunc f u w)):=rfl
@[go_sem] theorem a5_ (b:Builtin)(u:Array Operand)(w:Array TypeId):DH P tab ops nx0 k Q i r dst s (.call { callee:=.builtin b,args:=u,argTypes:=w })=Fg P tab ops nx0 k Q (i+1) r dst s (CM tab (ev s.fr) s.hp (nx0+i) (.call { callee:=.builtin b,args:=u,argTypes:=w })):=rfl
@[go_sem] theorem cQ_ (b:Builtin)(u:Array Operand)(w:Array TypeId):Fh P tab ops nx0 nx k Q i r dst acc fr hp (.call { callee:=.builtin b,args:=u,argTypes:=w })=F2 P tab ops nx0 nx k Q (i+1) r dst acc (Ct (ev fr) (.call { callee:=.builtin b,args:=u,argTypes:=w })) fr hp (CM tab (ev fr) hp (nx0+i) (.call { callee:=.builtin b,args:=u,argTypes:=w })):=rfl
@[go_sem] theorem a6_ (A:TypeId)(x:Option Operand):DH P tab ops nx0 k Q i r dst s (.makeMap A x)=Fg P tab ops nx0 k Q (i+1) r dst s (CM tab (ev s.fr) s.hp (nx0+i) (.makeMap A x)):=rfl
@[go_sem] theorem e9_ (A:TypeId)(x y:Operand)(c:Bool):DH P tab ops nx0 k Q i r dst s (.lookup A x y c)=Fg P tab ops nx0 k Q (i+1) r dst s (CM tab (ev s.fr) s.hp (nx0+i) (.lookup A x y c)):=rfl
@[go_sem] theorem a7_ (A:TypeId)(x y:Operand)(c:Bool):Fh P tab ops nx0 nx k Q i r dst acc fr hp (.lookup A x y c)=F2 P tab ops nx0 nx k Q (i+1) r dst acc (Ct (ev fr) (.lookup A x y c)) fr hp (CM tab (ev fr) hp (nx0+i) (.lookup A x y c)):=rfl
@[go_sem] theorem rZ_ (A:TypeId)(x y z:Operand):Fh P tab ops nx0 nx k Q i r dst acc fr hp (.mapUpdate A x y z)=F2 P tab ops nx0 nx k Q (i+1) r dst acc (Ct (ev fr) (.mapUpdate A x y z)) fr hp (CM tab (ev fr) hp (nx0+i) (.mapUpdate A x y z)):=rfl
theorem IT {α:Type}(k:Nat)(x:α)(f:Nat->α)(j:Nat):upd k x f j=if j=k then x else f j:=rfl
theorem tw (k:IntKind)(n:Int):MC (.int k n)= .v (.int k n):=rfl
theorem tz (b:Bool):MC (.bool b)= .v (.bool b):=rfl
theorem uA (b:ByteArray):MC (.string b)= .v (.string b):=rfl
theorem uB:MC (.slice none 0 0)= .v (.slice none 0 0):=rfl
theorem uC:MC (.pointer none)= .v (.pointer none):=rfl
theorem RT (b:Bool)(x:Value):CE b (.v x)= .v x:=rfl
theorem uD (b:Bool)(x:List (List D)):CE b (.sl x)= .d (.sl x) b:=rfl
theorem uE (b:Bool)(x:List D)(o:Nat):CE b (.pt x o)= .d (.pt x o) b:=rfl
theorem uF (b:Bool)(x:List D):CE b (.ag x)= .d (.ag x) b:=rfl
theorem uG (b:Bool)(x:List D):CE b (.tu x)= .d (.tu x) b:=rfl
theorem RU (fr:Fr)(t:Nat):ev fr (.tmp t)=fr t:=rfl
theorem uH (fr:Fr)(x:Value):ev fr (.const x)=MC x:=rfl
theorem uI (fr:Fr)(f:Nat):ev fr (.func f)= .fn f []:=rfl
theorem uJ (t:Nat)(v:AV)(fr:Fr):CJ (some t) v fr=upd t v fr:=rfl
theorem uK (v:AV)(fr:Fr):CJ none v fr=fr:=rfl
theorem uL (h:Hp):CC [] h=h:=rfl
theorem uM (k:Nat)(o:AO)(r:List (Nat × AO))(h:Hp):CC ((k,o)::r) h=CC r (upd k (some o) h):=rfl
theorem uN (vs:List AV)(t:Nat):Dw vs t=vs.getD t (.tu []):=rfl
theorem uO (t:Nat):AM t=none:=rfl
theorem uP (k:IntKind)(n:Nat):EI (.v (.int k (n:Int)))=some n:=by simp[EI,Xy]
attribute [go_sem] tQ tR tS tT tU RO tV tW RP tX tY tZ ta tc td tf RQ VN VO tg th tj tl Cj DR Ng Lh Lu Li Lw LX LA LL Bool.or_false Ik Be Oq NH OF BI Oy CM KM Mn IT tw tz uA uB uC RT uD uE uF uG RU uH uI uJ uK uL uM uN uO uP Pd Ge KL Ml
end
section
variable (hp:Hp)(b c:Bool)(x:List (List D))(y:List D)(o n i v:Nat)(k:IntKind)(z:Int)(s:ByteArray)(m:List (Value × Bool × List D))(cs:List AV)(f:FuncId)(p:Option Addr)(q:Option Nat)(e:Value)
@[go_sem] theorem VR (i:Nat):JU i []=true:=rfl
@[go_sem] theorem VS:Ce hp (.v (.int k z))=some (.v (.int k z),false,[]):=rfl
@[go_sem] theorem Ta:Ce hp (.v (.bool c))=some (.v (.bool c),false,[]):=rfl
@[go_sem] theorem VT:Ce hp (.v (.string s))=some (.v (.string s),false,[]):=rfl
@[go_sem] theorem VU:Ce hp (.v (.slice none 0 0))=some (.sl [],false,[]):=rfl
@[go_sem] theorem VV:Ce hp (.d (.sl x) b)=some (.sl x,b,[]):=rfl
@[go_sem] theorem YR:Ce hp (.so i v o n)=match hp i with |some (.rw es _ w br _)=>if w=v then some (.sl ((es.drop o).take n),br,[i]) else none |_=>none:=rfl
@[go_sem] theorem ju:Ek hp (.v e)=Ce hp (.v e):=rfl
@[go_sem] theorem YS:Ek hp (.d (.sl x) b)=some (.sl x,b,[]):=rfl
@[go_sem] theorem cC:Ek hp (.so i v o n)=Ce hp (.so i v o n):=rfl
@[go_sem] theorem cD:Ek hp (.ag cs)=(DR hp cs).map fun(ds,b,i)=>(.ag ds,b,i):=rfl
@[go_sem] theorem YT:Ek hp (.d (.ag y) b)=some (.ag y,b&& !J0 y,[]):=rfl
@[go_sem] theorem YU:GL hp (.d (.sl x) b)=some (x,b&& !KK x,[]):=rfl
@[go_sem] theorem VW:GL hp (.so i v o n)=match hp i with |some (.rw es _ w br _)=>if v=w then some ((es.drop o).take n,br,[i]) else none |_=>none:=rfl
@[go_sem] theorem VX:Dv (.v e)=some [.v e]:=rfl
@[go_sem] theorem Tb:Dv (.ag cs)=some cs:=rfl
@[go_sem] theorem lP_:Dv (.d (.ag y) b)=some (y.map (CE b)):=rfl
@[go_sem] theorem lQ_:Dv (.d (.sl x) b)=some [.d (.sl x) b]:=rfl
@[go_sem] theorem lR_:Dv (.d (.pt y o) b)=some [.d (.pt y o) b]:=rfl
@[go_sem] theorem Tc:Dv (.pt i o)=some [.pt i o]:=rfl
@[go_sem] theorem Td:Dv (.so i v o n)=some [.so i v o n]:=rfl
@[go_sem] theorem Tf:Dv (.mo i)=some [.mo i]:=rfl
@[go_sem] theorem cE:GK (.v e)=none:=rfl
@[go_sem] theorem YW:GK (.ag cs)=some cs:=rfl
@[go_sem] theorem VY:GK (.d (.ag y) b)=some (y.map (CE b)):=rfl
@[go_sem] theorem Tg:GD (.pt i o)=true:=rfl
@[go_sem] theorem VZ:TD (.pt i o)=true:=rfl
@[go_sem] theorem Th:TD (.d (.pt y o) b)=true:=rfl
@[go_sem] theorem YX:Pf (.v e)=true:=rfl
@[go_sem] theorem Ti:Pf (.d (.sl x) b)=true:=rfl
@[go_sem] theorem Va:Pf (.pt i o)=true:=rfl
@[go_sem] theorem Vb:Pf (.so i v o n)=true:=rfl
@[go_sem] theorem jv:toR hp (.v e)=Ce hp (.v e):=rfl
@[go_sem] theorem cF:toR hp (.so i v o n)=Ce hp (.so i v o n):=rfl
@[go_sem] theorem cG:toR hp (.tu cs)=(Cj hp cs).map fun(ds,b,i)=>(.tu ds,b,i):=rfl
end
end
section
open Go.RowKit
def YY (P:Program):List Field->Option (List (Nat × Nat))
 |[]=>some []
 |f::r=>match P.info? f.type,YY P r with
  |some i,some l=>some ((f.offset,i.size)::l)
  |_,_=>none
theorem jw {P:Program}:∀ {d:List Field} {l:List (Nat × Nat)},YY P d=some l->d.length=l.length/\∀(i:Nat) (f:Field),d[i]? =some f->∃w,P.info? f.type=some w/\l[i]? =some (f.offset,w.size)
 |[],l,h=>by
  cases h;exact⟨rfl,fun i f h=>by simp at h⟩
 |f::r,l,h=>by
  unfold YY at h;split at h
  ·rename_i i E A B;cases h
   have:=jw B;refine⟨by simp[this.1],fun k C u=> ?_⟩;cases k with |zero=>simp only[Nf,Lf] at u;subst u;exact⟨i,A,rfl⟩ |succ k=>exact this.2 k C (by simpa using u)
  cases h
def Tj (P:Program):TypeDesc->Option (TK × Nat × List (Nat × Nat))
 | .slice e=>some (.slice,e,[])
 | .string=>some (.string,0,[])
 | .int k=>some (.int k,0,[])
 | .bool=>some (.bool,0,[])
 | .pointer e=>some (.ptr,e,[])
 | .map _ e=>some (.map,e,[])
 | .struct d=>(YY P d.toList).map fun l=>(.struct,0,l)
 | .array _ _=>none
 |_=>some (.other,0,[])
def Tm (d:Nat->Option (List TK)):Nat->List Field->Option (List TK)
 |_,[]=>some []
 |h,f::r=>if f.name≠ "_" /\f.offset=h then match d f.type with
  |some u=>match Tm d (h+u.length) r with
   |some l=>some (u++l)
   |none=>none
  |none=>none else none
def flatK (P:Program):Nat->Nat->Option (List TK)
 |0,_=>none
 |d+1,t=>match P.underlying t with
  |some .bool=>some [.bool]
  |some (.int k)=>some [.int k]
  |some .string=>some [.string]
  |some (.struct h)=>if P.stoodInHeld t=false/\P.eqGuardType P.depth t=false then match P.info? t,Tm (flatK P d) 0 h.toList with
   |some i,some l=>if i.size=l.length then some l else none
   |_,_=>none else none
  |_=>none
theorem jx:∀ {d l:List TK} {u w:List Value} {b:Bool},EH (d++l) u w=some b->∃A B,EH d (u.take d.length) (w.take d.length)=some A/\EH l (u.drop d.length) (w.drop d.length)=some B/\b=(A&&B)
 |[],l,u,w,b,h=>⟨true,b,by simp[EH],by simpa using h,by simp⟩
 |k::d,l,[],w,b,h=>by simp[EH] at h
 |k::d,l,x::u,[],b,h=>by simp[EH] at h
 |k::d,l,x::u,y::w,b,h=>by
  simp only[LL,EH] at h;split at h
  ·rename_i C J E F;have⟨A,B,G,H,I⟩:=jx F;refine⟨C&&A,B,by simp[EH,E,G],by simpa using H,?_⟩;cases h;rw[I,Oz]
  cases h
def cH (P:Program)(l:Nat)(t:Nat)(u:List TK):Prop:=∀(w:World) (d h:Array Value) (b:Bool),EH u d.toList h.toList=some b->(Op.equalIn l t (.agg d) (.agg h)).run P w= .ok b w
def cI (P:Program)(A:Nat)(t:Nat)(h:List TK):Prop:=∀(w:World) (l u:Array Value) (d:Nat) (b:Bool),EH h ((l.toList.drop d).take h.length) ((u.toList.drop d).take h.length)=some b->∃a c,(part t l d).run P w= .ok a w/\(part t u d).run P w= .ok c w/\(Op.equalIn A t a c).run P w= .ok b w
theorem RW {t:Nat}{d:TypeDesc}{y:Value}{b:Bool}(l:P.underlying t=some d)(u:(d= .bool/\k= .bool)\/(d= .string/\k= .string)\/∃q,d= .int q/\k= .int q)(h:Gf k x y=some b)(A:Nat)(w:World):(Op.equalIn (A+1) t x y).run P w= .ok b w:=by
 rcases u with⟨rfl,rfl⟩ |⟨rfl,rfl⟩ |⟨q,rfl,rfl⟩<;>(unfold Gf at h;split at h<;>simp_all [Op.equalIn,run_underlying l]<;>(have⟨⟨B,C⟩,E⟩:=h;subst B;subst C;simp))
theorem RX {xs:List Value}{d:Nat}{u:List Value}{b:Bool}(h:EH [k] ((xs.drop d).take 1) ((u.drop d).take 1)=some b):∃x y,xs[d]? =some x/\u[d]? =some y/\Gf k x y=some b:=by
 have A:(xs.drop d).take 1=(xs[d]?).toList:=by
  cases e:xs[d]? with
  |none=>simp at e;simp[e]
  |some x=>rw[Lb] at e;have⟨l,w⟩:=e;rw[Lm l];simp[w]
 have B:(u.drop d).take 1=(u[d]?).toList:=by
  cases e:u[d]? with
  |none=>simp at e;simp[e]
  |some x=>rw[Lb] at e;have⟨l,w⟩:=e;rw[Lm l];simp[w]
 rw[A,B] at h;cases l:xs[d]? with
 |none=>rw[l] at h;simp[EH] at h
 |some x=>
  cases w:u[d]? with
  |none=>rw[l,w] at h;simp[EH] at h
  |some y=>
   rw[l,w] at h;simp only[OB,EH] at h;split at h
   ·rename_i F G C E;cases E;cases h;exact⟨x,y,rfl,rfl,by simpa using C⟩
   cases h
theorem jy {P:Program}{F:Nat->Option (List TK)}{G:Nat}(H:∀t l,F t=some l->cI P G t l):∀(E:List Field) (d:Nat) (l:List TK),Tm F d E=some l->
  ∀(w:World) (A B:Array Value) (b:Bool),EH l (A.toList.drop d) (B.toList.drop d)=some b->(Op.eqFields G A B E).run P w= .ok b w
 |[],d,l,h,w,A,B,b,C=>by
  cases h
  have:b=true:=by
   generalize A.toList.drop d=u at C;generalize B.toList.drop d=v at C;cases u<;>cases v<;>simp[EH] at C;exact C
  subst this;simp[Op.eqFields]
 |f::E,d,l,h,w,A,B,b,C=>by
  unfold Tm at h;split at h
  ·rename_i I;split at h
   ·rename_i L M;split at h
    ·rename_i N O;cases h;obtain⟨J,R,S,K,rfl⟩:=jx C;have⟨a,c,U,V,X⟩:=H _ _ M w A B d J S;rw[BU,BU] at K;have Y:=jy H E (d+L.length) N O w A B R K;simp only[Op.eqFields,I.1,ne_eq,not_false_eq_true,if_true,I.2,Sem.run_bind,U,V,X,Result.andThen_ok];cases J
     ·simp
     simpa using Y
    cases h
   cases h
  cases h
theorem uQ {d t:Nat}{u:List TK}(h:flatK P d t=some u):(∃l,P.underlying t=some (.struct l))->P.eqGuardType P.depth t=false:=by
 rintro⟨l,w⟩;cases d with
 |zero=>cases h
 |succ d=>
  unfold flatK at h;simp only[w] at h;split at h
  ·rename_i A;exact A.2
  cases h
theorem YZ {P:Program}(n:Nat):∀(d t:Nat) (u:List TK),flatK P d t=some u->cI P (n+d) t u/\((∃C,P.underlying t=some (.struct C))->cH P (n+d) t u)
 |0,t,u,h=>by cases h
 |d+1,t,u,h=>by
  have J:∀(E:TypeDesc) (k:TK),P.underlying t=some E->((E= .bool/\k= .bool)\/(E= .string/\k= .string)\/∃q,E= .int q/\k= .int q)->u= [k]->cI P (n+(d+1)) t u/\((∃C,P.underlying t=some (.struct C))->cH P (n+(d+1)) t u):=by
   intro E k A K e;subst e;refine⟨fun w F G B b H=> ?_,fun⟨C,I⟩=> ?_⟩
   ·obtain⟨x,y,R,S,U⟩:=RX (by simpa using H);have hp:P.plainKey t=true:=(by rcases K with⟨rfl,_⟩ |⟨rfl,_⟩ |⟨q,rfl,_⟩<;>simp[Program.plainKey,A]);exact⟨x,y,run_part_plain w hp (by simpa using R),run_part_plain w hp (by simpa using S),RW A K U (n+d) w⟩
   rw[A] at I;rcases K with⟨rfl,_⟩ |⟨rfl,_⟩ |⟨q,rfl,_⟩<;>cases I
  unfold flatK at h;split at h
  ·rename_i A;exact J _ .bool A (.inl ⟨rfl,rfl⟩) (by cases h;rfl)
  ·rename_i q A;exact J _ (.int q) A (.inr (.inr ⟨q,rfl,rfl⟩)) (by cases h;rfl)
  ·rename_i A;exact J _ .string A (.inr (.inl ⟨rfl,rfl⟩)) (by cases h;rfl)
  ·rename_i C A;split at h
   ·rename_i V;split at h
    ·rename_i i l M X;split at h
     ·rename_i Y;cases h;have N:P.fieldsOf t=C:=(by simp[Program.fieldsOf,A]);have I:cH P (n+(d+1)) t u:=by
       intro w F G b H;rw[show n+(d+1)=(n+d)+1 from rfl,run_equalIn_struct w (n+d) t F G (by rw[N];exact A) V.1,N];exact jy (fun Z aa h'=>(YZ n d Z aa h').1) C.toList 0 u X w F G b (by simpa using H)
      refine⟨fun w F G B b H=> ?_,fun _=>I⟩;have hc:P.cellsOf t=u.length:=(by simp[Program.cellsOf,M,Y]);have O:∀L:Array Value,(L.extract B (B+u.length)).toList=(L.toList.drop B).take u.length:=fun L=>by
       rw[O5];simp[List.extract]
      refine⟨.agg (F.extract B (B+u.length)),.agg (G.extract B (B+u.length)),?_,?_,I w _ _ b (by rw[O,O];exact H)⟩<;>simp[part,isAgg,run_underlying A,run_sizeOf w M,hc]
     cases h
    cases h
   cases h
  cases h
def Ya (P:Program)(k:TK)(T:Nat):Option (List TK):=match k with
 | .struct=>flatK P 20 T
 |_=>none
def KW:TK->Bool
 | .struct | .array _=>true
 |_=>false
def Pl (k:TK)(z:Value):Bool:=z.cells.toList.all (·.oneCell')&&(match KW k,z with
 |true,.agg _=>true
 |false,z=>z.oneCell'
 |_,_=>false)
theorem Tn {z:Value}(h:Pl k z=true):(∀x∈z.cells.toList,x.oneCell'=true)/\(KW k=true->∃vs,z= .agg vs)/\(KW k=false->z.oneCell'=true):=by
 unfold Pl at h;rw[Ln] at h;refine⟨fun x l=>LP.1 h.1 x l,fun d=> ?_,fun d=> ?_⟩
 ·have:=h.2;rw[d] at this;cases z<;>first |exact⟨_,rfl⟩ |cases this
 have:=h.2;rw[d] at this;exact this
theorem cJ (t:TI):t.agg=KW t.kind:=by unfold TI.agg KW;cases t.kind<;>rfl
def Hh (P:Program)(T:Nat):TI:=
 match P.info? T,P.underlying T with
 |some i,some d=>match i.zero,Tj P d with
  |some z,some (k,e,l)=>if z.cells.size=i.size/\Pl k z=true then{ ok:=true,kind:=k,size:=i.size,bytes:=i.bytes,offs:=l,elem:=e,zero:=z.cells.toList,flat:=Ya P k T } else{}
  |_,_=>{}
 |_,_=>{}
theorem Mv (P:Program)(T:Nat):Hh P T={}\/∃i d z k e l,P.info? T=some i/\P.underlying T=some d/\i.zero=some z/\Tj P d=some (k,e,l)/\z.cells.size=i.size/\Pl k z=true/\Hh P T={ ok:=true,kind:=k,size:=i.size,bytes:=i.bytes,offs:=l,elem:=e,zero:=z.cells.toList,flat:=Ya P k T }:=by
 unfold Hh;split
 ·rename_i i d u w;split
  ·rename_i z k e l A B;split
   ·rename_i h;exact .inr ⟨i,d,z,k,e,l,u,w,A,B,h.1,h.2,rfl⟩
   exact .inl rfl
  exact .inl rfl
 exact .inl rfl
theorem jz {T:Nat}{d:TypeDesc}{C:Nat}{l:List (Nat × Nat)}{B:List TK}(E:P.underlying T=some d)(u:Tj P d=some (k,C,l))(h:Ya P k T=some B):(∃w,P.underlying T=some (.struct w))/\flatK P 20 T=some B:=by
 cases d<;>simp only[Tj,Lf,LB,La,reduceCtorEq] at u
 case struct w=>
  have⟨F,_,A,_⟩:=u;subst A;exact⟨⟨w,E⟩,h⟩
 all_goals (have⟨A,_⟩:=u;subst A;simp[Ya] at h)
theorem Vc (P:Program):Ad P (Hh P) where
 mkey T q h:=by
  obtain e |⟨i,d,z,k,G,l,C,A,E,u,F,B,e⟩:=Mv P T<;>(rw[e] at h;cases h)
 dflt T h:=by
  obtain e |⟨i,d,z,k,G,l,C,A,E,u,F,B,e⟩:=Mv P T
  ·exact e
  rw[e] at h;cases h
 info T h:=by
  obtain e |⟨i,d,z,k,G,l,C,A,E,u,F,B,e⟩:=Mv P T
  ·rw[e] at h;cases h
  rw[e];exact⟨i,z,C,rfl,rfl,E,by simp,by simpa using F,(Tn B).1,by rw[cJ];exact(Tn B).2⟩
 kind T h:=by
  obtain e |⟨i,d,z,k,G,l,C,A,E,u,F,B,e⟩:=Mv P T
  ·rw[e] at h;cases h
  rw[e];refine⟨d,A,?_⟩;cases d with
  |struct K=>
   simp only[Tj,La] at u;have⟨O,H,I⟩:=u;cases I;have⟨L,M⟩:=jw H;exact⟨K,rfl,by simpa using L,fun i f N=>M i f (by simpa using N)⟩
  |pointer J=>cases u;exact⟨_,rfl⟩
  |map R J=>cases u;exact⟨_,rfl⟩
  |array n J=>cases u
  |_=>cases u;first |rfl |trivial
 flat T ks h xs ys b hb w:=by
  obtain e |⟨i,d,z,k,G,l,C,A,E,u,F,B,e⟩:=Mv P T
  ·rw[e] at h;cases h
  rw[e] at h;have⟨H,I⟩:=jz A u h;exact(YZ 9980 20 T ks I).2 H w xs.toArray ys.toArray b (by simpa using hb)
 guard T ks h:=by
  obtain e |⟨i,d,z,k,G,l,C,A,E,u,F,B,e⟩:=Mv P T
  ·rw[e] at h;cases h
  rw[e] at h;have⟨H,I⟩:=jz A u h;exact uQ I H
def Dx (P:Program)(T:Nat):TI:=
 match P.info? T,P.underlying T with
 |some i,some (.array n e)=>match i.zero with
  |some z=>if z.cells.size=i.size/\Pl (.array n) z=true/\(Hh P e).ok=true then{ ok:=true,kind:=.array n,size:=i.size,bytes:=i.bytes,offs:=(List.range n).map fun j=>(j*(Hh P e).size,(Hh P e).size),elem:=e,zero:=z.cells.toList } else{}
  |none=>{}
 |_,_=>Hh P T
theorem To (P:Program)(T:Nat):Dx P T=Hh P T\/Dx P T={}\/∃i n e z,P.info? T=some i/\P.underlying T=some (.array n e)/\i.zero=some z/\z.cells.size=i.size/\Pl (.array n) z=true/\(Hh P e).ok=true/\Dx P T={ ok:=true,kind:=.array n,size:=i.size,bytes:=i.bytes,offs:=(List.range n).map fun j=>(j*(Hh P e).size,(Hh P e).size),elem:=e,zero:=z.cells.toList }:=by
 unfold Dx;split
 ·rename_i i n e h l;split
  ·rename_i z u;split
   ·rename_i d;exact .inr (.inr ⟨i,n,e,z,h,l,u,d.1,d.2.1,d.2.2,rfl⟩)
   exact .inr (.inl rfl)
  exact .inr (.inl rfl)
 exact .inl rfl
theorem kA {T:Nat}(h:(Hh P T).ok=true):Dx P T=Hh P T:=by
 obtain e |⟨i,d,z,k,B,l,u,w,C,A,E,F,e⟩:=Mv P T
 ·rw[e] at h;cases h
 unfold Dx;rw[u,w];cases d with
 |array n G=>cases A
 |_=>rfl
theorem kB (P:Program)(T:Nat):(Dx P T).mkey=none:=by
 obtain e |e |⟨i,n,h,z,u,w,A,B,C,E,e⟩:=To P T
 ·rw[e];obtain e |⟨i,d,z,k,h,l,u,w,A,B,C,E,e⟩:=Mv P T<;>rw[e]
 ·rw[e]
 rw[e]
theorem Vd (P:Program):Ad P (Dx P) where
 mkey T q h:=by rw[kB] at h;cases h
 dflt T h:=by
  obtain e |e |⟨i,n,G,z,C,E,F,A,B,u,e⟩:=To P T
  ·rw[e] at h⊢;exact(Vc P).dflt T h
  ·exact e
  rw[e] at h;cases h
 info T h:=by
  obtain e |e |⟨i,n,G,z,C,E,F,A,B,u,e⟩:=To P T
  ·rw[e] at h⊢;exact(Vc P).info T h
  ·rw[e] at h;cases h
  rw[e];exact⟨i,z,C,rfl,rfl,F,by simp,by simpa using A,(Tn B).1,by rw[cJ];exact(Tn B).2⟩
 kind T h:=by
  obtain e |e |⟨i,n,G,z,C,E,F,A,B,u,e⟩:=To P T
  ·rw[e] at h⊢;have⟨d,K,J⟩:=(Vc P).kind T h;refine⟨d,K,?_⟩;cases I:(Hh P T).kind with
   |array n=>
    exfalso;obtain e |⟨i,d,z,k,G,l,C,E,F,A,B,u,e⟩:=Mv P T
    ·rw[e] at h;cases h
    ·rw[e] at I;simp only at I;subst I;cases d<;>simp[Tj] at A
   |_=>rw[I] at J;exact J
  ·rw[e] at h;cases h
  rw[e];refine⟨_,E,rfl,by rw[kA u];exact u,fun j p hp=> ?_⟩;simp only[Lp,La] at hp;obtain⟨L,H,rfl⟩:=hp;rw[Lb] at H;have⟨_,H⟩:=H;simp only[Il] at H;subst H;rw[kA u]
 flat T ks h xs ys b hb w:=by
  obtain e |e |⟨i,n,G,z,C,E,F,A,B,u,e⟩:=To P T
  ·rw[e] at h;exact(Vc P).flat T ks h xs ys b hb w
  ·rw[e] at h;cases h
  rw[e] at h;cases h
 guard T ks h:=by
  obtain e |e |⟨i,n,G,z,C,E,F,A,B,u,e⟩:=To P T
  ·rw[e] at h;exact(Vc P).guard T ks h
  ·rw[e] at h;cases h
  rw[e] at h;cases h
def Hi (P:Program)(T:Nat):TI:=
 if (Dx P T).ok=true then Dx P T else match P.info? T,P.underlying T with
 |some i,some (.array n e)=>match i.zero with
  |some z=>if z.cells.size=i.size/\Pl (.array n) z=true/\(Dx P e).ok=true then{ ok:=true,kind:=.array n,size:=i.size,bytes:=i.bytes,offs:=(List.range n).map fun j=>(j*(Dx P e).size,(Dx P e).size),elem:=e,zero:=z.cells.toList } else{}
  |none=>{}
 |_,_=>{}
theorem Tp (P:Program)(T:Nat):Hi P T=Dx P T\/Hi P T={}\/∃i n e z,P.info? T=some i/\P.underlying T=some (.array n e)/\i.zero=some z/\z.cells.size=i.size/\Pl (.array n) z=true/\(Dx P e).ok=true/\Hi P T={ ok:=true,kind:=.array n,size:=i.size,bytes:=i.bytes,offs:=(List.range n).map fun j=>(j*(Dx P e).size,(Dx P e).size),elem:=e,zero:=z.cells.toList }:=by
 unfold Hi;split
 ·exact .inl rfl
 split
 ·rename_i i n e h l;split
  ·rename_i z u;split
   ·rename_i d;exact .inr (.inr ⟨i,n,e,z,h,l,u,d.1,d.2.1,d.2.2,rfl⟩)
   exact .inr (.inl rfl)
  exact .inr (.inl rfl)
 exact .inr (.inl rfl)
theorem cK {T:Nat}(h:(Dx P T).ok=true):Hi P T=Dx P T:=by
 unfold Hi;rw[if_pos h]
theorem uR (P:Program)(T:Nat):(Hi P T).mkey=none:=by
 obtain e |e |⟨i,n,d,z,h,l,u,w,A,B,e⟩:=Tp P T
 ·rw[e];exact kB P T
 ·rw[e]
 rw[e]
theorem Ve (P:Program):Ad P (Hi P) where
 mkey T q h:=by rw[uR] at h;cases h
 dflt T h:=by
  obtain e |e |⟨i,n,H,z,B,C,E,F,u,l,e⟩:=Tp P T
  ·rw[e] at h⊢;exact(Vd P).dflt T h
  ·exact e
  rw[e] at h;cases h
 info T h:=by
  obtain e |e |⟨i,n,H,z,B,C,E,F,u,l,e⟩:=Tp P T
  ·rw[e] at h⊢;exact(Vd P).info T h
  ·rw[e] at h;cases h
  rw[e];exact⟨i,z,B,rfl,rfl,E,by simp,by simpa using F,(Tn u).1,by rw[cJ];exact(Tn u).2⟩
 kind T h:=by
  obtain e |e |⟨i,n,H,z,B,C,E,F,u,l,e⟩:=Tp P T
  ·rw[e] at h⊢;have⟨d,J,A⟩:=(Vd P).kind T h;refine⟨d,J,?_⟩;cases I:(Dx P T).kind with
   |array n=>
    rw[I] at A;simp only at A⊢;rw[cK A.2.1];exact A
   |_=>rw[I] at A;exact A
  ·rw[e] at h;cases h
  rw[e];refine⟨_,C,rfl,by rw[cK l];exact l,fun j p hp=> ?_⟩;simp only[Lp,La] at hp;obtain⟨K,G,rfl⟩:=hp;rw[Lb] at G;have⟨_,G⟩:=G;simp only[Il] at G;subst G;rw[cK l]
 flat T ks h xs ys b hb w:=by
  obtain e |e |⟨i,n,H,z,B,C,E,F,u,l,e⟩:=Tp P T
  ·rw[e] at h;exact(Vd P).flat T ks h xs ys b hb w
  ·rw[e] at h;cases h
  rw[e] at h;cases h
 guard T ks h:=by
  obtain e |e |⟨i,n,H,z,B,C,E,F,u,l,e⟩:=Tp P T
  ·rw[e] at h;exact(Vd P).guard T ks h
  ·rw[e] at h;cases h
  rw[e] at h;cases h
def cL (P:Program)(u:Nat)(t:Nat)(d:List TK):Prop:=∀(w:World) (A:Bool) (h:Array Value) (l:Nat),GN d ((h.toList.drop l).take d.length)=true->∃a,(part t h l).run P w= .ok a w/\(Instr.checkKey A u t a).run P w= .ok () w
def cM (P:Program)(h:Nat)(t:Nat)(l:List TK):Prop:=∀(w:World) (u:Bool) (d:Array Value),GN l d.toList=true->(Instr.checkKey u h t (.agg d)).run P w= .ok () w
theorem kC:∀ {d l:List TK} {u:List Value},GN (d++l) u=true->GN d (u.take d.length)=true/\GN l (u.drop d.length)=true
 |[],l,u,h=>⟨by simp[GN],by simpa using h⟩
 |k::d,l,[],h=>by simp[GN] at h
 |k::d,l,x::u,h=>by
  simp only[LL,GN,Ln] at h;have⟨w,A⟩:=kC h.2;exact⟨by simp[GN,h.1,w],by simpa using A⟩
theorem cO:∀ {l:List TK} {d:List Value},GN l d=true->∃b,EH l d d=some b
 |[],[],_=>⟨true,rfl⟩
 |[],_::_,h=>by simp[GN] at h
 |_::_,[],h=>by simp[GN] at h
 |k::l,x::d,h=>by
  simp only[GN,Ln] at h;have⟨b,u⟩:=cO h.2
  have:∃c,Gf k x x=some c:=by
   have:=h.1;unfold Q5 at this;split at this
   ·exact⟨_,by rw[Gf,if_pos ⟨by simpa using this,by simpa using this⟩]⟩
   ·exact⟨_,rfl⟩
   ·exact⟨_,rfl⟩
   cases this
  have⟨c,w⟩:=this;exact⟨c&&b,by simp[EH,w,u]⟩
theorem kD {P:Program}{A:Nat->Option (List TK)}{B:Nat}{em:Bool}(C:∀t d,A t=some d->cL P B t d)(w:World)(xs:Array Value):∀(u:List Field) (l:Nat) (d:List TK),Tm A l u=some d->GN d (xs.toList.drop l)=true->
  (forIn (m:=Sem) u PUnit.unit fun(f:Field) (_:PUnit)=>do
   if f.name≠ "_" then Instr.checkKey em B f.type (<-part f.type xs f.offset)
   pure (ForInStep.yield PUnit.unit)).run P w= .ok PUnit.unit w
 |[],l,d,h,E=>by simp
 |f::u,l,d,h,E=>by
  unfold Tm at h;split at h
  ·rename_i F;split at h
   ·rename_i H I;split at h
    ·rename_i J K;cases h;have⟨L,G⟩:=kC E;have⟨a,M,N⟩:=C _ _ I w em xs l L;rw[BU] at G;have O:=kD (em:=em) C w xs u (l+H.length) J K G;simp only[List.forIn_cons,Sem.run_bind,F.1,ne_eq,not_false_eq_true,if_true,F.2,M,N,Result.andThen_ok,Sem.run_pure];exact O
    cases h
   cases h
  cases h
theorem kE {P:Program}(n:Nat):∀(d t:Nat) (u:List TK),flatK P d t=some u->cL P (n+d) t u/\((∃E,P.underlying t=some (.struct E))->cM P (n+d) t u)
 |0,t,u,h=>by cases h
 |d+1,t,u,h=>by
  have N:=YZ n (d+1) t u h;have J:∀(G:TypeDesc) (k:TK),P.underlying t=some G->(G= .bool\/G= .string\/∃q,G= .int q)->cL P (n+(d+1)) t u/\((∃E,P.underlying t=some (.struct E))->cM P (n+(d+1)) t u):=by
   intro G k A K;refine⟨fun w H B C F=> ?_,fun⟨E,I⟩=> ?_⟩
   ·have⟨b,L⟩:=cO F;have⟨a,c,O,_,_⟩:=N.1 w B B C b L;refine⟨a,O,?_⟩;rw[show n+(d+1)=(n+d)+1 from rfl];rcases K with rfl |rfl |⟨q,rfl⟩<;>simp[Instr.checkKey,run_underlying A]
   rw[A] at I;rcases K with rfl |rfl |⟨q,rfl⟩<;>cases I
  unfold flatK at h;split at h
  ·rename_i A;exact J _ .bool A (.inl rfl)
  ·rename_i q A;exact J _ (.int q) A (.inr (.inr ⟨q,rfl⟩))
  ·rename_i A;exact J _ .string A (.inr (.inl rfl))
  ·rename_i E A;split at h;rotate_left
   ·cases h
   rename_i aa;split at h
   ·rename_i i l M R;split at h
    ·rename_i S;cases h;have I:cM P (n+(d+1)) t u:=by
      intro w H B F;rw[show n+(d+1)=(n+d)+1 from rfl,Instr.checkKey];simp only[Sem.run_bind,run_underlying A,Result.andThen_ok];rw[<-Array.forIn_toList]
      have:=kD (em:=H) (fun U V X=>(kE n d U V X).1) w B E.toList 0 u R (by simpa using F);simp at this⊢;rw[this];rfl
     refine⟨fun w H B C F=> ?_,fun _=>I⟩;have⟨b,L⟩:=cO F;have Y:P.cellsOf t=u.length:=(by simp[Program.cellsOf,M,S]);have Z:(B.extract C (C+u.length)).toList=(B.toList.drop C).take u.length:=by
      rw[O5];simp[List.extract]
     exact⟨.agg (B.extract C (C+u.length)),by simp[part,isAgg,run_underlying A,run_sizeOf w M,Y],I w H _ (by rw[Z];exact F)⟩
    cases h
   cases h
  cases h
def KX (P:Program)(kt:Nat):Option (Bool × List TK):=match P.underlying kt with
 |some .string=>some (false,[.string])
 |some (.int k)=>some (false,[.int k])
 |some .bool=>some (false,[.bool])
 |some (.struct _)=>(flatK P 20 kt).map fun d=>(true,d)
 |_=>none
def Yb (P:Program)(T:Nat):Option (Bool × List TK):=if (Hi P T).kind= .map then match P.underlying T with
 |some (.map kt e)=>if (Hi P e).ok=true/\e=(Hi P T).elem then KX P kt else none
 |_=>none else none
def Jc (P:Program)(T:Nat):TI:={ Hi P T with mkey:=Yb P T }
theorem kF {y:Value}(h:Gf k x y=some true):y=x:=by
 unfold Gf at h;split at h
 ·split at h
  ·rename_i d;simp only[Lf,beq_iff_eq] at h;rw[h,<-d.1,<-d.2]
  cases h
 ·rename_i a b;simp only[Lf] at h;rw[(MapKept.bytes_beq a b).1 h]
 ·simp only[Lf,beq_iff_eq] at h;rw[h]
 cases h
theorem kG:∀ {u:List TK} {d l:List Value},EH u d l=some true->l=d
 |[],[],[],_=>rfl
 |[],[],_::_,h=>by simp[EH] at h
 |[],_::_,_,h=>by simp[EH] at h
 |_::_,[],_,h=>by simp[EH] at h
 |_::_,_::_,[],h=>by simp[EH] at h
 |k::u,x::d,y::l,h=>by
  simp only[EH] at h;split at h
  ·rename_i b c w A;simp only[Lf,Ln] at h;obtain⟨rfl,rfl⟩:=h;rw[kF w,kG A]
  cases h
theorem kH (h:Q5 k x=true)(n:Nat):Instr.sameBits n x x=true:=by
 unfold Q5 at h;split at h
 ·simp[Instr.sameBits]
 ·simp[Instr.sameBits,MapKept.bytes_beq]
 ·simp[Instr.sameBits]
 cases h
theorem kI (n:Nat):∀ {l:List TK} {d:List Value},GN l d=true->((d.zip d).all fun(x,y)=>Instr.sameBits n x y)=true
 |[],[],_=>rfl
 |[],_::_,h=>by simp[GN] at h
 |_::_,[],h=>by simp[GN] at h
 |k::l,x::d,h=>by
  simp only[GN,Ln] at h;simp[kH h.1 n];simpa using kI n h.2
theorem uS {d:TypeDesc}(C:P.underlying kt=some d)(A:∀y b,Gf k x y=some b->Instr.sameNow d x y=some b)(l:List MapEntry)(r:Option Nat)(h:J8 (false,[k]) x (l.map (·.key))=some r)(w:World):
  (Instr.findKey kt x l).run P w= .ok (r.bind fun i=>(l[i]?).map fun e=>(i,e.val)) w:=by
 refine MapKept.run_findKey C ?_
 have:∀(l:List MapEntry) (r:Option Nat) (j:Nat),J8 (false,[k]) x (l.map (·.key))=some r->Instr.findNow d x l j=some (r.bind fun i=>(l[i]?).map fun e=>(j+i,e.val)):=by
  intro l;induction l with
  |nil=>intro r j h;cases h;rfl
  |cons e G B=>
   intro r j h;rw[Li] at h;unfold J8 at h;split at h
   ·rename_i u;cases h;simp[Instr.findNow,A _ _ u]
   ·rename_i u;simp only[Instr.findNow,A _ _ u];split at h
    ·rename_i i E;cases h;rw[B _ (j+1) E];simp only[LU,BG];congr 2;funext e;rw[In,Ny]
    rename_i o F;rw[B _ (j+1) h];cases r with |none=>rfl |some i=>exact absurd h (F i)
   cases h
 simpa using this l r 0 h
theorem uT {fs:Array Field}{l:List TK}{xs:Array Value}(G:P.underlying kt=some (.struct fs))(H:∀u b,EH l xs.toList u=some b->∀w,(Op.equal kt (.agg xs) (.agg u.toArray)).run P w= .ok b w)(d:List MapEntry)(r:Option Nat)(h:J8 (true,l) (.agg xs) (d.map (·.key))=some r)(w:World):
  (Instr.findKey kt (.agg xs) d).run P w= .ok (r.bind fun i=>(d[i]?).map fun e=>(i,e.val)) w:=by
 rw[run_findKey_eq (P:=P) w (by simp[G])]
 have:∀(d:List MapEntry) (r:Option Nat) (j:Nat),J8 (true,l) (.agg xs) (d.map (·.key))=some r->(Instr.findAsking kt (.agg xs) d j).run P w= .ok (r.bind fun i=>(d[i]?).map fun e=>(j+i,e.val)) w:=by
  intro d;induction d with
  |nil=>intro r j h;cases h;simp[Instr.findAsking]
  |cons e K C=>
   intro r j h;rw[Li] at h;have E:∀b,KN (true,l) (.agg xs) e.key=some b->(Op.equal kt (.agg xs) e.key).run P w= .ok b w:=by
    intro b A;cases F:e.key with |agg u=>rw[F] at A;exact H u.toList b A w |_=>rw[F] at A;cases A
   unfold J8 at h;split at h
   ·rename_i B;cases h;simp[Instr.findAsking,E _ B]
   ·rename_i B;simp only[Instr.findAsking,Sem.run_bind,E _ B,Result.andThen_ok,Nr,if_false];split at h
    ·rename_i i I;cases h;rw[C _ (j+1) I];simp only[LU,BG];congr 2;funext e;rw[In,Ny]
    rename_i o J;rw[C _ (j+1) h];cases r with |none=>rfl |some i=>exact absurd h (J i)
   cases h
 simpa using this d r 0 h
theorem uU {q:Bool × List TK}(h:KX P kt=some q)(x:Value)(A:Gg q x=true):(∀w e,(Instr.checkKey e 10000 kt x).run P w= .ok () w)/\
  (∀y,KN q x y=some true->y=x/\Instr.sameBits 10000 x x=true)/\∀(u:List MapEntry) (r:Option Nat),J8 q x (u.map (·.key))=some r->∀w,(Instr.findKey kt x u).run P w= .ok (r.bind fun i=>(u[i]?).map fun e=>(i,e.val)) w:=by
 have F:∀(d:TypeDesc) (k:TK),P.underlying kt=some d->((d= .string/\k= .string)\/(d= .bool/\k= .bool)\/∃i,d= .int i/\k= .int i)->Q5 k x=true->(∀w e,(Instr.checkKey e 10000 kt x).run P w= .ok () w)/\
  (∀y,KN (false,[k]) x y=some true->y=x/\Instr.sameBits 10000 x x=true)/\∀(u:List MapEntry) (r:Option Nat),J8 (false,[k]) x (u.map (·.key))=some r->∀w,(Instr.findKey kt x u).run P w= .ok (r.bind fun i=>(u[i]?).map fun e=>(i,e.val)) w:=by
  intro d k l J A;refine⟨fun w e=> ?_,fun y B=>⟨kF B,kH A _⟩,fun u r G w=>uS l (fun y b B=> ?_) u r G w⟩
  ·have:∀n,(Instr.checkKey e (n+1) kt x).run P w= .ok () w:=fun n=>by
    rcases J with⟨rfl,_⟩ |⟨rfl,_⟩ |⟨i,rfl,_⟩<;>simp[Instr.checkKey,run_underlying l]
   exact this 9999
  rcases J with⟨rfl,rfl⟩ |⟨rfl,rfl⟩ |⟨i,rfl,rfl⟩<;>(unfold Gf at B;split at B<;>simp_all [Instr.sameNow]<;>(have⟨⟨E,M⟩,R⟩:=B;subst E;subst M;simp))
 unfold KX at h;split at h
 ·rename_i l;cases h;exact F _ _ l (.inl ⟨rfl,rfl⟩) A
 ·rename_i k l;cases h;exact F _ _ l (.inr (.inr ⟨k,rfl,rfl⟩)) A
 ·rename_i l;cases h;exact F _ _ l (.inr (.inl ⟨rfl,rfl⟩)) A
 ·rename_i K l;obtain⟨L,E,rfl⟩:=La.1 h;cases x with
  |agg H=>
   have N:=(kE 9980 20 kt L E).2 ⟨K,l⟩;have O:=(YZ 9980 20 kt L E).2 ⟨K,l⟩;refine⟨fun w e=>N w e H A,fun y B=> ?_,fun u r G w=>uT l (fun C b I w=>O w H C.toArray b (by simpa using I)) u r G w⟩;cases y with
   |agg C=>
    have:=kG B;have e:C=H:=(by apply IH;exact this);subst e;refine⟨rfl,?_⟩;have I:=kI 9999 A;show(C.size==C.size&&(C.toList.zip C.toList).all fun(x,y)=>Instr.sameBits 9999 x y)=true;rw[Ln];exact⟨by simp,I⟩
   |_=>cases B
  |_=>cases A
 cases h
theorem kJ (P:Program):Ad P (Jc P) where
 dflt T h:=by
  have l:Hi P T={}:=(Ve P).dflt T h;unfold Jc Yb;rw[l];rfl
 info T h:=(Ve P).info T h
 kind T h:=(Ve P).kind T h
 flat T ks h:=(Ve P).flat T ks h
 guard T ks h:=(Ve P).guard T ks h
 mkey T q h:=by
  have h:Yb P T=some q:=h;unfold Yb at h;split at h
  ·split at h
   ·rename_i kt e u;split at h
    ·rename_i d;refine⟨kt,?_,?_,fun x w=>uU h x w⟩
     ·rw[u,d.2];rfl
     show(Hi P (Hi P T).elem).ok=true;rw[<-d.2];exact d.1
    cases h
   cases h
  cases h
end
section
theorem MH (fr:Fr):∀t,AK t= .un\/AK t=fr t:=fun _=>.inl rfl
theorem DE {k:Nat}{x:AV}{d fr:Fr}(h:fr k=x)(l:∀t,d t= .un\/d t=fr t):∀t,upd k x d t= .un\/upd k x d t=fr t:=fun t=>by
 unfold upd;split
 ·rename_i e;subst e;exact .inr h.symm
 exact l t
theorem DS {fr d:Fr}(h:∀t,d t= .un\/d t=fr t:=by repeat first |exact MH _ |refine DE rfl ?_):∀t,d t= .un\/d t=fr t:=h
theorem Pn (hp:Hp):∀i,AM i=none\/AM i=hp i:=fun _=>.inl rfl
theorem Yc {k:Nat}{x:Option AO}{hp' hp:Hp}(h:hp k=x)(d:∀t,hp' t=none\/hp' t=hp t):∀t,upd k x hp' t=none\/upd k x hp' t=hp t:=fun t=>by
 unfold upd;split
 ·rename_i e;subst e;exact .inr h.symm
 exact d t
theorem kK (hp:Hp):∀i,hp i=none\/hp i=hp i:=fun _=>.inr rfl
end
section
attribute [go_sem] LQ Option.map_none LE and_self and_true true_and TI.agg
end
section
theorem KY {tab:Nat->TI}{rs:Array ResultVar}{R:AV->Hp->Nat->Prop}{v:AV}(d:EJ tab rs s=some v)(h:R v s.hp s.nx):Dd tab rs R .ret s:=⟨v,s.hp,d,⟨fun _=>.inr rfl⟩,h⟩
theorem IU {tab:Nat->TI}{rs:Array ResultVar}{d h:D}{fr b:Bool}{is:List Nat}{v:AV}(l:EJ tab rs s=some v)(u:toR s.hp v=some (h,b,is))(w:h=d)(A:fr=true->b=false):Dd tab rs (HA d fr) .ret s:=
 KY l ⟨b,is,by rw[u,w],A⟩
end
section
attribute [go_sem] List.getD_cons_zero List.getD_cons_succ Nf BG List.getElem?_nil Ow OW Ie LJ OC Io sub DD MD NE NW
end
section
attribute [go_sem] EJ Mq Pg Nr
end
section
@[go_sem] theorem Vf {tab:Nat->TI}{Q:Ex->St->Prop}{e:Ex}:Cu P tab [] Q e s=Q e s:=rfl
attribute [go_sem] Nat.mul_one
end
section
open Go.RowKit
def GO (ops:Array Oper)(j:Nat):Option Nat:=(ops[j]?).bind (·.dst)
def RY (o:Option Nat)(f:Nat->Prop)(g:Prop):Prop:=match o with
 |some d=>f d
 |none=>g
section
variable {P:Program}{tab:Nat->TI}{ops:Array Oper}{nx0 nx i j:Nat}{k:List It}{Q:Ex->St->Prop}{r:List Oper}{s:St}{dst:Option Nat}{acc:List Cx}{fr:Fr}{hp:Hp}{op:Op}{T:TypeId}{pos:String}{after:Array Edge}{t:Bool}
theorem cP:Rt P tab ops nx0 k Q i (⟨dst,op,T,pos,after,some (j,t)⟩::r) s=RY (GO ops j) (fun d=>VL P tab ops nx0 k Q i r dst s op t (s.fr d)) (Rt P tab ops nx0 k Q (i+1) r ⟨CJ dst (.tu []) s.fr,s.hp,s.nx⟩):=by
 cases h:GO ops j with
 |some d=>exact tm h
 |none=>
  have e:(ops[j]?).bind (·.dst)=none:=h
  conv=>lhs;unfold Rt WT Ga
  simp only[e];rfl
theorem cQ:Rd P tab ops nx0 nx k Q i (⟨dst,op,T,pos,after,some (j,t)⟩::r) acc fr hp=RY (GO ops j) (fun d=>KV P tab ops nx0 nx k Q i r dst acc fr hp op t (fr d)) (Rd P tab ops nx0 nx k Q (i+1) r (⟨[],[],false⟩::acc) (CJ dst (.tu []) fr) hp):=by
 cases h:GO ops j with
 |some d=>exact tv h
 |none=>
  have e:(ops[j]?).bind (·.dst)=none:=h
  conv=>lhs;unfold Rd WD Ga
  simp only[e];rfl
end
@[go_sem] theorem Tq (d:Nat)(f:Nat->Prop)(g:Prop):RY (some d) f g=f d:=rfl
attribute [go_sem] GO Nx LU
end
section
@[go_sem] theorem Yd (n:Nat):EX n []=true:=rfl
@[go_sem] theorem Vg (n:Nat)(c:List D)(r:List (List D)):EX n (c::r)=((c.length==n)&&EX n r):=rfl
@[go_sem] theorem Ye (hp:Hp):frz hp []= []:=rfl
@[go_sem] theorem lS_:KK []=true:=rfl
attribute [go_sem] List.range_zero OO G3 Nc Ld LK
end
section
section
variable (tab:Nat->TI)(hp:Hp)(op:BinOp)(T:Nat)
@[go_sem] theorem cS (a:Value)(y:AV):Fz tab hp op T (.v a) y=Pd tab op T (.v a) y:=rfl
@[go_sem] theorem cT (a:D)(b:Bool)(y:AV):Fz tab hp op T (.d a b) y=Pd tab op T (.d a b) y:=rfl
@[go_sem] theorem Yf (a:List AV)(y:AV):Fz tab hp op T (.ag a) y=Pd tab op T (.ag a) y:=rfl
@[go_sem] theorem Yg (i o:Nat)(y:AV):Fz tab hp op T (.pt i o) y=Pd tab op T (.pt i o) y:=rfl
@[go_sem] theorem Vh (k k':IntKind)(a b:Int):JV tab T op (.int k a) (.int k' b)=Ge op (.int k a) (.int k' b):=rfl
@[go_sem] theorem Vi (a b:ByteArray):JV tab T op (.string a) (.string b)=Ge op (.string a) (.string b):=rfl
@[go_sem] theorem Yh:JV tab T op (.slice none 0 0) (.slice none 0 0)=if (tab T).kind= .slice then match op with | .eql=>some (.bool true) | .neq=>some (.bool false) |_=>none else none:=rfl
@[go_sem] theorem Yi:JV tab T op (.pointer none) (.pointer none)=if (tab T).kind= .ptr then match op with | .eql=>some (.bool true) | .neq=>some (.bool false) |_=>none else none:=rfl
end
attribute [go_sem] TE Xx Mm Es JW GM IP OD Nw
end
section
section
variable (ρ:Operand->AV)
@[go_sem] theorem cU (x:Value):CB (.v x)= []:=rfl
@[go_sem] theorem cV (x:D)(b:Bool):CB (.d x b)= []:=rfl
@[go_sem] theorem Yj (x:List AV):CB (.ag x)=CG x:=rfl
@[go_sem] theorem Yk (i o:Nat):CB (.pt i o)= [i]:=rfl
@[go_sem] theorem Yl (i v k o:Nat):CB (.pr i v k o)= [i]:=rfl
@[go_sem] theorem Ym (i v k o:Nat):CB (.so i v k o)= [i]:=rfl
@[go_sem] theorem Yn (i:Nat):CB (.mo i)= [i]:=rfl
@[go_sem] theorem Yo (f:FuncId)(x:List AV):CB (.fn f x)=CG x:=rfl
@[go_sem] theorem Vj:CG []= []:=rfl
@[go_sem] theorem Ts (x:AV)(r:List AV):CG (x::r)=CB x++CG r:=rfl
@[go_sem] theorem lT_ (x:Operand):Ct ρ (.move x)= []:=rfl
@[go_sem] theorem a8_ (x:Operand):Ct ρ (.assign x)= []:=rfl
@[go_sem] theorem lU_ (x y z:Operand):Ct ρ (.pick x y z)= []:=rfl
@[go_sem] theorem il_ (T:TypeId):Ct ρ (.alloc T)= []:=rfl
@[go_sem] theorem Tt (T:TypeId)(x:Operand):Ct ρ (.box T x)= []:=rfl
@[go_sem] theorem im_ (T:TypeId)(d:Array (Nat × Operand)):Ct ρ (.build T d)= []:=rfl
@[go_sem] theorem Tu (x:Operand):Ct ρ (.nilCheck x)= []:=rfl
@[go_sem] theorem Vk (o:UnOp)(T:TypeId)(x:Operand):Ct ρ (.unOp o T x)= []:=rfl
@[go_sem] theorem Vl (T:TypeId)(x:Operand)(f:Nat):Ct ρ (.fieldAddr T x f)= []:=rfl
@[go_sem] theorem Tv (x:Operand)(f:Nat):Ct ρ (.extract x f)= []:=rfl
@[go_sem] theorem lV_ (T:TypeId)(x:Operand):Ct ρ (.load T x)=CB (ρ x):=by simp[Ct,G4,Op.operands,CG]
@[go_sem] theorem in_ (T:TypeId)(x y:Operand):Ct ρ (.store T x y)=CB (ρ x)++CB (ρ y):=by simp[Ct,G4,Op.operands,CG]
@[go_sem] theorem Tw (o:BinOp)(T S:TypeId)(x y:Operand):Ct ρ (.binOp o T x y S)=CB (ρ x)++CB (ρ y):=by simp[Ct,G4,Op.operands,CG]
@[go_sem] theorem Vm (T:TypeId)(x y:Operand):Ct ρ (.indexAddr T x y)=CB (ρ x)++CB (ρ y):=by simp[Ct,G4,Op.operands,CG]
@[go_sem] theorem Vn (T:TypeId)(x y:Operand)(b:Bool):Ct ρ (.lookup T x y b)=CB (ρ x)++CB (ρ y):=by simp[Ct,G4,Op.operands,CG]
@[go_sem] theorem Vo (T:TypeId)(x:Operand)(l h:Option Operand):Ct ρ (.slice T x l h none)=CB (ρ x)++(CG ((l.toList).map ρ)++CG ((h.toList).map ρ)):=by
 cases l<;>cases h<;>simp[Ct,G4,Op.operands,CG]
@[go_sem] theorem Vp (T:TypeId)(n:Nat)(d:Array (Nat × Operand)):Ct ρ (.buildSlice T n d)=CG (d.toList.map fun p=>ρ p.2):=by simp[Ct,G4,Op.operands,NS]
@[go_sem] theorem Vq (b:Builtin)(xs:Array Operand)(d:Array TypeId):Ct ρ (.call { callee:=.builtin b,args:=xs,argTypes:=d })=CG (xs.toList.map ρ):=by simp[Ct,G4,Op.operands,Call.operands]
@[go_sem] theorem lW_ (f:Operand)(xs:Array Operand)(d:Array TypeId):Ct ρ (.call { callee:=.value f,args:=xs,argTypes:=d })=CB (ρ f)++CG (xs.toList.map ρ):=by simp[Ct,G4,Op.operands,Call.operands,CG]
end
attribute [go_sem] OB Option.toList_none
section
variable {P:Program}{tab:Nat->TI}{ops:Array Oper}{nx0 nx i:Nat}{k:List It}{Q:Ex->St->Prop}{acc:List Cx}{fr:Fr}{hp:Hp}
theorem DF (d:RN ops acc.reverse=true)(h:run P tab k Q ⟨fr,hp,nx⟩):Rd P tab ops nx0 nx k Q i [] acc fr hp:=⟨VK d,h⟩
end
end
section
section
variable {P:Program}{tab:Nat->TI}{ops:Array Oper}{nx0 nx i j:Nat}{k:List It}{Q:Ex->St->Prop}{r:List Oper}{s:St}{dst:Option Nat}{acc:List Cx}{fr:Fr}{hp:Hp}{op:Op}{T:TypeId}{pos:String}{after:Array Edge}{t:Bool}
theorem Tx (h:(GO ops j).isSome=true):GO ops j=some ((GO ops j).getD 0):=by
 cases e:GO ops j with
 |none=>rw[e] at h;cases h
 |some d=>rfl
@[go_sem] theorem kL (d:(GO ops j).isSome=true)(h:s.fr ((GO ops j).getD 0)= .v (.bool t)):Rt P tab ops nx0 k Q i (⟨dst,op,T,pos,after,some (j,t)⟩::r) s=DH P tab ops nx0 k Q i r dst s op:=by
 rw[cP,Tx d,Tq,h];simp[VL]
@[go_sem] theorem kM (d:(GO ops j).isSome=true)(h:s.fr ((GO ops j).getD 0)= .v (.bool !t)):Rt P tab ops nx0 k Q i (⟨dst,op,T,pos,after,some (j,t)⟩::r) s=Rt P tab ops nx0 k Q (i+1) r ⟨CJ dst (.tu []) s.fr,s.hp,s.nx⟩:=by
 rw[cP,Tx d,Tq,h];simp[VL]
@[go_sem] theorem kN (d:(GO ops j).isSome=true)(h:s.fr ((GO ops j).getD 0)= .tu []):Rt P tab ops nx0 k Q i (⟨dst,op,T,pos,after,some (j,t)⟩::r) s=Rt P tab ops nx0 k Q (i+1) r ⟨CJ dst (.tu []) s.fr,s.hp,s.nx⟩:=by
 rw[cP,Tx d,Tq,h];rfl
@[go_sem] theorem kO (d:(GO ops j).isSome=true)(h:fr ((GO ops j).getD 0)= .v (.bool t)):Rd P tab ops nx0 nx k Q i (⟨dst,op,T,pos,after,some (j,t)⟩::r) acc fr hp=Fh P tab ops nx0 nx k Q i r dst acc fr hp op:=by
 rw[cQ,Tx d,Tq,h];simp[KV]
@[go_sem] theorem kP (d:(GO ops j).isSome=true)(h:fr ((GO ops j).getD 0)= .v (.bool !t)):Rd P tab ops nx0 nx k Q i (⟨dst,op,T,pos,after,some (j,t)⟩::r) acc fr hp=Rd P tab ops nx0 nx k Q (i+1) r (⟨[],[],false⟩::acc) (CJ dst (.tu []) fr) hp:=by
 rw[cQ,Tx d,Tq,h];simp[KV]
@[go_sem] theorem kQ (d:(GO ops j).isSome=true)(h:fr ((GO ops j).getD 0)= .tu []):Rd P tab ops nx0 nx k Q i (⟨dst,op,T,pos,after,some (j,t)⟩::r) acc fr hp=Rd P tab ops nx0 nx k Q (i+1) r (⟨[],[],false⟩::acc) (CJ dst (.tu []) fr) hp:=by
 rw[cQ,Tx d,Tq,h];rfl
end
end
section
attribute [go_sem] VM
end
end Go.Proofs.YtnmkbmefohakmaaGreat.Ab
