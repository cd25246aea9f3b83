/-
 The walk of the machine, step by step.
-/
import Derived.DeepKeys
import Derived.WideKeyRuns
import Derived.Test.YtnmkbmefohakmaaGreatAbF
set_option linter.all false
namespace Go.Proofs.YtnmkbmefohakmaaGreat.Ab
section
open Go.RowKit
def fe (ops:Array Oper):Bool:=JW ops&&(List.range ops.size).all fun j=>(List.range j).all fun i=>
 ((Ku ops).getD j []).contains i||(match ops[i]?,ops[j]? with |some a,some b=> !Me ops a b |_,_=>true)
def Rj (a:Cd):Bool:=a.ks.isEmpty&& !a.g
def Rk (ps:List Nat)(b:Cd):Nat->List Cd->Bool
 |_,[]=>true
 |i,a::r=>(ps.contains i||(Rj a&&Rj b)|| !FL a b)&&Rk ps b (i+1) r
def Rl (rs:List Cd):List (List Nat)->Nat->List Cd->Bool
 |_,_,[]=>true
 |[],j,b::r=>Rk [] b 0 (rs.take j)&&Rl rs [] (j+1) r
 |p::ps,j,b::r=>Rk p b 0 (rs.take j)&&Rl rs ps (j+1) r
def Px (ops:Array Oper)(rs:List Cd):Bool:=fe ops&&(rs.all Rj||Rl rs (Ku ops) 0 rs)
theorem ff {a b:Cd}(h:(Rj a&&Rj b)=true):FL a b=false:=by
 simp only[Rj,Li,Od,NJ] at h;obtain⟨⟨h1,h2⟩,h3,h4⟩:=h;simp[FL,IF,Eu,h1,h2,h3,h4,DM]
theorem fg {ps:List Nat}{b:Cd}:∀ {l:List Cd} {n:Nat},Rk ps b n l=true->∀(i:Nat) (a:Cd),l[i]? =some a->FL a b=false\/(n+i)∈ps
 |[],n,h,i,a,e=>by simp at e
 |c::r,n,h,i,a,e=>by
  simp only[Rk,Li,LP,NJ] at h;cases i with
  |zero=>
   simp only[LV,Le] at e;subst e;rcases h.1 with(h1 |h1) |h1
   ·exact .inr (by simpa using h1)
   ·exact .inl (ff (by rw[h1.1,h1.2];rfl))
   ·exact .inl h1
  |succ i=>
   have:=fg h.2 i a (by simpa using e);rw[show n+1+i=n+(i+1) by omega] at this;exact this
theorem ZK {rs:List Cd}:∀ {l:List Cd} {ps:List (List Nat)} {n:Nat},Rl rs ps n l=true->∀(j:Nat) (b:Cd),l[j]? =some b->Rk (ps.getD j []) b 0 (rs.take (n+j))=true
 |[],ps,n,h,j,b,e=>by simp at e
 |c::r,[],n,h,j,b,e=>by
  simp only[Rl,Li] at h;cases j with
  |zero=>simp only[LV,Le] at e;subst e;exact h.1
  |succ j=>
   have:=ZK h.2 j b (by simpa using e);rw[show n+1+j=n+(j+1) by omega] at this;simpa using this
 |c::r,p::ps,n,h,j,b,e=>by
  simp only[Rl,Li] at h;cases j with
  |zero=>simp only[LV,Le] at e;subst e;exact h.1
  |succ j=>
   have:=ZK h.2 j b (by simpa using e);rw[show n+1+j=n+(j+1) by omega] at this;simpa using this
theorem TZ {ops:Array Oper}{rs:List Cd}(h:Px ops rs=true):Gv ops rs=true:=by
 simp only[Px,fe,Li,LP] at h;obtain⟨⟨h1,h2⟩,h3⟩:=h;simp only[Gv,Li];refine⟨h1,?_⟩;unfold Rh;refine LL.2 fun j hj=>LL.2 fun i hi=> ?_;have h4:=LL.1 (LL.1 h2 j hj) i hi;rw[LP] at h4⊢;rcases h4 with h4 |h4
 ·exact .inl h4
 cases ha:rs[i]? with
 |none=>exact .inr (Li _ _▸⟨h4,rfl⟩)
 |some a=>
  cases hb:rs[j]? with
  |none=>exact .inr (Li _ _▸⟨h4,rfl⟩)
  |some b=>
   have hij:=NY.1 hi;rcases h3 with h3 |h3
   ·have e1:=LL.1 h3 a (Lt ha);have e2:=LL.1 h3 b (Lt hb);exact .inr (Li _ _▸⟨h4,by simp[ff (a:=a) (b:=b) (by rw[e1,e2];rfl)]⟩)
   rcases fg (ZK h3 j b hb) i a (by rw[NC,Nn,if_pos hij];exact ha) with h5 |h5
   ·exact .inr (Li _ _▸⟨h4,by simp[h5]⟩)
   rw[NC] at h5;exact .inl (by simpa using h5)
inductive It where
 |c (x:Code)
 |blk (n:Nat)
 |lp (X:St->Prop)
section
variable (P:Program)(tab:Nat->TI)
def WT (ops:Array Oper)(nx0:Nat)(K:St->Prop):Nat->List Oper->St->Prop
 |_,[],s=>K s
 |i,o::r,s=>Fx ops o s (HQ P tab o.op (nx0+i) s fun v hp nx=>WT ops nx0 K (i+1) r ⟨A7 o.dst v s.fr,hp,nx⟩) (WT ops nx0 K (i+1) r ⟨A7 o.dst (.tu []) s.fr,s.hp,s.nx⟩)
def W2:Code->(Ex->St->Prop)->St->Prop
 | .skip,Q,s=>Q .normal s
 | .label _,Q,s=>Q .normal s
 | .ret,Q,s=>Q .ret s
 | .exit n,Q,s=>Q (.exit n) s
 | .seq a b,Q,s=>W2 a (fun e s'=>match e with | .normal=>W2 b Q s' |e=>Q e s') s
 | .cond c a b,Q,s=>match ev s.fr c with
  | .v (.bool t)=>(t=true->W2 a Q s)/\(t=false->W2 b Q s)
  |_=>False
 | .block n a,Q,s=>W2 a (fun e s'=>match e with | .exit m=>if m=n then Q .normal s' else Q (.exit m) s' |e=>Q e s') s
 | .region _ ops draw,Q,s=>match draw with
  |false=>WT P tab ops s.nx (Q .normal) 0 ops.toList ⟨s.fr,s.hp,s.nx+ops.size⟩
  |true=>WD P tab ops s.nx (Q .normal) (s.nx+ops.size) 0 ops.toList [] s.fr s.hp
 | .loop a,Q,s=>∀X:St->Prop,(∀s0,W2 a (fun e s'=>match e with | .normal=>X s' |e=>Q e s') s0->X s0)->(∀s1 s2,A6 s.nx s1 s2->X s1->X s2)->X s
 |_,_,_=>False
end
section
variable {P:Program}{tab:Nat->TI}
theorem JX {ops:Array Oper}{nx0:Nat}{K:St->Prop}:∀(r:List Oper) (i:Nat) (s:St),(∀k,r[k]? =ops[i+k]?)->WT P tab ops nx0 K i r s->WL P tab ops nx0 K (List.range' i r.length) s
 |[],i,s,_,h=>h
 |o::r,i,s,hr,h=>by
  have h0:ops[i]? =some o:=by simpa using(hr 0).symm
  have hr':∀k,r[k]? =ops[i+1+k]? :=fun k=>by have:=hr (k+1);simpa [Nu,BM 1 k] using this
  rw[Lg,List.range'_succ];unfold WL;rw[h0];exact WI h (fun h=>Yx h fun _ _ _ h=>JX r (i+1) _ hr' h) fun h=>JX r (i+1) _ hr' h
theorem Rm {ops:Array Oper}{nx0:Nat}{K K':St->Prop}(hK:∀s,K s->K' s):∀(r:List Oper) (nx i:Nat) (acc:List Cd) (fr:Fr) (hp:Hp),WD P tab ops nx0 K nx i r acc fr hp->WD P tab ops nx0 K' nx i r acc fr hp
 |[],nx,i,acc,fr,hp,h=>⟨h.1,hK _ h.2⟩
 |o::r,nx,i,acc,fr,hp,h=>by
  unfold WD at *;refine WI h (fun h=> ?_) fun h=>Rm hK r _ _ _ _ _ h;unfold Ri at *;split at h
  ·split at h
   ·rcases h with⟨ds,b,is,d,fr',h1,h2,h3,h4⟩ |⟨ids,v,δ,nx',h1,h2⟩
    ·exact .inl ⟨ds,b,is,d,fr',h1,h2,h3,Rm hK r _ _ _ _ _ h4⟩
    exact .inr ⟨ids,v,δ,nx',h1,Rm hK r _ _ _ _ _ h2⟩
   exact h.elim
  split at h
  ·exact Rm hK r _ _ _ _ _ h
  exact h.elim
theorem ZL (x:Operand)(y z:Code)(Q:Ex->St->Prop)(s:St):W2 P tab (.cond x y z) Q s=(match ev s.fr x with | .v (.bool t)=>(t=true->W2 P tab y Q s)/\(t=false->W2 P tab z Q s) |_=>False):=rfl
theorem JY:∀(code:Code) (Q Q':Ex->St->Prop) (s:St),(∀e s,Q e s->Q' e s)->W2 P tab code Q s->W P tab code Q' s:=by
 intro code;induction code with
 |region id ops draw=>
  intro Q Q' s hq h;cases draw with
  |false=>
   have:=JX ops.toList 0 _ (by simp) (show WT P tab ops s.nx (Q .normal) 0 ops.toList ⟨s.fr,s.hp,s.nx+ops.size⟩ from h);rw[Nr,<-List.range_eq_range'] at this;exact WJ (fun s h=>hq _ s h) _ _ this
  |true=>exact Pw (id:=id) (Q:=Q') (Rm (fun s h=>hq _ s h) _ _ _ _ _ _ h)
 |seq x y ihx ihy=>
  intro Q Q' s hq h;refine ihx _ _ s (fun e s h=> ?_) h;cases e with |normal=>exact ihy _ _ s hq h |ret=>exact hq _ s h |exit n=>exact hq _ s h
 |cond x y z ihy ihz=>
  intro Q Q' s hq h;rw[ZL] at h;rw[Pr];split at h
  ·rename_i t e;simp only[e];exact⟨fun e=>ihy _ _ s hq (h.1 e),fun e=>ihz _ _ s hq (h.2 e)⟩
  ·exact h.elim
 |block n x ih=>
  intro Q Q' s hq h;refine ih _ _ s (fun e s h=> ?_) h;cases e with
  |normal=>exact hq _ s h
  |ret=>exact hq _ s h
  |exit m=>
   simp only at h⊢;split
   ·rename_i e;rw[if_pos e] at h;exact hq _ s h
   ·rename_i e;rw[if_neg e] at h;exact hq _ s h
 |loop x ih=>
  intro Q Q' s hq h X h1 h2;refine h X (fun s h=>h1 s (ih _ _ s (fun e s h=> ?_) h)) h2;cases e with |normal=>exact h |ret=>exact hq _ s h |exit n=>exact hq _ s h
 |skip=>exact fun Q Q' s hq h=>hq _ s h
 |label l=>exact fun Q Q' s hq h=>hq _ s h
 |ret=>exact fun Q Q' s hq h=>hq _ s h
 |exit n=>exact fun Q Q' s hq h=>hq _ s h
 |_=>exact fun Q Q' s hq h=>h.elim
theorem pM:∀(code:Code) (Q Q':Ex->St->Prop) (s:St),(∀e s,Q e s->Q' e s)->W2 P tab code Q s->W2 P tab code Q' s:=by
 intro code;induction code with
 |region id ops draw=>
  intro Q Q' s hq h;cases draw with
  |false=>
   have:∀(r:List Oper) (i:Nat) (s0:St),WT P tab ops s.nx (Q .normal) i r s0->WT P tab ops s.nx (Q' .normal) i r s0:=by
    intro r;induction r with
    |nil=>exact fun i s0 h=>hq _ s0 h
    |cons o r ih=>exact fun i s0 h=>WI h (fun h=>Yx h fun _ _ _ h=>ih _ _ h) fun h=>ih _ _ h
   exact this _ _ _ h
  |true=>exact Rm (fun s h=>hq _ s h) _ _ _ _ _ _ h
 |seq x y ihx ihy=>
  intro Q Q' s hq h;refine ihx _ _ s (fun e s h=> ?_) h;cases e with |normal=>exact ihy _ _ s hq h |ret=>exact hq _ s h |exit n=>exact hq _ s h
 |cond x y z ihy ihz=>
  intro Q Q' s hq h;rw[ZL] at h⊢;split at h
  ·exact⟨fun e=>ihy _ _ s hq (h.1 e),fun e=>ihz _ _ s hq (h.2 e)⟩
  ·exact h.elim
 |block n x ih=>
  intro Q Q' s hq h;refine ih _ _ s (fun e s h=> ?_) h;cases e with
  |normal=>exact hq _ s h
  |ret=>exact hq _ s h
  |exit m=>
   simp only at h⊢;split
   ·rename_i e;rw[if_pos e] at h;exact hq _ s h
   ·rename_i e;rw[if_neg e] at h;exact hq _ s h
 |loop x ih=>
  intro Q Q' s hq h X h1 h2;refine h X (fun s h=>h1 s (ih _ _ s (fun e s h=> ?_) h)) h2;cases e with |normal=>exact h |ret=>exact hq _ s h |exit n=>exact hq _ s h
 |skip=>exact fun Q Q' s hq h=>hq _ s h
 |label l=>exact fun Q Q' s hq h=>hq _ s h
 |ret=>exact fun Q Q' s hq h=>hq _ s h
 |exit n=>exact fun Q Q' s hq h=>hq _ s h
 |_=>exact fun Q Q' s hq h=>h.elim
end
section
variable (P:Program)(tab:Nat->TI)
def Cc:List It->(Ex->St->Prop)->Ex->St->Prop
 |[],Q,e,s=>Q e s
 | .c x::k,Q,e,s=>match e with
  | .normal=>W2 P tab x (Cc k Q) s
  | .ret=>Cc k Q .ret s
  | .exit m=>Cc k Q (.exit m) s
 | .blk n::k,Q,e,s=>match e with
  | .normal=>Cc k Q .normal s
  | .ret=>Cc k Q .ret s
  | .exit m=>if m=n then Cc k Q .normal s else Cc k Q (.exit m) s
 | .lp X::k,Q,e,s=>match e with
  | .normal=>X s
  | .ret=>Cc k Q .ret s
  | .exit m=>Cc k Q (.exit m) s
def run (k:List It)(Q:Ex->St->Prop)(s:St):Prop:=Cc P tab k Q .normal s
def Rt (ops:Array Oper)(nx0:Nat)(k:List It)(Q:Ex->St->Prop)(i:Nat)(r:List Oper)(s:St):Prop:=WT P tab ops nx0 (fun s=>run P tab k Q s) i r s
def Rd (ops:Array Oper)(nx0 nx:Nat)(k:List It)(Q:Ex->St->Prop)(i:Nat)(r:List Oper)(acc:List Cd)(fr:Fr)(hp:Hp):Prop:=WD P tab ops nx0 (fun s=>run P tab k Q s) nx i r acc fr hp
def FC (ops:Array Oper)(nx0:Nat)(k:List It)(Q:Ex->St->Prop)(i:Nat)(r:List Oper)(dst:Option Nat)(s:St)(x:Option (AV × List (Nat × AO))):Prop:=
 match x with
 |some (v,δ)=>Rt P tab ops nx0 k Q i r ⟨A7 dst v s.fr,Av δ s.hp,s.nx⟩
 |none=>False
def FD (ops:Array Oper)(nx0 nx:Nat)(k:List It)(Q:Ex->St->Prop)(i:Nat)(r:List Oper)(dst:Option Nat)(acc:List Cd)(ids:List Nat)(fr:Fr)(hp:Hp)(x:Option (AV × List (Nat × AO))):Prop:=
 match x with
 |some (v,δ)=>Rd P tab ops nx0 nx k Q i r (⟨ids,δ.map (·.1),false⟩::acc) (A7 dst v fr) (Av δ hp)
 |none=>False
def Kv (ops:Array Oper)(nx0:Nat)(k:List It)(Q:Ex->St->Prop)(i:Nat)(r:List Oper)(dst:Option Nat)(s:St)(f:AV)(vs:List AV):Prop:=KN P f vs s.hp s.nx fun v hp nx=>Rt P tab ops nx0 k Q i r ⟨A7 dst v s.fr,hp,nx⟩
def Kw (ops:Array Oper)(nx0 nx:Nat)(k:List It)(Q:Ex->St->Prop)(i:Nat)(r:List Oper)(dst:Option Nat)(acc:List Cd)(ids:List Nat)(fr:Fr)(hp:Hp)(f:AV)(vs:List AV):Prop:=
 match f with
 | .fn g caps=>(∃ds b is d fr',CT hp (vs++caps)=some (ds,b,is)/\AI P g ds d fr'/\(is= []\/fr'=true)/\Rd P tab ops nx0 nx k Q i r (⟨ids,[],false⟩::acc) (A7 dst (Aw (!fr'&&b) d) fr) hp)\/
  ∃ids v δ nx',Mf P g (vs++caps) hp nx ids v δ nx'/\Rd P tab ops nx0 nx' k Q i r (⟨ids,δ.map (·.1),true⟩::acc) (A7 dst v fr) (Av δ hp)
 |_=>False
def C3 (ops:Array Oper)(nx0:Nat)(k:List It)(Q:Ex->St->Prop)(i:Nat)(r:List Oper)(dst:Option Nat)(s:St)(op:Op):Prop:=
 match op with
 | .call { callee:=.value f,args, .. }=>Kv P tab ops nx0 k Q (i+1) r dst s (ev s.fr f) (args.toList.map (ev s.fr))
 |op=>FC P tab ops nx0 k Q (i+1) r dst s (CB tab (ev s.fr) s.hp (nx0+i) op)
def En (ops:Array Oper)(nx0 nx:Nat)(k:List It)(Q:Ex->St->Prop)(i:Nat)(r:List Oper)(dst:Option Nat)(acc:List Cd)(fr:Fr)(hp:Hp)(op:Op):Prop:=
 match op with
 | .call { callee:=.value f,args, .. }=>Kw P tab ops nx0 nx k Q (i+1) r dst acc (CX (ev fr) op) fr hp (ev fr f) (args.toList.map (ev fr))
 |op=>FD P tab ops nx0 nx k Q (i+1) r dst acc (CX (ev fr) op) fr hp (CB tab (ev fr) hp (nx0+i) op)
def Ta (ops:Array Oper)(nx0:Nat)(k:List It)(Q:Ex->St->Prop)(i:Nat)(r:List Oper)(dst:Option Nat)(s:St)(op:Op)(t:Bool)(v:AV):Prop:=
 match v with
 | .v (.bool b)=>(b=t->C3 P tab ops nx0 k Q i r dst s op)/\(b= !t->Rt P tab ops nx0 k Q (i+1) r ⟨A7 dst (.tu []) s.fr,s.hp,s.nx⟩)
 | .tu []=>Rt P tab ops nx0 k Q (i+1) r ⟨A7 dst (.tu []) s.fr,s.hp,s.nx⟩
 |_=>False
def JZ (ops:Array Oper)(nx0 nx:Nat)(k:List It)(Q:Ex->St->Prop)(i:Nat)(r:List Oper)(dst:Option Nat)(acc:List Cd)(fr:Fr)(hp:Hp)(op:Op)(t:Bool)(v:AV):Prop:=
 match v with
 | .v (.bool b)=>(b=t->En P tab ops nx0 nx k Q i r dst acc fr hp op)/\(b= !t->Rd P tab ops nx0 nx k Q (i+1) r (⟨[],[],false⟩::acc) (A7 dst (.tu []) fr) hp)
 | .tu []=>Rd P tab ops nx0 nx k Q (i+1) r (⟨[],[],false⟩::acc) (A7 dst (.tu []) fr) hp
 |_=>False
def Rn (a b:Code)(k:List It)(Q:Ex->St->Prop)(s:St)(v:AV):Prop:=
 match v with
 | .v (.bool t)=>(t=true->run P tab (.c a::k) Q s)/\(t=false->run P tab (.c b::k) Q s)
 |_=>False
end
section
variable {P:Program}{tab:Nat->TI}{ops:Array Oper}{nx0 nx i n m id:Nat}{k:List It}{Q:Ex->St->Prop}{r:List Oper}{s:St}{dst:Option Nat}{acc:List Cd}{fr:Fr}{hp:Hp}{op:Op}{T:TypeId}{pos:String}{after:Array Edge}{a b:Code}{x:Operand}{t:Bool}{ids:List Nat}{v:AV}{δ:List (Nat × AO)}
theorem pO:run P tab (.c (.seq a b)::k) Q s=run P tab (.c a:: .c b::k) Q s:=by
 have e:(fun e s'=>match e with | .normal=>W2 P tab b (Cc P tab k Q) s' |e=>Cc P tab k Q e s')=Cc P tab (.c b::k) Q:=by
  funext e s';cases e<;>rfl
 show W2 P tab a _ s=W2 P tab a _ s;rw[e]
theorem pP:run P tab (.c (.block n a)::k) Q s=run P tab (.c a:: .blk n::k) Q s:=by
 have e:(fun e s'=>match e with | .exit m=>if m=n then Cc P tab k Q .normal s' else Cc P tab k Q (.exit m) s' |e=>Cc P tab k Q e s')=Cc P tab (.blk n::k) Q:=by
  funext e s';cases e<;>rfl
 show W2 P tab a _ s=W2 P tab a _ s;rw[e]
theorem pQ:run P tab (.c .skip::k) Q s=run P tab k Q s:=rfl
theorem pR:run P tab (.blk n::k) Q s=run P tab k Q s:=rfl
theorem pS:run P tab [] Q s=Q .normal s:=rfl
theorem Py {X:St->Prop}:run P tab (.lp X::k) Q s=X s:=rfl
theorem Tb:∀(k:List It),Cc P tab k Q .ret s=Q .ret s
 |[]=>rfl
 | .c _::k=>Tb k
 | .blk _::k=>Tb k
 | .lp _::k=>Tb k
theorem pT:run P tab (.c .ret::k) Q s=Q .ret s:=Tb k
theorem pU:run P tab (.c (.exit m)::k) Q s=Cc P tab k Q (.exit m) s:=rfl
theorem Pz:Cc P tab (.c a::k) Q (.exit m) s=Cc P tab k Q (.exit m) s:=rfl
theorem pV {X:St->Prop}:Cc P tab (.lp X::k) Q (.exit m) s=Cc P tab k Q (.exit m) s:=rfl
theorem pW:Cc P tab (.blk n::k) Q (.exit m) s=if m=n then run P tab k Q s else Cc P tab k Q (.exit m) s:=rfl
theorem pX:run P tab (.c (.cond x a b)::k) Q s=Rn P tab a b k Q s (ev s.fr x):=rfl
theorem pY:Rn P tab a b k Q s (.v (.bool true))=run P tab (.c a::k) Q s:=by simp[Rn]
theorem pZ:Rn P tab a b k Q s (.v (.bool false))=run P tab (.c b::k) Q s:=by simp[Rn]
theorem WQ {c:Bool}(h1:c=true->run P tab (.c a::k) Q s)(h2:c=false->run P tab (.c b::k) Q s):Rn P tab a b k Q s (.v (.bool c)):=⟨h1,h2⟩
theorem pa:run P tab (.c (.region id ops false)::k) Q s=Rt P tab ops s.nx k Q 0 ops.toList ⟨s.fr,s.hp,s.nx+ops.size⟩:=rfl
theorem pb:run P tab (.c (.region id ops true)::k) Q s=Rd P tab ops s.nx (s.nx+ops.size) k Q 0 ops.toList [] s.fr s.hp:=rfl
theorem P0:Rt P tab ops nx0 k Q i [] s=run P tab k Q s:=rfl
theorem Tc:Rt P tab ops nx0 k Q i (⟨dst,op,T,pos,after,none⟩::r) s=C3 P tab ops nx0 k Q i r dst s op:=by
 cases op with
 |call c=>obtain⟨callee,args,ty⟩:=c;cases callee<;>rfl
 |_=>rfl
theorem Td:Rd P tab ops nx0 nx k Q i (⟨dst,op,T,pos,after,none⟩::r) acc fr hp=En P tab ops nx0 nx k Q i r dst acc fr hp op:=by
 cases op with
 |call c=>obtain⟨callee,args,ty⟩:=c;cases callee<;>rfl
 |_=>rfl
theorem pc {f:Operand}{args:Array Operand}{ty:Array TypeId}:C3 P tab ops nx0 k Q i r dst s (.call { callee:=.value f,args:=args,argTypes:=ty })=Kv P tab ops nx0 k Q (i+1) r dst s (ev s.fr f) (args.toList.map (ev s.fr)):=rfl
theorem pg {f:Operand}{args:Array Operand}{ty:Array TypeId}:En P tab ops nx0 nx k Q i r dst acc fr hp (.call { callee:=.value f,args:=args,argTypes:=ty })=Kw P tab ops nx0 nx k Q (i+1) r dst acc (CX (ev fr) (.call { callee:=.value f,args:=args,argTypes:=ty })) fr hp (ev fr f) (args.toList.map (ev fr)):=rfl
theorem ph:FC P tab ops nx0 k Q i r dst s (some (v,δ))=Rt P tab ops nx0 k Q i r ⟨A7 dst v s.fr,Av δ s.hp,s.nx⟩:=rfl
theorem pi:FD P tab ops nx0 nx k Q i r dst acc ids fr hp (some (v,δ))=Rd P tab ops nx0 nx k Q i r (⟨ids,δ.map (·.1),false⟩::acc) (A7 dst v fr) (Av δ hp):=rfl
theorem pj {j d:Nat}(hd:(ops[j]?).bind (·.dst)=some d):Rt P tab ops nx0 k Q i (⟨dst,op,T,pos,after,some (j,t)⟩::r) s=Ta P tab ops nx0 k Q i r dst s op t (s.fr d):=by
 unfold Rt WT Fx Ta;simp only[hd];cases op with
 |call c=>obtain⟨callee,args,ty⟩:=c;cases callee<;>rfl
 |_=>rfl
theorem pk {j d:Nat}(hd:(ops[j]?).bind (·.dst)=some d):Rd P tab ops nx0 nx k Q i (⟨dst,op,T,pos,after,some (j,t)⟩::r) acc fr hp=JZ P tab ops nx0 nx k Q i r dst acc fr hp op t (fr d):=by
 unfold Rd WD Fx JZ;simp only[hd];cases op with
 |call c=>obtain⟨callee,args,ty⟩:=c;cases callee<;>rfl
 |_=>rfl
theorem Kx {g:FuncId}{caps vs:List AV}{ds:List D}{b:Bool}{is:List Nat}{d:D}{f:Bool}(h1:CT s.hp (vs++caps)=some (ds,b,is))(h2:AI P g ds d f)(h3:is= []\/f=true)(h:Rt P tab ops nx0 k Q i r ⟨A7 dst (Aw (!f&&b) d) s.fr,s.hp,s.nx⟩):
  Kv P tab ops nx0 k Q i r dst s (.fn g caps) vs:=.inl ⟨ds,b,is,d,f,h1,h2,h3,h⟩
theorem CG {g:FuncId}{caps vs:List AV}(h:AK P g (vs++caps) s.hp s.nx fun v hp nx=>Rt P tab ops nx0 k Q i r ⟨A7 dst v s.fr,hp,nx⟩):Kv P tab ops nx0 k Q i r dst s (.fn g caps) vs:=.inr h
theorem WR {g:FuncId}{caps vs:List AV}{ds:List D}{b:Bool}{is:List Nat}{d:D}{f:Bool}(h1:CT hp (vs++caps)=some (ds,b,is))(h2:AI P g ds d f)(h3:is= []\/f=true)(h:Rd P tab ops nx0 nx k Q i r (⟨ids,[],false⟩::acc) (A7 dst (Aw (!f&&b) d) fr) hp):
  Kw P tab ops nx0 nx k Q i r dst acc ids fr hp (.fn g caps) vs:=.inl ⟨ds,b,is,d,f,h1,h2,h3,h⟩
theorem P3 {g:FuncId}{caps vs:List AV}{ids':List Nat}{v:AV}{δ:List (Nat × AO)}{nx':Nat}(h1:Mf P g (vs++caps) hp nx ids' v δ nx')(h:Rd P tab ops nx0 nx' k Q i r (⟨ids',δ.map (·.1),true⟩::acc) (A7 dst v fr) (Av δ hp)):
  Kw P tab ops nx0 nx k Q i r dst acc ids fr hp (.fn g caps) vs:=.inr ⟨ids',v,δ,nx',h1,h⟩
theorem ZM (h1:Gv ops acc.reverse=true)(h2:run P tab k Q ⟨fr,hp,nx⟩):Rd P tab ops nx0 nx k Q i [] acc fr hp:=⟨h1,h2⟩
theorem WS {α:Type}(σ:α->St)(μ:α->Nat)(x0:α)(h0:ID (σ x0) s)(step:∀x,run P tab [.c a,.lp fun s'=>∃x',ID (σ x') s'/\μ x'<μ x] (Cc P tab k Q) (σ x)):run P tab (.c (.loop a)::k) Q s:=by
 show ∀X:St->Prop,_->_->X s;intro X h1 h2;have key:∀n x,μ x=n->X (σ x):=by
  intro n;induction n using Nat.strongRecOn with
  |_ n ih=>
   intro x hx;refine h1 _ (pM a _ _ _ (fun e s' h=> ?_) (step x));cases e with
   |normal=>
    obtain⟨x',h3,h4⟩:=h;exact h2 _ _ (.weak h3) (ih (μ x') (by omega) x' rfl)
   |ret=>exact h
   |exit n=>exact h
 exact h2 _ _ (.weak h0) (key _ x0 rfl)
theorem Ky (ht:AU P tab)(hm:P.follows .mixedOrders=true){f:FuncId}{fn:Func}{code:Code}(hf:P.funcs[f]? =some fn)(hb:fn.body=some code)(hname:(fn.name== "runtime.NumGoroutine")=false)(hd:DY fn.ntmps code=true){vs:List AV}{nx:Nat}{R:AV->Hp->Nat->Prop}
  (hlen:vs.length<=fn.ntmps) (h:run P tab [.c code] (Cu tab fn.results R) ⟨Df vs,hp,nx⟩):AK P f vs hp nx R:=
 fT ht hm hf hb hname hd hlen (JY code _ _ _ (fun _ _ h=>h) h)
theorem Tf (ht:AU P tab)(hm:P.follows .mixedOrders=true){f:FuncId}{fn:Func}{code:Code}(hf:P.funcs[f]? =some fn)(hb:fn.body=some code)(hname:(fn.name== "runtime.NumGoroutine")=false)(hd:DY fn.ntmps code=true){ds:List D}{d:D}{fresh:Bool}
  (hlen:ds.length<=fn.ntmps) (h:run P tab [.c code] (Cu tab fn.results (D9 d fresh)) ⟨Df (ds.map (Aw true)),AS,0⟩):AI P f ds d fresh:=
 TW (Ky ht hm hf hb hname hd (by simpa using hlen) h)
end
end
section
open Go.RowKit
section
variable {P:Program}{tab:Nat->TI}{ops:Array Oper}{nx0 nx i:Nat}{k:List It}{Q:Ex->St->Prop}{r:List Oper}{s:St}{dst:Option Nat}{acc:List Cd}{fr:Fr}{hp:Hp}
@[go_sem] theorem Rp (x:Operand):C3 P tab ops nx0 k Q i r dst s (.move x)=FC P tab ops nx0 k Q (i+1) r dst s (CB tab (ev s.fr) s.hp (nx0+i) (.move x)):=rfl
@[go_sem] theorem we (x:Operand):En P tab ops nx0 nx k Q i r dst acc fr hp (.move x)=FD P tab ops nx0 nx k Q (i+1) r dst acc (CX (ev fr) (.move x)) fr hp (CB tab (ev fr) hp (nx0+i) (.move x)):=rfl
@[go_sem] theorem wg (x:Operand):C3 P tab ops nx0 k Q i r dst s (.assign x)=FC P tab ops nx0 k Q (i+1) r dst s (CB tab (ev s.fr) s.hp (nx0+i) (.assign x)):=rfl
@[go_sem] theorem wh (x:Operand):En P tab ops nx0 nx k Q i r dst acc fr hp (.assign x)=FD P tab ops nx0 nx k Q (i+1) r dst acc (CX (ev fr) (.assign x)) fr hp (CB tab (ev fr) hp (nx0+i) (.assign x)):=rfl
@[go_sem] theorem Rr (x y z:Operand):C3 P tab ops nx0 k Q i r dst s (.pick x y z)=FC P tab ops nx0 k Q (i+1) r dst s (CB tab (ev s.fr) s.hp (nx0+i) (.pick x y z)):=rfl
@[go_sem] theorem wi (x y z:Operand):En P tab ops nx0 nx k Q i r dst acc fr hp (.pick x y z)=FD P tab ops nx0 nx k Q (i+1) r dst acc (CX (ev fr) (.pick x y z)) fr hp (CB tab (ev fr) hp (nx0+i) (.pick x y z)):=rfl
@[go_sem] theorem wj (A:TypeId):C3 P tab ops nx0 k Q i r dst s (.alloc A)=FC P tab ops nx0 k Q (i+1) r dst s (CB tab (ev s.fr) s.hp (nx0+i) (.alloc A)):=rfl
@[go_sem] theorem wk (A:TypeId):En P tab ops nx0 nx k Q i r dst acc fr hp (.alloc A)=FD P tab ops nx0 nx k Q (i+1) r dst acc (CX (ev fr) (.alloc A)) fr hp (CB tab (ev fr) hp (nx0+i) (.alloc A)):=rfl
@[go_sem] theorem Tg (A:TypeId)(x:Operand):C3 P tab ops nx0 k Q i r dst s (.box A x)=FC P tab ops nx0 k Q (i+1) r dst s (CB tab (ev s.fr) s.hp (nx0+i) (.box A x)):=rfl
@[go_sem] theorem Rs (A:TypeId)(x:Operand):En P tab ops nx0 nx k Q i r dst acc fr hp (.box A x)=FD P tab ops nx0 nx k Q (i+1) r dst acc (CX (ev fr) (.box A x)) fr hp (CB tab (ev fr) hp (nx0+i) (.box A x)):=rfl
@[go_sem] theorem wl (A:TypeId)(ps:Array (Nat × Operand)):C3 P tab ops nx0 k Q i r dst s (.build A ps)=FC P tab ops nx0 k Q (i+1) r dst s (CB tab (ev s.fr) s.hp (nx0+i) (.build A ps)):=rfl
@[go_sem] theorem wm (A:TypeId)(ps:Array (Nat × Operand)):En P tab ops nx0 nx k Q i r dst acc fr hp (.build A ps)=FD P tab ops nx0 nx k Q (i+1) r dst acc (CX (ev fr) (.build A ps)) fr hp (CB tab (ev fr) hp (nx0+i) (.build A ps)):=rfl
@[go_sem] theorem wo (A:TypeId)(c:Nat)(ps:Array (Nat × Operand)):C3 P tab ops nx0 k Q i r dst s (.buildSlice A c ps)=FC P tab ops nx0 k Q (i+1) r dst s (CB tab (ev s.fr) s.hp (nx0+i) (.buildSlice A c ps)):=rfl
@[go_sem] theorem wq (A:TypeId)(c:Nat)(ps:Array (Nat × Operand)):En P tab ops nx0 nx k Q i r dst acc fr hp (.buildSlice A c ps)=FD P tab ops nx0 nx k Q (i+1) r dst acc (CX (ev fr) (.buildSlice A c ps)) fr hp (CB tab (ev fr) hp (nx0+i) (.buildSlice A c ps)):=rfl
@[go_sem] theorem Ru (A:TypeId)(x:Operand):C3 P tab ops nx0 k Q i r dst s (.load A x)=FC P tab ops nx0 k Q (i+1) r dst s (CB tab (ev s.fr) s.hp (nx0+i) (.load A x)):=rfl
@[go_sem] theorem wt (A:TypeId)(x:Operand):En P tab ops nx0 nx k Q i r dst acc fr hp (.load A x)=FD P tab ops nx0 nx k Q (i+1) r dst acc (CX (ev fr) (.load A x)) fr hp (CB tab (ev fr) hp (nx0+i) (.load A x)):=rfl
@[go_sem] theorem wu (A:TypeId)(x y:Operand):C3 P tab ops nx0 k Q i r dst s (.store A x y)=FC P tab ops nx0 k Q (i+1) r dst s (CB tab (ev s.fr) s.hp (nx0+i) (.store A x y)):=rfl
@[go_sem] theorem wv (A:TypeId)(x y:Operand):En P tab ops nx0 nx k Q i r dst acc fr hp (.store A x y)=FD P tab ops nx0 nx k Q (i+1) r dst acc (CX (ev fr) (.store A x y)) fr hp (CB tab (ev fr) hp (nx0+i) (.store A x y)):=rfl
@[go_sem] theorem ww (x:Operand):C3 P tab ops nx0 k Q i r dst s (.nilCheck x)=FC P tab ops nx0 k Q (i+1) r dst s (CB tab (ev s.fr) s.hp (nx0+i) (.nilCheck x)):=rfl
@[go_sem] theorem w9 (x:Operand):En P tab ops nx0 nx k Q i r dst acc fr hp (.nilCheck x)=FD P tab ops nx0 nx k Q (i+1) r dst acc (CX (ev fr) (.nilCheck x)) fr hp (CB tab (ev fr) hp (nx0+i) (.nilCheck x)):=rfl
@[go_sem] theorem xA (o:BinOp)(A B:TypeId)(x y:Operand):C3 P tab ops nx0 k Q i r dst s (.binOp o A x y B)=FC P tab ops nx0 k Q (i+1) r dst s (CB tab (ev s.fr) s.hp (nx0+i) (.binOp o A x y B)):=rfl
@[go_sem] theorem xB (o:BinOp)(A B:TypeId)(x y:Operand):En P tab ops nx0 nx k Q i r dst acc fr hp (.binOp o A x y B)=FD P tab ops nx0 nx k Q (i+1) r dst acc (CX (ev fr) (.binOp o A x y B)) fr hp (CB tab (ev fr) hp (nx0+i) (.binOp o A x y B)):=rfl
@[go_sem] theorem Rv (o:UnOp)(A:TypeId)(x:Operand):C3 P tab ops nx0 k Q i r dst s (.unOp o A x)=FC P tab ops nx0 k Q (i+1) r dst s (CB tab (ev s.fr) s.hp (nx0+i) (.unOp o A x)):=rfl
@[go_sem] theorem xD (o:UnOp)(A:TypeId)(x:Operand):En P tab ops nx0 nx k Q i r dst acc fr hp (.unOp o A x)=FD P tab ops nx0 nx k Q (i+1) r dst acc (CX (ev fr) (.unOp o A x)) fr hp (CB tab (ev fr) hp (nx0+i) (.unOp o A x)):=rfl
@[go_sem] theorem xE (A B:TypeId)(x:Operand):C3 P tab ops nx0 k Q i r dst s (.convert A B x)=FC P tab ops nx0 k Q (i+1) r dst s (CB tab (ev s.fr) s.hp (nx0+i) (.convert A B x)):=rfl
@[go_sem] theorem xF (A:TypeId)(x:Operand)(f:Nat):C3 P tab ops nx0 k Q i r dst s (.fieldAddr A x f)=FC P tab ops nx0 k Q (i+1) r dst s (CB tab (ev s.fr) s.hp (nx0+i) (.fieldAddr A x f)):=rfl
@[go_sem] theorem xG (A:TypeId)(x:Operand)(f:Nat):En P tab ops nx0 nx k Q i r dst acc fr hp (.fieldAddr A x f)=FD P tab ops nx0 nx k Q (i+1) r dst acc (CX (ev fr) (.fieldAddr A x f)) fr hp (CB tab (ev fr) hp (nx0+i) (.fieldAddr A x f)):=rfl
@[go_sem] theorem xH (A:TypeId)(x y:Operand):C3 P tab ops nx0 k Q i r dst s (.indexAddr A x y)=FC P tab ops nx0 k Q (i+1) r dst s (CB tab (ev s.fr) s.hp (nx0+i) (.indexAddr A x y)):=rfl
@[go_sem] theorem xI (A:TypeId)(x y:Operand):En P tab ops nx0 nx k Q i r dst acc fr hp (.indexAddr A x y)=FD P tab ops nx0 nx k Q (i+1) r dst acc (CX (ev fr) (.indexAddr A x y)) fr hp (CB tab (ev fr) hp (nx0+i) (.indexAddr A x y)):=rfl
@[go_sem] theorem xJ (A:TypeId)(x y:Operand):C3 P tab ops nx0 k Q i r dst s (.index A x y)=FC P tab ops nx0 k Q (i+1) r dst s (CB tab (ev s.fr) s.hp (nx0+i) (.index A x y)):=rfl
@[go_sem] theorem xK (A:TypeId)(x:Operand)(l h m:Option Operand):C3 P tab ops nx0 k Q i r dst s (.slice A x l h m)=FC P tab ops nx0 k Q (i+1) r dst s (CB tab (ev s.fr) s.hp (nx0+i) (.slice A x l h m)):=rfl
@[go_sem] theorem xL (A:TypeId)(x:Operand)(l h m:Option Operand):En P tab ops nx0 nx k Q i r dst acc fr hp (.slice A x l h m)=FD P tab ops nx0 nx k Q (i+1) r dst acc (CX (ev fr) (.slice A x l h m)) fr hp (CB tab (ev fr) hp (nx0+i) (.slice A x l h m)):=rfl
@[go_sem] theorem xM (x:Operand)(f:Nat):C3 P tab ops nx0 k Q i r dst s (.extract x f)=FC P tab ops nx0 k Q (i+1) r dst s (CB tab (ev s.fr) s.hp (nx0+i) (.extract x f)):=rfl
@[go_sem] theorem xN (x:Operand)(f:Nat):En P tab ops nx0 nx k Q i r dst acc fr hp (.extract x f)=FD P tab ops nx0 nx k Q (i+1) r dst acc (CX (ev fr) (.extract x f)) fr hp (CB tab (ev fr) hp (nx0+i) (.extract x f)):=rfl
@[go_sem] theorem xO (f:Fn)(u w:Array Operand):C3 P tab ops nx0 k Q i r dst s (.makeFunc f u w)=FC P tab ops nx0 k Q (i+1) r dst s (CB tab (ev s.fr) s.hp (nx0+i) (.makeFunc f u w)):=rfl
@[go_sem] theorem xP (b:Builtin)(u:Array Operand)(w:Array TypeId):C3 P tab ops nx0 k Q i r dst s (.call { callee:=.builtin b,args:=u,argTypes:=w })=FC P tab ops nx0 k Q (i+1) r dst s (CB tab (ev s.fr) s.hp (nx0+i) (.call { callee:=.builtin b,args:=u,argTypes:=w })):=rfl
@[go_sem] theorem xQ (b:Builtin)(u:Array Operand)(w:Array TypeId):En P tab ops nx0 nx k Q i r dst acc fr hp (.call { callee:=.builtin b,args:=u,argTypes:=w })=FD P tab ops nx0 nx k Q (i+1) r dst acc (CX (ev fr) (.call { callee:=.builtin b,args:=u,argTypes:=w })) fr hp (CB tab (ev fr) hp (nx0+i) (.call { callee:=.builtin b,args:=u,argTypes:=w })):=rfl
@[go_sem] theorem xR (A:TypeId)(x:Option Operand):C3 P tab ops nx0 k Q i r dst s (.makeMap A x)=FC P tab ops nx0 k Q (i+1) r dst s (CB tab (ev s.fr) s.hp (nx0+i) (.makeMap A x)):=rfl
@[go_sem] theorem xS (A:TypeId)(x y:Operand)(c:Bool):C3 P tab ops nx0 k Q i r dst s (.lookup A x y c)=FC P tab ops nx0 k Q (i+1) r dst s (CB tab (ev s.fr) s.hp (nx0+i) (.lookup A x y c)):=rfl
@[go_sem] theorem xT (A:TypeId)(x y:Operand)(c:Bool):En P tab ops nx0 nx k Q i r dst acc fr hp (.lookup A x y c)=FD P tab ops nx0 nx k Q (i+1) r dst acc (CX (ev fr) (.lookup A x y c)) fr hp (CB tab (ev fr) hp (nx0+i) (.lookup A x y c)):=rfl
@[go_sem] theorem xU (A:TypeId)(x y z:Operand):En P tab ops nx0 nx k Q i r dst acc fr hp (.mapUpdate A x y z)=FD P tab ops nx0 nx k Q (i+1) r dst acc (CX (ev fr) (.mapUpdate A x y z)) fr hp (CB tab (ev fr) hp (nx0+i) (.mapUpdate A x y z)):=rfl
theorem HS {α:Type}(k:Nat)(x:α)(f:Nat->α)(j:Nat):upd k x f j=if j=k then x else f j:=rfl
theorem pm (k:IntKind)(n:Int):KK (.int k n)= .v (.int k n):=rfl
theorem pp (b:Bool):KK (.bool b)= .v (.bool b):=rfl
theorem pq (b:ByteArray):KK (.string b)= .v (.string b):=rfl
theorem pv:KK (.slice none 0 0)= .v (.slice none 0 0):=rfl
theorem pw:KK (.pointer none)= .v (.pointer none):=rfl
theorem P4 (b:Bool)(x:Value):Aw b (.v x)= .v x:=rfl
theorem px (b:Bool)(x:List (List D)):Aw b (.sl x)= .d (.sl x) b:=rfl
theorem pz (b:Bool)(x:List D)(o:Nat):Aw b (.pt x o)= .d (.pt x o) b:=rfl
theorem p7 (b:Bool)(x:List D):Aw b (.ag x)= .d (.ag x) b:=rfl
theorem p8 (b:Bool)(x:List D):Aw b (.tu x)= .d (.tu x) b:=rfl
theorem P5 (fr:Fr)(t:Nat):ev fr (.tmp t)=fr t:=rfl
theorem p9 (fr:Fr)(x:Value):ev fr (.const x)=KK x:=rfl
theorem qB (fr:Fr)(f:Nat):ev fr (.func f)= .fn f []:=rfl
theorem qC (t:Nat)(v:AV)(fr:Fr):A7 (some t) v fr=upd t v fr:=rfl
theorem qE (v:AV)(fr:Fr):A7 none v fr=fr:=rfl
theorem qF (h:Hp):Av [] h=h:=rfl
theorem qG (k:Nat)(o:AO)(r:List (Nat × AO))(h:Hp):Av ((k,o)::r) h=Av r (upd k (some o) h):=rfl
theorem qH (vs:List AV)(t:Nat):Df vs t=vs.getD t (.tu []):=rfl
theorem qI (t:Nat):AS t=none:=rfl
theorem qJ (k:IntKind)(n:Nat):D8 (.v (.int k (n:Int)))=some n:=by simp[D8,V3]
attribute [go_sem] pO pP pQ pR pS Py pT pU Pz pV pW pX pY pZ pa pb P0 Tc Td pc pg ph pi CT DE LU Lg LB Lk LD LY LE LJ Bool.or_false O6 BT Ox ND Ov BQ OJ CB JP Ko HS pm pp pq pv pw P4 px pz p7 p8 P5 p9 qB qC qE qF qG qH qI qJ Ma F1 JO Km
end
section
variable (hp:Hp)(b c:Bool)(x:List (List D))(y:List D)(o n i v:Nat)(k:IntKind)(z:Int)(s:ByteArray)(m:List (Value × Bool × List D))(cs:List AV)(f:FuncId)(p:Option Addr)(q:Option Nat)(e:Value)
@[go_sem] theorem Th (i:Nat):H0 i []=true:=rfl
@[go_sem] theorem Ti:CS hp (.v (.int k z))=some (.v (.int k z),false,[]):=rfl
@[go_sem] theorem Rw:CS hp (.v (.bool c))=some (.v (.bool c),false,[]):=rfl
@[go_sem] theorem Tj:CS hp (.v (.string s))=some (.v (.string s),false,[]):=rfl
@[go_sem] theorem Tm:CS hp (.v (.slice none 0 0))=some (.sl [],false,[]):=rfl
@[go_sem] theorem Tn:CS hp (.d (.sl x) b)=some (.sl x,b,[]):=rfl
@[go_sem] theorem WU:CS hp (.so i v o n)=match hp i with |some (.rw es _ w br _)=>if w=v then some (.sl ((es.drop o).take n),br,[i]) else none |_=>none:=rfl
@[go_sem] theorem fh:EP hp (.v e)=CS hp (.v e):=rfl
@[go_sem] theorem WV:EP hp (.d (.sl x) b)=some (.sl x,b,[]):=rfl
@[go_sem] theorem ZN:EP hp (.so i v o n)=CS hp (.so i v o n):=rfl
@[go_sem] theorem ZO:EP hp (.ag cs)=(DE hp cs).map fun(ds,b,i)=>(.ag ds,b,i):=rfl
@[go_sem] theorem WW:EP hp (.d (.ag y) b)=some (.ag y,b&& !I7 y,[]):=rfl
@[go_sem] theorem WX:Fg hp (.d (.sl x) b)=some (x,b&& !JN x,[]):=rfl
@[go_sem] theorem To:Fg hp (.so i v o n)=match hp i with |some (.rw es _ w br _)=>if v=w then some ((es.drop o).take n,br,[i]) else none |_=>none:=rfl
@[go_sem] theorem Tp:De (.v e)=some [.v e]:=rfl
@[go_sem] theorem Rx:De (.ag cs)=some cs:=rfl
@[go_sem] theorem xV:De (.d (.ag y) b)=some (y.map (Aw b)):=rfl
@[go_sem] theorem xW:De (.d (.sl x) b)=some [.d (.sl x) b]:=rfl
@[go_sem] theorem xX:De (.d (.pt y o) b)=some [.d (.pt y o) b]:=rfl
@[go_sem] theorem Ry:De (.pt i o)=some [.pt i o]:=rfl
@[go_sem] theorem Rz:De (.so i v o n)=some [.so i v o n]:=rfl
@[go_sem] theorem R5:De (.mo i)=some [.mo i]:=rfl
@[go_sem] theorem ZQ:Ff (.v e)=none:=rfl
@[go_sem] theorem WY:Ff (.ag cs)=some cs:=rfl
@[go_sem] theorem Tq:Ff (.d (.ag y) b)=some (y.map (Aw b)):=rfl
@[go_sem] theorem R6:FZ (.pt i o)=true:=rfl
@[go_sem] theorem Ts:RY (.pt i o)=true:=rfl
@[go_sem] theorem R7:RY (.d (.pt y o) b)=true:=rfl
@[go_sem] theorem WZ:Mc (.v e)=true:=rfl
@[go_sem] theorem R8:Mc (.d (.sl x) b)=true:=rfl
@[go_sem] theorem Tt:Mc (.pt i o)=true:=rfl
@[go_sem] theorem Tu:Mc (.so i v o n)=true:=rfl
@[go_sem] theorem fj:toR hp (.v e)=CS hp (.v e):=rfl
@[go_sem] theorem ZS:toR hp (.so i v o n)=CS hp (.so i v o n):=rfl
@[go_sem] theorem ZU:toR hp (.tu cs)=(CT hp cs).map fun(ds,b,i)=>(.tu ds,b,i):=rfl
end
end
section
open Go.RowKit
def Wa (P:Program):List Field->Option (List (Nat × Nat))
 |[]=>some []
 |f::r=>match P.info? f.type,Wa P r with
  |some i,some l=>some ((f.offset,i.size)::l)
  |_,_=>none
theorem fk {P:Program}:∀ {fs:List Field} {l:List (Nat × Nat)},Wa P fs=some l->fs.length=l.length/\∀(i:Nat) (f:Field),fs[i]? =some f->∃fi,P.info? f.type=some fi/\l[i]? =some (f.offset,fi.size)
 |[],l,h=>by
  cases h;exact⟨rfl,fun i f h=>by simp at h⟩
 |f::r,l,h=>by
  unfold Wa at h;split at h
  ·rename_i i l' h1 h2;cases h
   have:=fk h2;refine⟨by simp[this.1],fun k f' hk=> ?_⟩;cases k with |zero=>simp only[LV,Le] at hk;subst hk;exact⟨i,h1,rfl⟩ |succ k=>exact this.2 k f' (by simpa using hk)
  cases h
def SA (P:Program):TypeDesc->Option (TK × Nat × List (Nat × Nat))
 | .slice e=>some (.slice,e,[])
 | .string=>some (.string,0,[])
 | .int k=>some (.int k,0,[])
 | .bool=>some (.bool,0,[])
 | .pointer e=>some (.ptr,e,[])
 | .map _ e=>some (.map,e,[])
 | .struct fs=>(Wa P fs.toList).map fun l=>(.struct,0,l)
 | .array _ _=>none
 |_=>some (.other,0,[])
def SB (go:Nat->Option (List TK)):Nat->List Field->Option (List TK)
 |_,[]=>some []
 |off,f::r=>if f.name≠ "_" /\f.offset=off then match go f.type with
  |some ks=>match SB go (off+ks.length) r with
   |some l=>some (ks++l)
   |none=>none
  |none=>none else none
def flatK (P:Program):Nat->Nat->Option (List TK)
 |0,_=>none
 |d+1,t=>match P.underlying t with
  |some .bool=>some [.bool]
  |some (.int k)=>some [.int k]
  |some .string=>some [.string]
  |some (.struct fs)=>if P.stoodInHeld t=false/\P.eqGuardType P.depth t=false then match P.info? t,SB (flatK P d) 0 fs.toList with
   |some i,some l=>if i.size=l.length then some l else none
   |_,_=>none else none
  |_=>none
theorem fl:∀ {ks ls:List TK} {xs ys:List Value} {b:Bool},Dy (ks++ls) xs ys=some b->∃b1 b2,Dy ks (xs.take ks.length) (ys.take ks.length)=some b1/\Dy ls (xs.drop ks.length) (ys.drop ks.length)=some b2/\b=(b1&&b2)
 |[],ls,xs,ys,b,h=>⟨true,b,by simp[Dy],by simpa using h,by simp⟩
 |k::ks,ls,[],ys,b,h=>by simp[Dy] at h
 |k::ks,ls,x::xs,[],b,h=>by simp[Dy] at h
 |k::ks,ls,x::xs,y::ys,b,h=>by
  simp only[LJ,Dy] at h;split at h
  ·rename_i b0 c0 h1 h2;obtain⟨b1,b2,h3,h4,h5⟩:=fl h2;refine⟨b0&&b1,b2,by simp[Dy,h1,h3],by simpa using h4,?_⟩;cases h;rw[h5,Ok]
  cases h
def ZV (P:Program)(dd:Nat)(t:Nat)(ks:List TK):Prop:=∀(w:World) (xs ys:Array Value) (b:Bool),Dy ks xs.toList ys.toList=some b->(Op.equalIn dd t (.agg xs) (.agg ys)).run P w= .ok b w
def ZW (P:Program)(dd:Nat)(t:Nat)(ks:List TK):Prop:=∀(w:World) (xs ys:Array Value) (off:Nat) (b:Bool),Dy ks ((xs.toList.drop off).take ks.length) ((ys.toList.drop off).take ks.length)=some b->∃a c,(part t xs off).run P w= .ok a w/\(part t ys off).run P w= .ok c w/\(Op.equalIn dd t a c).run P w= .ok b w
theorem P6 {P:Program}{t:Nat}{d:TypeDesc}{k:TK}{x y:Value}{b:Bool}(hu:P.underlying t=some d)(hk:(d= .bool/\k= .bool)\/(d= .string/\k= .string)\/∃q,d= .int q/\k= .int q)(h:F2 k x y=some b)(dd:Nat)(w:World):(Op.equalIn (dd+1) t x y).run P w= .ok b w:=by
 rcases hk with⟨rfl,rfl⟩ |⟨rfl,rfl⟩ |⟨q,rfl,rfl⟩<;>(unfold F2 at h;split at h<;>simp_all [Op.equalIn,run_underlying hu]<;>(obtain⟨⟨h1,h2⟩,h3⟩:=h;subst h1;subst h2;simp))
theorem P7 {xs:List Value}{off:Nat}{k:TK}{ys:List Value}{b:Bool}(h:Dy [k] ((xs.drop off).take 1) ((ys.drop off).take 1)=some b):∃x y,xs[off]? =some x/\ys[off]? =some y/\F2 k x y=some b:=by
 have hx:(xs.drop off).take 1=(xs[off]?).toList:=by
  cases e:xs[off]? with
  |none=>simp at e;simp[e]
  |some x=>rw[Lb] at e;obtain⟨e1,e2⟩:=e;rw[Ly e1];simp[e2]
 have hy:(ys.drop off).take 1=(ys[off]?).toList:=by
  cases e:ys[off]? with
  |none=>simp at e;simp[e]
  |some x=>rw[Lb] at e;obtain⟨e1,e2⟩:=e;rw[Ly e1];simp[e2]
 rw[hx,hy] at h;cases e1:xs[off]? with
 |none=>rw[e1] at h;simp[Dy] at h
 |some x=>
  cases e2:ys[off]? with
  |none=>rw[e1,e2] at h;simp[Dy] at h
  |some y=>
   rw[e1,e2] at h;simp only[On,Dy] at h;split at h
   ·rename_i b0 c0 h1 h2;cases h2;cases h;exact⟨x,y,rfl,rfl,by simpa using h1⟩
   cases h
theorem fm {P:Program}{go:Nat->Option (List TK)}{dd:Nat}(hgo:∀t ks,go t=some ks->ZW P dd t ks):∀(fs:List Field) (off:Nat) (ks:List TK),SB go off fs=some ks->
  ∀(w:World) (xs ys:Array Value) (b:Bool),Dy ks (xs.toList.drop off) (ys.toList.drop off)=some b->(Op.eqFields dd xs ys fs).run P w= .ok b w
 |[],off,ks,h,w,xs,ys,b,hb=>by
  cases h
  have:b=true:=by
   generalize xs.toList.drop off=u at hb;generalize ys.toList.drop off=v at hb;cases u<;>cases v<;>simp[Dy] at hb;exact hb
  subst this;simp[Op.eqFields]
 |f::fs,off,ks,h,w,xs,ys,b,hb=>by
  unfold SB at h;split at h
  ·rename_i hn;split at h
   ·rename_i k1 h1;split at h
    ·rename_i k2 h2;cases h;obtain⟨b1,b2,h3,h4,rfl⟩:=fl hb;obtain⟨a,c,e1,e2,e3⟩:=hgo _ _ h1 w xs ys off b1 h3;rw[Ol,Ol] at h4;have e4:=fm hgo fs (off+k1.length) k2 h2 w xs ys b2 h4;simp only[Op.eqFields,hn.1,ne_eq,not_false_eq_true,if_true,hn.2,Sem.run_bind,e1,e2,e3,Result.andThen_ok];cases b1
     ·simp
     simpa using e4
    cases h
   cases h
  cases h
theorem qK {P:Program}{d t:Nat}{ks:List TK}(h:flatK P d t=some ks):(∃fs,P.underlying t=some (.struct fs))->P.eqGuardType P.depth t=false:=by
 rintro⟨fs,hu⟩;cases d with
 |zero=>cases h
 |succ d=>
  unfold flatK at h;simp only[hu] at h;split at h
  ·rename_i h1;exact h1.2
  cases h
theorem Wb {P:Program}(n:Nat):∀(d t:Nat) (ks:List TK),flatK P d t=some ks->ZW P (n+d) t ks/\((∃fs,P.underlying t=some (.struct fs))->ZV P (n+d) t ks)
 |0,t,ks,h=>by cases h
 |d+1,t,ks,h=>by
  have one:∀(dsc:TypeDesc) (k:TK),P.underlying t=some dsc->((dsc= .bool/\k= .bool)\/(dsc= .string/\k= .string)\/∃q,dsc= .int q/\k= .int q)->ks= [k]->ZW P (n+(d+1)) t ks/\((∃fs,P.underlying t=some (.struct fs))->ZV P (n+(d+1)) t ks):=by
   intro dsc k hu hk e;subst e;refine⟨fun w xs ys off b hb=> ?_,fun⟨fs,hs⟩=> ?_⟩
   ·obtain⟨x,y,h1,h2,h3⟩:=P7 (by simpa using hb);have hp:P.plainKey t=true:=(by rcases hk with⟨rfl,_⟩ |⟨rfl,_⟩ |⟨q,rfl,_⟩<;>simp[Program.plainKey,hu]);exact⟨x,y,run_part_plain w hp (by simpa using h1),run_part_plain w hp (by simpa using h2),P6 hu hk h3 (n+d) w⟩
   rw[hu] at hs;rcases hk with⟨rfl,_⟩ |⟨rfl,_⟩ |⟨q,rfl,_⟩<;>cases hs
  unfold flatK at h;split at h
  ·rename_i hu;exact one _ .bool hu (.inl ⟨rfl,rfl⟩) (by cases h;rfl)
  ·rename_i q hu;exact one _ (.int q) hu (.inr (.inr ⟨q,rfl,rfl⟩)) (by cases h;rfl)
  ·rename_i hu;exact one _ .string hu (.inr (.inl ⟨rfl,rfl⟩)) (by cases h;rfl)
  ·rename_i fs hu;split at h
   ·rename_i hg;split at h
    ·rename_i i l hi hl;split at h
     ·rename_i hsz;cases h;have hfs:P.fieldsOf t=fs:=(by simp[Program.fieldsOf,hu]);have hs:ZV P (n+(d+1)) t ks:=by
       intro w xs ys b hb;rw[show n+(d+1)=(n+d)+1 from rfl,run_equalIn_struct w (n+d) t xs ys (by rw[hfs];exact hu) hg.1,hfs];exact fm (fun t' ks' h'=>(Wb n d t' ks' h').1) fs.toList 0 ks hl w xs ys b (by simpa using hb)
      refine⟨fun w xs ys off b hb=> ?_,fun _=>hs⟩;have hc:P.cellsOf t=ks.length:=(by simp[Program.cellsOf,hi,hsz]);have ex:∀zs:Array Value,(zs.extract off (off+ks.length)).toList=(zs.toList.drop off).take ks.length:=fun zs=>by
       rw[OW];simp[List.extract]
      refine⟨.agg (xs.extract off (off+ks.length)),.agg (ys.extract off (off+ks.length)),?_,?_,hs w _ _ b (by rw[ex,ex];exact hb)⟩<;>simp[part,isAgg,run_underlying hu,run_sizeOf w hi,hc]
     cases h
    cases h
   cases h
  cases h
def Wc (P:Program)(k:TK)(T:Nat):Option (List TK):=match k with
 | .struct=>flatK P 20 T
 |_=>none
def Ja:TK->Bool
 | .struct | .array _=>true
 |_=>false
def Mh (k:TK)(z:Value):Bool:=z.cells.toList.all (·.oneCell')&&(match Ja k,z with
 |true,.agg _=>true
 |false,z=>z.oneCell'
 |_,_=>false)
theorem SC {k:TK}{z:Value}(h:Mh k z=true):(∀x∈z.cells.toList,x.oneCell'=true)/\(Ja k=true->∃vs,z= .agg vs)/\(Ja k=false->z.oneCell'=true):=by
 unfold Mh at h;rw[Li] at h;refine⟨fun x hx=>LL.1 h.1 x hx,fun hk=> ?_,fun hk=> ?_⟩
 ·have:=h.2;rw[hk] at this;cases z<;>first |exact⟨_,rfl⟩ |cases this
 have:=h.2;rw[hk] at this;exact this
theorem ZX (t:TI):t.agg=Ja t.kind:=by unfold TI.agg Ja;cases t.kind<;>rfl
def G3 (P:Program)(T:Nat):TI:=
 match P.info? T,P.underlying T with
 |some i,some d=>match i.zero,SA P d with
  |some z,some (k,e,l)=>if z.cells.size=i.size/\Mh k z=true then{ ok:=true,kind:=k,size:=i.size,bytes:=i.bytes,offs:=l,elem:=e,zero:=z.cells.toList,flat:=Wc P k T } else{}
  |_,_=>{}
 |_,_=>{}
theorem Kz (P:Program)(T:Nat):G3 P T={}\/∃i d z k e l,P.info? T=some i/\P.underlying T=some d/\i.zero=some z/\SA P d=some (k,e,l)/\z.cells.size=i.size/\Mh k z=true/\G3 P T={ ok:=true,kind:=k,size:=i.size,bytes:=i.bytes,offs:=l,elem:=e,zero:=z.cells.toList,flat:=Wc P k T }:=by
 unfold G3;split
 ·rename_i i d h1 h2;split
  ·rename_i z k e l h3 h4;split
   ·rename_i h5;exact .inr ⟨i,d,z,k,e,l,h1,h2,h3,h4,h5.1,h5.2,rfl⟩
   exact .inl rfl
  exact .inl rfl
 exact .inl rfl
theorem fo {P:Program}{T:Nat}{d:TypeDesc}{k:TK}{el:Nat}{l:List (Nat × Nat)}{ks:List TK}(h2:P.underlying T=some d)(h4:SA P d=some (k,el,l))(h:Wc P k T=some ks):(∃fs,P.underlying T=some (.struct fs))/\flatK P 20 T=some ks:=by
 cases d<;>simp only[SA,Le,Lu,La,reduceCtorEq] at h4
 case struct fs=>
  obtain⟨l',_,h5,_⟩:=h4;subst h5;exact⟨⟨fs,h2⟩,h⟩
 all_goals (obtain⟨h5,_⟩:=h4;subst h5;simp[Wc] at h)
theorem Tv (P:Program):AU P (G3 P) where
 mkey T q h:=by
  obtain e |⟨i,d,z,k,el,l,h1,h2,h3,h4,h5,h6,e⟩:=Kz P T<;>(rw[e] at h;cases h)
 dflt T h:=by
  obtain e |⟨i,d,z,k,el,l,h1,h2,h3,h4,h5,h6,e⟩:=Kz P T
  ·exact e
  rw[e] at h;cases h
 info T h:=by
  obtain e |⟨i,d,z,k,el,l,h1,h2,h3,h4,h5,h6,e⟩:=Kz P T
  ·rw[e] at h;cases h
  rw[e];exact⟨i,z,h1,rfl,rfl,h3,by simp,by simpa using h5,(SC h6).1,by rw[ZX];exact(SC h6).2⟩
 kind T h:=by
  obtain e |⟨i,d,z,k,el,l,h1,h2,h3,h4,h5,h6,e⟩:=Kz P T
  ·rw[e] at h;cases h
  rw[e];refine⟨d,h2,?_⟩;cases d with
  |struct fs=>
   simp only[SA,La] at h4;obtain⟨l',h7,h8⟩:=h4;cases h8;obtain⟨h9,h10⟩:=fk h7;exact⟨fs,rfl,by simpa using h9,fun i f hf=>h10 i f (by simpa using hf)⟩
  |pointer e'=>cases h4;exact⟨_,rfl⟩
  |map k' e'=>cases h4;exact⟨_,rfl⟩
  |array n e'=>cases h4
  |_=>cases h4;first |rfl |trivial
 flat T ks h xs ys b hb w:=by
  obtain e |⟨i,d,z,k,el,l,h1,h2,h3,h4,h5,h6,e⟩:=Kz P T
  ·rw[e] at h;cases h
  rw[e] at h;obtain⟨h7,h8⟩:=fo h2 h4 h;exact(Wb 9980 20 T ks h8).2 h7 w xs.toArray ys.toArray b (by simpa using hb)
 guard T ks h:=by
  obtain e |⟨i,d,z,k,el,l,h1,h2,h3,h4,h5,h6,e⟩:=Kz P T
  ·rw[e] at h;cases h
  rw[e] at h;obtain⟨h7,h8⟩:=fo h2 h4 h;exact qK h8 h7
def Dg (P:Program)(T:Nat):TI:=
 match P.info? T,P.underlying T with
 |some i,some (.array n e)=>match i.zero with
  |some z=>if z.cells.size=i.size/\Mh (.array n) z=true/\(G3 P e).ok=true then{ ok:=true,kind:=.array n,size:=i.size,bytes:=i.bytes,offs:=(List.range n).map fun j=>(j*(G3 P e).size,(G3 P e).size),elem:=e,zero:=z.cells.toList } else{}
  |none=>{}
 |_,_=>G3 P T
theorem SD (P:Program)(T:Nat):Dg P T=G3 P T\/Dg P T={}\/∃i n e z,P.info? T=some i/\P.underlying T=some (.array n e)/\i.zero=some z/\z.cells.size=i.size/\Mh (.array n) z=true/\(G3 P e).ok=true/\Dg P T={ ok:=true,kind:=.array n,size:=i.size,bytes:=i.bytes,offs:=(List.range n).map fun j=>(j*(G3 P e).size,(G3 P e).size),elem:=e,zero:=z.cells.toList }:=by
 unfold Dg;split
 ·rename_i i n e h1 h2;split
  ·rename_i z h3;split
   ·rename_i h4;exact .inr (.inr ⟨i,n,e,z,h1,h2,h3,h4.1,h4.2.1,h4.2.2,rfl⟩)
   exact .inr (.inl rfl)
  exact .inr (.inl rfl)
 exact .inl rfl
theorem fp {P:Program}{T:Nat}(h:(G3 P T).ok=true):Dg P T=G3 P T:=by
 obtain e |⟨i,d,z,k,el,l,h1,h2,h3,h4,h5,h6,e⟩:=Kz P T
 ·rw[e] at h;cases h
 unfold Dg;rw[h1,h2];cases d with
 |array n e'=>cases h4
 |_=>rfl
theorem fu (P:Program)(T:Nat):(Dg P T).mkey=none:=by
 obtain e |e |⟨i,n,el,z,h1,h2,h3,h4,h5,h6,e⟩:=SD P T
 ·rw[e];obtain e |⟨i,d,z,k,el,l,h1,h2,h3,h4,h5,h6,e⟩:=Kz P T<;>rw[e]
 ·rw[e]
 rw[e]
theorem Tw (P:Program):AU P (Dg P) where
 mkey T q h:=by rw[fu] at h;cases h
 dflt T h:=by
  obtain e |e |⟨i,n,el,z,h1,h2,h3,h4,h5,h6,e⟩:=SD P T
  ·rw[e] at h⊢;exact(Tv P).dflt T h
  ·exact e
  rw[e] at h;cases h
 info T h:=by
  obtain e |e |⟨i,n,el,z,h1,h2,h3,h4,h5,h6,e⟩:=SD P T
  ·rw[e] at h⊢;exact(Tv P).info T h
  ·rw[e] at h;cases h
  rw[e];exact⟨i,z,h1,rfl,rfl,h3,by simp,by simpa using h4,(SC h5).1,by rw[ZX];exact(SC h5).2⟩
 kind T h:=by
  obtain e |e |⟨i,n,el,z,h1,h2,h3,h4,h5,h6,e⟩:=SD P T
  ·rw[e] at h⊢;obtain⟨d,g1,g2⟩:=(Tv P).kind T h;refine⟨d,g1,?_⟩;cases hk:(G3 P T).kind with
   |array n=>
    exfalso;obtain e |⟨i,d,z,k,el,l,h1,h2,h3,h4,h5,h6,e⟩:=Kz P T
    ·rw[e] at h;cases h
    ·rw[e] at hk;simp only at hk;subst hk;cases d<;>simp[SA] at h4
   |_=>rw[hk] at g2;exact g2
  ·rw[e] at h;cases h
  rw[e];refine⟨_,h2,rfl,by rw[fp h6];exact h6,fun j p hp=> ?_⟩;simp only[Lj,La] at hp;obtain⟨j',hj,rfl⟩:=hp;rw[Lb] at hj;obtain⟨_,hj⟩:=hj;simp only[O7] at hj;subst hj;rw[fp h6]
 flat T ks h xs ys b hb w:=by
  obtain e |e |⟨i,n,el,z,h1,h2,h3,h4,h5,h6,e⟩:=SD P T
  ·rw[e] at h;exact(Tv P).flat T ks h xs ys b hb w
  ·rw[e] at h;cases h
  rw[e] at h;cases h
 guard T ks h:=by
  obtain e |e |⟨i,n,el,z,h1,h2,h3,h4,h5,h6,e⟩:=SD P T
  ·rw[e] at h;exact(Tv P).guard T ks h
  ·rw[e] at h;cases h
  rw[e] at h;cases h
def G4 (P:Program)(T:Nat):TI:=
 if (Dg P T).ok=true then Dg P T else match P.info? T,P.underlying T with
 |some i,some (.array n e)=>match i.zero with
  |some z=>if z.cells.size=i.size/\Mh (.array n) z=true/\(Dg P e).ok=true then{ ok:=true,kind:=.array n,size:=i.size,bytes:=i.bytes,offs:=(List.range n).map fun j=>(j*(Dg P e).size,(Dg P e).size),elem:=e,zero:=z.cells.toList } else{}
  |none=>{}
 |_,_=>{}
theorem SE (P:Program)(T:Nat):G4 P T=Dg P T\/G4 P T={}\/∃i n e z,P.info? T=some i/\P.underlying T=some (.array n e)/\i.zero=some z/\z.cells.size=i.size/\Mh (.array n) z=true/\(Dg P e).ok=true/\G4 P T={ ok:=true,kind:=.array n,size:=i.size,bytes:=i.bytes,offs:=(List.range n).map fun j=>(j*(Dg P e).size,(Dg P e).size),elem:=e,zero:=z.cells.toList }:=by
 unfold G4;split
 ·exact .inl rfl
 split
 ·rename_i i n e h1 h2;split
  ·rename_i z h3;split
   ·rename_i h4;exact .inr (.inr ⟨i,n,e,z,h1,h2,h3,h4.1,h4.2.1,h4.2.2,rfl⟩)
   exact .inr (.inl rfl)
  exact .inr (.inl rfl)
 exact .inr (.inl rfl)
theorem ZY {P:Program}{T:Nat}(h:(Dg P T).ok=true):G4 P T=Dg P T:=by
 unfold G4;rw[if_pos h]
theorem qL (P:Program)(T:Nat):(G4 P T).mkey=none:=by
 obtain e |e |⟨i,n,el,z,h1,h2,h3,h4,h5,h6,e⟩:=SE P T
 ·rw[e];exact fu P T
 ·rw[e]
 rw[e]
theorem Tx (P:Program):AU P (G4 P) where
 mkey T q h:=by rw[qL] at h;cases h
 dflt T h:=by
  obtain e |e |⟨i,n,el,z,h1,h2,h3,h4,h5,h6,e⟩:=SE P T
  ·rw[e] at h⊢;exact(Tw P).dflt T h
  ·exact e
  rw[e] at h;cases h
 info T h:=by
  obtain e |e |⟨i,n,el,z,h1,h2,h3,h4,h5,h6,e⟩:=SE P T
  ·rw[e] at h⊢;exact(Tw P).info T h
  ·rw[e] at h;cases h
  rw[e];exact⟨i,z,h1,rfl,rfl,h3,by simp,by simpa using h4,(SC h5).1,by rw[ZX];exact(SC h5).2⟩
 kind T h:=by
  obtain e |e |⟨i,n,el,z,h1,h2,h3,h4,h5,h6,e⟩:=SE P T
  ·rw[e] at h⊢;obtain⟨d,g1,g2⟩:=(Tw P).kind T h;refine⟨d,g1,?_⟩;cases hk:(Dg P T).kind with
   |array n=>
    rw[hk] at g2;simp only at g2⊢;rw[ZY g2.2.1];exact g2
   |_=>rw[hk] at g2;exact g2
  ·rw[e] at h;cases h
  rw[e];refine⟨_,h2,rfl,by rw[ZY h6];exact h6,fun j p hp=> ?_⟩;simp only[Lj,La] at hp;obtain⟨j',hj,rfl⟩:=hp;rw[Lb] at hj;obtain⟨_,hj⟩:=hj;simp only[O7] at hj;subst hj;rw[ZY h6]
 flat T ks h xs ys b hb w:=by
  obtain e |e |⟨i,n,el,z,h1,h2,h3,h4,h5,h6,e⟩:=SE P T
  ·rw[e] at h;exact(Tw P).flat T ks h xs ys b hb w
  ·rw[e] at h;cases h
  rw[e] at h;cases h
 guard T ks h:=by
  obtain e |e |⟨i,n,el,z,h1,h2,h3,h4,h5,h6,e⟩:=SE P T
  ·rw[e] at h;exact(Tw P).guard T ks h
  ·rw[e] at h;cases h
  rw[e] at h;cases h
def ZZ (P:Program)(dd:Nat)(t:Nat)(ks:List TK):Prop:=∀(w:World) (em:Bool) (xs:Array Value) (off:Nat),Fi ks ((xs.toList.drop off).take ks.length)=true->∃a,(part t xs off).run P w= .ok a w/\(Instr.checkKey em dd t a).run P w= .ok () w
def Za (P:Program)(dd:Nat)(t:Nat)(ks:List TK):Prop:=∀(w:World) (em:Bool) (xs:Array Value),Fi ks xs.toList=true->(Instr.checkKey em dd t (.agg xs)).run P w= .ok () w
theorem fw:∀ {ks ls:List TK} {xs:List Value},Fi (ks++ls) xs=true->Fi ks (xs.take ks.length)=true/\Fi ls (xs.drop ks.length)=true
 |[],ls,xs,h=>⟨by simp[Fi],by simpa using h⟩
 |k::ks,ls,[],h=>by simp[Fi] at h
 |k::ks,ls,x::xs,h=>by
  simp only[LJ,Fi,Li] at h;obtain⟨h1,h2⟩:=fw h.2;exact⟨by simp[Fi,h.1,h1],by simpa using h2⟩
theorem Zb:∀ {ks:List TK} {xs:List Value},Fi ks xs=true->∃b,Dy ks xs xs=some b
 |[],[],_=>⟨true,rfl⟩
 |[],_::_,h=>by simp[Fi] at h
 |_::_,[],h=>by simp[Fi] at h
 |k::ks,x::xs,h=>by
  simp only[Fi,Li] at h;obtain⟨b,hb⟩:=Zb h.2
  have:∃c,F2 k x x=some c:=by
   have:=h.1;unfold Pf at this;split at this
   ·exact⟨_,by rw[F2,if_pos ⟨by simpa using this,by simpa using this⟩]⟩
   ·exact⟨_,rfl⟩
   ·exact⟨_,rfl⟩
   cases this
  obtain⟨c,hc⟩:=this;exact⟨c&&b,by simp[Dy,hc,hb]⟩
theorem fx {P:Program}{go:Nat->Option (List TK)}{dd:Nat}{em:Bool}(hgo:∀t ks,go t=some ks->ZZ P dd t ks)(w:World)(xs:Array Value):∀(fs:List Field) (off:Nat) (ks:List TK),SB go off fs=some ks->Fi ks (xs.toList.drop off)=true->
  (forIn (m:=Sem) fs PUnit.unit fun(f:Field) (_:PUnit)=>do
   if f.name≠ "_" then Instr.checkKey em dd f.type (<-part f.type xs f.offset)
   pure (ForInStep.yield PUnit.unit)).run P w= .ok PUnit.unit w
 |[],off,ks,h,hw=>by simp
 |f::fs,off,ks,h,hw=>by
  unfold SB at h;split at h
  ·rename_i hn;split at h
   ·rename_i k1 h1;split at h
    ·rename_i k2 h2;cases h;obtain⟨h3,h4⟩:=fw hw;obtain⟨a,e1,e2⟩:=hgo _ _ h1 w em xs off h3;rw[Ol] at h4;have ih:=fx (em:=em) hgo w xs fs (off+k1.length) k2 h2 h4;simp only[List.forIn_cons,Sem.run_bind,hn.1,ne_eq,not_false_eq_true,if_true,hn.2,e1,e2,Result.andThen_ok,Sem.run_pure];exact ih
    cases h
   cases h
  cases h
theorem fy {P:Program}(n:Nat):∀(d t:Nat) (ks:List TK),flatK P d t=some ks->ZZ P (n+d) t ks/\((∃fs,P.underlying t=some (.struct fs))->Za P (n+d) t ks)
 |0,t,ks,h=>by cases h
 |d+1,t,ks,h=>by
  have hE:=Wb n (d+1) t ks h;have one:∀(dsc:TypeDesc) (k:TK),P.underlying t=some dsc->(dsc= .bool\/dsc= .string\/∃q,dsc= .int q)->ZZ P (n+(d+1)) t ks/\((∃fs,P.underlying t=some (.struct fs))->Za P (n+(d+1)) t ks):=by
   intro dsc k hu hk;refine⟨fun w em xs off hw=> ?_,fun⟨fs,hs⟩=> ?_⟩
   ·obtain⟨b,hb⟩:=Zb hw;obtain⟨a,c,e1,_,_⟩:=hE.1 w xs xs off b hb;refine⟨a,e1,?_⟩;rw[show n+(d+1)=(n+d)+1 from rfl];rcases hk with rfl |rfl |⟨q,rfl⟩<;>simp[Instr.checkKey,run_underlying hu]
   rw[hu] at hs;rcases hk with rfl |rfl |⟨q,rfl⟩<;>cases hs
  unfold flatK at h;split at h
  ·rename_i hu;exact one _ .bool hu (.inl rfl)
  ·rename_i q hu;exact one _ (.int q) hu (.inr (.inr ⟨q,rfl⟩))
  ·rename_i hu;exact one _ .string hu (.inr (.inl rfl))
  ·rename_i fs hu;split at h;rotate_left
   ·cases h
   rename_i hg;split at h
   ·rename_i i l hi hl;split at h
    ·rename_i hsz;cases h;have hs:Za P (n+(d+1)) t ks:=by
      intro w em xs hw;rw[show n+(d+1)=(n+d)+1 from rfl,Instr.checkKey];simp only[Sem.run_bind,run_underlying hu,Result.andThen_ok];rw[<-Array.forIn_toList]
      have:=fx (em:=em) (fun t' ks' h'=>(fy n d t' ks' h').1) w xs fs.toList 0 ks hl (by simpa using hw);simp at this⊢;rw[this];rfl
     refine⟨fun w em xs off hw=> ?_,fun _=>hs⟩;obtain⟨b,hb⟩:=Zb hw;have hc:P.cellsOf t=ks.length:=(by simp[Program.cellsOf,hi,hsz]);have ex:(xs.extract off (off+ks.length)).toList=(xs.toList.drop off).take ks.length:=by
      rw[OW];simp[List.extract]
     exact⟨.agg (xs.extract off (off+ks.length)),by simp[part,isAgg,run_underlying hu,run_sizeOf w hi,hc],hs w em _ (by rw[ex];exact hw)⟩
    cases h
   cases h
  cases h
def Jb (P:Program)(kt:Nat):Option (Bool × List TK):=match P.underlying kt with
 |some .string=>some (false,[.string])
 |some (.int k)=>some (false,[.int k])
 |some .bool=>some (false,[.bool])
 |some (.struct _)=>(flatK P 20 kt).map fun ks=>(true,ks)
 |_=>none
def Wd (P:Program)(T:Nat):Option (Bool × List TK):=if (G4 P T).kind= .map then match P.underlying T with
 |some (.map kt e)=>if (G4 P e).ok=true/\e=(G4 P T).elem then Jb P kt else none
 |_=>none else none
def IG (P:Program)(T:Nat):TI:={ G4 P T with mkey:=Wd P T }
theorem f0 {k:TK}{x y:Value}(h:F2 k x y=some true):y=x:=by
 unfold F2 at h;split at h
 ·split at h
  ·rename_i hc;simp only[Le,beq_iff_eq] at h;rw[h,<-hc.1,<-hc.2]
  cases h
 ·rename_i a b;simp only[Le] at h;rw[(MapKept.bytes_beq a b).1 h]
 ·simp only[Le,beq_iff_eq] at h;rw[h]
 cases h
theorem f9:∀ {ks:List TK} {xs ys:List Value},Dy ks xs ys=some true->ys=xs
 |[],[],[],_=>rfl
 |[],[],_::_,h=>by simp[Dy] at h
 |[],_::_,_,h=>by simp[Dy] at h
 |_::_,[],_,h=>by simp[Dy] at h
 |_::_,_::_,[],h=>by simp[Dy] at h
 |k::ks,x::xs,y::ys,h=>by
  simp only[Dy] at h;split at h
  ·rename_i b c h1 h2;simp only[Le,Li] at h;obtain⟨rfl,rfl⟩:=h;rw[f0 h1,f9 h2]
  cases h
theorem gA {k:TK}{x:Value}(h:Pf k x=true)(n:Nat):Instr.sameBits n x x=true:=by
 unfold Pf at h;split at h
 ·simp[Instr.sameBits]
 ·simp[Instr.sameBits,MapKept.bytes_beq]
 ·simp[Instr.sameBits]
 cases h
theorem gB (n:Nat):∀ {ks:List TK} {xs:List Value},Fi ks xs=true->((xs.zip xs).all fun(x,y)=>Instr.sameBits n x y)=true
 |[],[],_=>rfl
 |[],_::_,h=>by simp[Fi] at h
 |_::_,[],h=>by simp[Fi] at h
 |k::ks,x::xs,h=>by
  simp only[Fi,Li] at h;simp[gA h.1 n];simpa using gB n h.2
theorem qM {P:Program}{kt:Nat}{d:TypeDesc}{k:TK}{x:Value}(hu:P.underlying kt=some d)(hd:∀y b,F2 k x y=some b->Instr.sameNow d x y=some b)(ens:List MapEntry)(r:Option Nat)(h:I9 (false,[k]) x (ens.map (·.key))=some r)(w:World):
  (Instr.findKey kt x ens).run P w= .ok (r.bind fun i=>(ens[i]?).map fun e=>(i,e.val)) w:=by
 refine MapKept.run_findKey hu ?_
 have:∀(ens:List MapEntry) (r:Option Nat) (j:Nat),I9 (false,[k]) x (ens.map (·.key))=some r->Instr.findNow d x ens j=some (r.bind fun i=>(ens[i]?).map fun e=>(j+i,e.val)):=by
  intro ens;induction ens with
  |nil=>intro r j h;cases h;rfl
  |cons e es ih=>
   intro r j h;rw[Lk] at h;unfold I9 at h;split at h
   ·rename_i hk;cases h;simp[Instr.findNow,hd _ _ hk]
   ·rename_i hk;simp only[Instr.findNow,hd _ _ hk];split at h
    ·rename_i i hr;cases h;rw[ih _ (j+1) hr];simp only[NR,BA];congr 2;funext e;rw[O8,Nu]
    rename_i o hn;rw[ih _ (j+1) h];cases r with |none=>rfl |some i=>exact absurd h (hn i)
   cases h
 simpa using this ens r 0 h
theorem qN {P:Program}{kt:Nat}{fs:Array Field}{ks:List TK}{xs:Array Value}(hu:P.underlying kt=some (.struct fs))(hE:∀ys b,Dy ks xs.toList ys=some b->∀w,(Op.equal kt (.agg xs) (.agg ys.toArray)).run P w= .ok b w)(ens:List MapEntry)(r:Option Nat)(h:I9 (true,ks) (.agg xs) (ens.map (·.key))=some r)(w:World):
  (Instr.findKey kt (.agg xs) ens).run P w= .ok (r.bind fun i=>(ens[i]?).map fun e=>(i,e.val)) w:=by
 rw[run_findKey_eq (P:=P) w (by simp[hu])]
 have:∀(ens:List MapEntry) (r:Option Nat) (j:Nat),I9 (true,ks) (.agg xs) (ens.map (·.key))=some r->(Instr.findAsking kt (.agg xs) ens j).run P w= .ok (r.bind fun i=>(ens[i]?).map fun e=>(j+i,e.val)) w:=by
  intro ens;induction ens with
  |nil=>intro r j h;cases h;simp[Instr.findAsking]
  |cons e es ih=>
   intro r j h;rw[Lk] at h;have hk':∀b,JQ (true,ks) (.agg xs) e.key=some b->(Op.equal kt (.agg xs) e.key).run P w= .ok b w:=by
    intro b hb;cases hkey:e.key with |agg ys=>rw[hkey] at hb;exact hE ys.toList b hb w |_=>rw[hkey] at hb;cases hb
   unfold I9 at h;split at h
   ·rename_i hk;cases h;simp[Instr.findAsking,hk' _ hk]
   ·rename_i hk;simp only[Instr.findAsking,Sem.run_bind,hk' _ hk,Result.andThen_ok,Nl,if_false];split at h
    ·rename_i i hr;cases h;rw[ih _ (j+1) hr];simp only[NR,BA];congr 2;funext e;rw[O8,Nu]
    rename_i o hn;rw[ih _ (j+1) h];cases r with |none=>rfl |some i=>exact absurd h (hn i)
   cases h
 simpa using this ens r 0 h
theorem qO {P:Program}{kt:Nat}{q:Bool × List TK}(h:Jb P kt=some q)(x:Value)(hw:F3 q x=true):(∀w e,(Instr.checkKey e 10000 kt x).run P w= .ok () w)/\
  (∀y,JQ q x y=some true->y=x/\Instr.sameBits 10000 x x=true)/\∀(ens:List MapEntry) (r:Option Nat),I9 q x (ens.map (·.key))=some r->∀w,(Instr.findKey kt x ens).run P w= .ok (r.bind fun i=>(ens[i]?).map fun e=>(i,e.val)) w:=by
 have plain:∀(d:TypeDesc) (k:TK),P.underlying kt=some d->((d= .string/\k= .string)\/(d= .bool/\k= .bool)\/∃i,d= .int i/\k= .int i)->Pf k x=true->(∀w e,(Instr.checkKey e 10000 kt x).run P w= .ok () w)/\
  (∀y,JQ (false,[k]) x y=some true->y=x/\Instr.sameBits 10000 x x=true)/\∀(ens:List MapEntry) (r:Option Nat),I9 (false,[k]) x (ens.map (·.key))=some r->∀w,(Instr.findKey kt x ens).run P w= .ok (r.bind fun i=>(ens[i]?).map fun e=>(i,e.val)) w:=by
  intro d k hu hdk hw;refine⟨fun w e=> ?_,fun y hy=>⟨f0 hy,gA hw _⟩,fun ens r hr w=>qM hu (fun y b hy=> ?_) ens r hr w⟩
  ·have:∀n,(Instr.checkKey e (n+1) kt x).run P w= .ok () w:=fun n=>by
    rcases hdk with⟨rfl,_⟩ |⟨rfl,_⟩ |⟨i,rfl,_⟩<;>simp[Instr.checkKey,run_underlying hu]
   exact this 9999
  rcases hdk with⟨rfl,rfl⟩ |⟨rfl,rfl⟩ |⟨i,rfl,rfl⟩<;>(unfold F2 at hy;split at hy<;>simp_all [Instr.sameNow]<;>(obtain⟨⟨h1,h2⟩,h3⟩:=hy;subst h1;subst h2;simp))
 unfold Jb at h;split at h
 ·rename_i hu;cases h;exact plain _ _ hu (.inl ⟨rfl,rfl⟩) hw
 ·rename_i k hu;cases h;exact plain _ _ hu (.inr (.inr ⟨k,rfl,rfl⟩)) hw
 ·rename_i hu;cases h;exact plain _ _ hu (.inr (.inl ⟨rfl,rfl⟩)) hw
 ·rename_i fs hu;obtain⟨ks,h1,rfl⟩:=La.1 h;cases x with
  |agg xs=>
   have hc:=(fy 9980 20 kt ks h1).2 ⟨fs,hu⟩;have he:=(Wb 9980 20 kt ks h1).2 ⟨fs,hu⟩;refine⟨fun w e=>hc w e xs hw,fun y hy=> ?_,fun ens r hr w=>qN hu (fun ys b hb w=>he w xs ys.toArray b (by simpa using hb)) ens r hr w⟩;cases y with
   |agg ys=>
    have:=f9 hy;have e:ys=xs:=(by apply Iq;exact this);subst e;refine⟨rfl,?_⟩;have hb:=gB 9999 hw;show(ys.size==ys.size&&(ys.toList.zip ys.toList).all fun(x,y)=>Instr.sameBits 9999 x y)=true;rw[Li];exact⟨by simp,hb⟩
   |_=>cases hy
  |_=>cases hw
 cases h
theorem gC (P:Program):AU P (IG P) where
 dflt T h:=by
  have h1:G4 P T={}:=(Tx P).dflt T h;unfold IG Wd;rw[h1];rfl
 info T h:=(Tx P).info T h
 kind T h:=(Tx P).kind T h
 flat T ks h:=(Tx P).flat T ks h
 guard T ks h:=(Tx P).guard T ks h
 mkey T q h:=by
  have h:Wd P T=some q:=h;unfold Wd at h;split at h
  ·split at h
   ·rename_i kt e hu;split at h
    ·rename_i hc;refine⟨kt,?_,?_,fun x hx=>qO h x hx⟩
     ·rw[hu,hc.2];rfl
     show(G4 P (G4 P T).elem).ok=true;rw[<-hc.2];exact hc.1
    cases h
   cases h
  cases h
end
section
theorem KP (fr:Fr):∀t,AQ t= .un\/AQ t=fr t:=fun _=>.inl rfl
theorem Cv {k:Nat}{x:AV}{fr' fr:Fr}(h:fr k=x)(hw:∀t,fr' t= .un\/fr' t=fr t):∀t,upd k x fr' t= .un\/upd k x fr' t=fr t:=fun t=>by
 unfold upd;split
 ·rename_i e;subst e;exact .inr h.symm
 exact hw t
theorem C7 {fr fr':Fr}(h:∀t,fr' t= .un\/fr' t=fr t:=by repeat first |exact KP _ |refine Cv rfl ?_):∀t,fr' t= .un\/fr' t=fr t:=h
theorem Mi (hp:Hp):∀i,AS i=none\/AS i=hp i:=fun _=>.inl rfl
theorem We {k:Nat}{x:Option AO}{hp' hp:Hp}(h:hp k=x)(hw:∀t,hp' t=none\/hp' t=hp t):∀t,upd k x hp' t=none\/upd k x hp' t=hp t:=fun t=>by
 unfold upd;split
 ·rename_i e;subst e;exact .inr h.symm
 exact hw t
theorem gD (hp:Hp):∀i,hp i=none\/hp i=hp i:=fun _=>.inr rfl
end
section
attribute [go_sem] LO Option.map_none LC and_self and_true true_and TI.agg
end
section
theorem Jc {tab:Nat->TI}{rs:Array ResultVar}{R:AV->Hp->Nat->Prop}{s:St}{v:AV}(h1:Dw tab rs s=some v)(h2:R v s.hp s.nx):Cu tab rs R .ret s:=⟨v,s.hp,h1,⟨fun _=>.inr rfl⟩,h2⟩
theorem HT {tab:Nat->TI}{rs:Array ResultVar}{d d':D}{fr b:Bool}{is:List Nat}{s:St}{v:AV}(h1:Dw tab rs s=some v)(h2:toR s.hp v=some (d',b,is))(h3:d'=d)(h4:fr=true->b=false):Cu tab rs (D9 d fr) .ret s:=
 Jc h1 ⟨b,is,by rw[h2,h3],h4⟩
end
section
attribute [go_sem] List.getD_cons_zero List.getD_cons_succ LV BA List.getElem?_nil Oj ON O2 Nt Oo O9 sub Ct KL NC NS
end
section
attribute [go_sem] Dw Kt Md Nl
end
section
@[go_sem] theorem Ty {P:Program}{tab:Nat->TI}{Q:Ex->St->Prop}{e:Ex}{s:St}:Cc P tab [] Q e s=Q e s:=rfl
attribute [go_sem] Nat.mul_one
end
section
open Go.RowKit
def Fk (ops:Array Oper)(j:Nat):Option Nat:=(ops[j]?).bind (·.dst)
def P8 (o:Option Nat)(f:Nat->Prop)(g:Prop):Prop:=match o with
 |some d=>f d
 |none=>g
section
variable {P:Program}{tab:Nat->TI}{ops:Array Oper}{nx0 nx i j:Nat}{k:List It}{Q:Ex->St->Prop}{r:List Oper}{s:St}{dst:Option Nat}{acc:List Cd}{fr:Fr}{hp:Hp}{op:Op}{T:TypeId}{pos:String}{after:Array Edge}{t:Bool}
theorem Zc:Rt P tab ops nx0 k Q i (⟨dst,op,T,pos,after,some (j,t)⟩::r) s=P8 (Fk ops j) (fun d=>Ta P tab ops nx0 k Q i r dst s op t (s.fr d)) (Rt P tab ops nx0 k Q (i+1) r ⟨A7 dst (.tu []) s.fr,s.hp,s.nx⟩):=by
 cases hd:Fk ops j with
 |some d=>exact pj hd
 |none=>
  have e:(ops[j]?).bind (·.dst)=none:=hd
  conv=>lhs;unfold Rt WT Fx
  simp only[e];rfl
theorem Zd:Rd P tab ops nx0 nx k Q i (⟨dst,op,T,pos,after,some (j,t)⟩::r) acc fr hp=P8 (Fk ops j) (fun d=>JZ P tab ops nx0 nx k Q i r dst acc fr hp op t (fr d)) (Rd P tab ops nx0 nx k Q (i+1) r (⟨[],[],false⟩::acc) (A7 dst (.tu []) fr) hp):=by
 cases hd:Fk ops j with
 |some d=>exact pk hd
 |none=>
  have e:(ops[j]?).bind (·.dst)=none:=hd
  conv=>lhs;unfold Rd WD Fx
  simp only[e];rfl
end
@[go_sem] theorem SF (d:Nat)(f:Nat->Prop)(g:Prop):P8 (some d) f g=f d:=rfl
attribute [go_sem] Fk Np NR
end
section
@[go_sem] theorem Wf (n:Nat):ED n []=true:=rfl
@[go_sem] theorem Tz (n:Nat)(c:List D)(r:List (List D)):ED n (c::r)=((c.length==n)&&ED n r):=rfl
@[go_sem] theorem Wg (hp:Hp):frz hp []= []:=rfl
@[go_sem] theorem xY:JN []=true:=rfl
attribute [go_sem] List.range_zero OE GO Na Lf LM
end
section
section
variable (tab:Nat->TI)(hp:Hp)(op:BinOp)(T:Nat)
@[go_sem] theorem Ze (a:Value)(y:AV):FJ tab hp op T (.v a) y=Ma tab op T (.v a) y:=rfl
@[go_sem] theorem Zg (a:D)(b:Bool)(y:AV):FJ tab hp op T (.d a b) y=Ma tab op T (.d a b) y:=rfl
@[go_sem] theorem Wh (a:List AV)(y:AV):FJ tab hp op T (.ag a) y=Ma tab op T (.ag a) y:=rfl
@[go_sem] theorem Wi (i o:Nat)(y:AV):FJ tab hp op T (.pt i o) y=Ma tab op T (.pt i o) y:=rfl
@[go_sem] theorem T3 (k k':IntKind)(a b:Int):H9 tab T op (.int k a) (.int k' b)=F1 op (.int k a) (.int k' b):=rfl
@[go_sem] theorem T4 (a b:ByteArray):H9 tab T op (.string a) (.string b)=F1 op (.string a) (.string b):=rfl
@[go_sem] theorem Wj:H9 tab T op (.slice none 0 0) (.slice none 0 0)=if (tab T).kind= .slice then match op with | .eql=>some (.bool true) | .neq=>some (.bool false) |_=>none else none:=rfl
@[go_sem] theorem Wk:H9 tab T op (.pointer none) (.pointer none)=if (tab T).kind= .ptr then match op with | .eql=>some (.bool true) | .neq=>some (.bool false) |_=>none else none:=rfl
end
attribute [go_sem] RZ V2 Kn EQ IA Fh HN Ia Nw
end
section
section
variable (ρ:Operand->AV)
@[go_sem] theorem Zh (x:Value):Au (.v x)= []:=rfl
@[go_sem] theorem Zj (x:D)(b:Bool):Au (.d x b)= []:=rfl
@[go_sem] theorem Wl (x:List AV):Au (.ag x)=Ax x:=rfl
@[go_sem] theorem Wm (i o:Nat):Au (.pt i o)= [i]:=rfl
@[go_sem] theorem Wn (i v k o:Nat):Au (.pr i v k o)= [i]:=rfl
@[go_sem] theorem Wo (i v k o:Nat):Au (.so i v k o)= [i]:=rfl
@[go_sem] theorem Wp (i:Nat):Au (.mo i)= [i]:=rfl
@[go_sem] theorem Wq (f:FuncId)(x:List AV):Au (.fn f x)=Ax x:=rfl
@[go_sem] theorem T5:Ax []= []:=rfl
@[go_sem] theorem SG (x:AV)(r:List AV):Ax (x::r)=Au x++Ax r:=rfl
@[go_sem] theorem xZ (x:Operand):CX ρ (.move x)= []:=rfl
@[go_sem] theorem xa (x:Operand):CX ρ (.assign x)= []:=rfl
@[go_sem] theorem xb (x y z:Operand):CX ρ (.pick x y z)= []:=rfl
@[go_sem] theorem xc (T:TypeId):CX ρ (.alloc T)= []:=rfl
@[go_sem] theorem SH (T:TypeId)(x:Operand):CX ρ (.box T x)= []:=rfl
@[go_sem] theorem xd (T:TypeId)(ps:Array (Nat × Operand)):CX ρ (.build T ps)= []:=rfl
@[go_sem] theorem SI (x:Operand):CX ρ (.nilCheck x)= []:=rfl
@[go_sem] theorem T6 (o:UnOp)(T:TypeId)(x:Operand):CX ρ (.unOp o T x)= []:=rfl
@[go_sem] theorem T7 (T:TypeId)(x:Operand)(f:Nat):CX ρ (.fieldAddr T x f)= []:=rfl
@[go_sem] theorem SJ (x:Operand)(f:Nat):CX ρ (.extract x f)= []:=rfl
@[go_sem] theorem xe (T:TypeId)(x:Operand):CX ρ (.load T x)=Au (ρ x):=by simp[CX,F5,Op.operands,Ax]
@[go_sem] theorem xg (T:TypeId)(x y:Operand):CX ρ (.store T x y)=Au (ρ x)++Au (ρ y):=by simp[CX,F5,Op.operands,Ax]
@[go_sem] theorem SK (o:BinOp)(T S:TypeId)(x y:Operand):CX ρ (.binOp o T x y S)=Au (ρ x)++Au (ρ y):=by simp[CX,F5,Op.operands,Ax]
@[go_sem] theorem T8 (T:TypeId)(x y:Operand):CX ρ (.indexAddr T x y)=Au (ρ x)++Au (ρ y):=by simp[CX,F5,Op.operands,Ax]
@[go_sem] theorem T9 (T:TypeId)(x y:Operand)(b:Bool):CX ρ (.lookup T x y b)=Au (ρ x)++Au (ρ y):=by simp[CX,F5,Op.operands,Ax]
@[go_sem] theorem UA (T:TypeId)(x:Operand)(l h:Option Operand):CX ρ (.slice T x l h none)=Au (ρ x)++(Ax ((l.toList).map ρ)++Ax ((h.toList).map ρ)):=by
 cases l<;>cases h<;>simp[CX,F5,Op.operands,Ax]
@[go_sem] theorem UB (T:TypeId)(n:Nat)(ps:Array (Nat × Operand)):CX ρ (.buildSlice T n ps)=Ax (ps.toList.map fun p=>ρ p.2):=by simp[CX,F5,Op.operands,NM]
@[go_sem] theorem UC (b:Builtin)(xs:Array Operand)(ts:Array TypeId):CX ρ (.call { callee:=.builtin b,args:=xs,argTypes:=ts })=Ax (xs.toList.map ρ):=by simp[CX,F5,Op.operands,Call.operands]
@[go_sem] theorem xh (f:Operand)(xs:Array Operand)(ts:Array TypeId):CX ρ (.call { callee:=.value f,args:=xs,argTypes:=ts })=Au (ρ f)++Ax (xs.toList.map ρ):=by simp[CX,F5,Op.operands,Call.operands,Ax]
end
attribute [go_sem] On Option.toList_none
section
variable {P:Program}{tab:Nat->TI}{ops:Array Oper}{nx0 nx i:Nat}{k:List It}{Q:Ex->St->Prop}{acc:List Cd}{fr:Fr}{hp:Hp}
theorem DR (h1:Px ops acc.reverse=true)(h2:run P tab k Q ⟨fr,hp,nx⟩):Rd P tab ops nx0 nx k Q i [] acc fr hp:=⟨TZ h1,h2⟩
end
end
section
section
variable {P:Program}{tab:Nat->TI}{ops:Array Oper}{nx0 nx i j:Nat}{k:List It}{Q:Ex->St->Prop}{r:List Oper}{s:St}{dst:Option Nat}{acc:List Cd}{fr:Fr}{hp:Hp}{op:Op}{T:TypeId}{pos:String}{after:Array Edge}{t:Bool}
theorem SL (h:(Fk ops j).isSome=true):Fk ops j=some ((Fk ops j).getD 0):=by
 cases e:Fk ops j with
 |none=>rw[e] at h;cases h
 |some d=>rfl
@[go_sem] theorem gE (h1:(Fk ops j).isSome=true)(h2:s.fr ((Fk ops j).getD 0)= .v (.bool t)):Rt P tab ops nx0 k Q i (⟨dst,op,T,pos,after,some (j,t)⟩::r) s=C3 P tab ops nx0 k Q i r dst s op:=by
 rw[Zc,SL h1,SF,h2];simp[Ta]
@[go_sem] theorem gF (h1:(Fk ops j).isSome=true)(h2:s.fr ((Fk ops j).getD 0)= .v (.bool !t)):Rt P tab ops nx0 k Q i (⟨dst,op,T,pos,after,some (j,t)⟩::r) s=Rt P tab ops nx0 k Q (i+1) r ⟨A7 dst (.tu []) s.fr,s.hp,s.nx⟩:=by
 rw[Zc,SL h1,SF,h2];simp[Ta]
@[go_sem] theorem gG (h1:(Fk ops j).isSome=true)(h2:s.fr ((Fk ops j).getD 0)= .tu []):Rt P tab ops nx0 k Q i (⟨dst,op,T,pos,after,some (j,t)⟩::r) s=Rt P tab ops nx0 k Q (i+1) r ⟨A7 dst (.tu []) s.fr,s.hp,s.nx⟩:=by
 rw[Zc,SL h1,SF,h2];rfl
@[go_sem] theorem gH (h1:(Fk ops j).isSome=true)(h2:fr ((Fk ops j).getD 0)= .v (.bool t)):Rd P tab ops nx0 nx k Q i (⟨dst,op,T,pos,after,some (j,t)⟩::r) acc fr hp=En P tab ops nx0 nx k Q i r dst acc fr hp op:=by
 rw[Zd,SL h1,SF,h2];simp[JZ]
@[go_sem] theorem gI (h1:(Fk ops j).isSome=true)(h2:fr ((Fk ops j).getD 0)= .v (.bool !t)):Rd P tab ops nx0 nx k Q i (⟨dst,op,T,pos,after,some (j,t)⟩::r) acc fr hp=Rd P tab ops nx0 nx k Q (i+1) r (⟨[],[],false⟩::acc) (A7 dst (.tu []) fr) hp:=by
 rw[Zd,SL h1,SF,h2];simp[JZ]
@[go_sem] theorem gJ (h1:(Fk ops j).isSome=true)(h2:fr ((Fk ops j).getD 0)= .tu []):Rd P tab ops nx0 nx k Q i (⟨dst,op,T,pos,after,some (j,t)⟩::r) acc fr hp=Rd P tab ops nx0 nx k Q (i+1) r (⟨[],[],false⟩::acc) (A7 dst (.tu []) fr) hp:=by
 rw[Zd,SL h1,SF,h2];rfl
end
end
section
attribute [go_sem] Tb
end
end Go.Proofs.YtnmkbmefohakmaaGreat.Ab
