/-
 The walk of the machine, step by step.
-/
import Derived.DeepKeys
import Derived.WideKeyRuns
import Derived.Test.YtnmkbmefohakmaaGreatAbF
namespace Go.Proofs.YtnmkbmefohakmaaGreat.Ab
section
open Go.RowKit
def sQ_ (ops:Array Oper):Bool:=early ops&&(List.range ops.size).all fun j=>(List.range j).all fun i=>
 ((gO_ ops).getD j []).contains i||(match ops[i]?,ops[j]? with |some a,some b=> !zy_ ops a b |_,_=>true)
def hR_ (a:Rec):Bool:=a.ks.isEmpty&& !a.g
def hS_ (ps:List Nat)(b:Rec):Nat->List Rec->Bool
 |_,[]=>true
 |i,a::r=>(ps.contains i||(hR_ a&&hR_ b)|| !zj_ a b)&&hS_ ps b (i+1) r
def u6_ (rs:List Rec):List (List Nat)->Nat->List Rec->Bool
 |_,_,[]=>true
 |[],j,b::r=>hS_ [] b 0 (rs.take j)&&u6_ rs [] (j+1) r
 |p::ps,j,b::r=>hS_ p b 0 (rs.take j)&&u6_ rs ps (j+1) r
def yM_ (ops:Array Oper)(rs:List Rec):Bool:=sQ_ ops&&(rs.all hR_||u6_ rs (gO_ ops) 0 rs)
theorem yN_ {a b:Rec}(h:(hR_ a&&hR_ b)=true):zj_ a b=false:=by
 simp only[hR_,Bool.and_eq_true,List.isEmpty_iff,Bool.not_eq_true'] at h;obtain⟨⟨h1,h2⟩,h3,h4⟩:=h;simp[zj_,zZ_,wild,h1,h2,h3,h4,meet]
theorem fV_ {ps:List Nat}{b:Rec}:∀ {l:List Rec} {n:Nat},hS_ ps b n l=true->∀(i:Nat) (a:Rec),l[i]? =some a->zj_ a b=false\/(n+i)∈ps
 |[],n,h,i,a,e=>by simp at e
 |c::r,n,h,i,a,e=>by
  simp only[hS_,Bool.and_eq_true,Bool.or_eq_true,Bool.not_eq_true'] at h;cases i with
  |zero=>
   grind [List.getElem?_cons_zero,Option.some.injEq,yN_]
  |succ i=>
   have:=fV_ h.2 i a (by simpa using e)
   grind
theorem yO_ {rs:List Rec}:∀ {l:List Rec} {ps:List (List Nat)} {n:Nat},u6_ rs ps n l=true->∀(j:Nat) (b:Rec),l[j]? =some b->hS_ (ps.getD j []) b 0 (rs.take (n+j))=true
 |[],ps,n,h,j,b,e=>by simp at e
 |c::r,[],n,h,j,b,e=>by
  simp only[u6_,Bool.and_eq_true] at h;cases j with
  |zero=>grind
  |succ j=>
   have:=yO_ h.2 j b (by simpa using e)
   grind
 |c::r,p::ps,n,h,j,b,e=>by
  simp only[u6_,Bool.and_eq_true] at h;cases j with
  |zero=>grind
  |succ j=>
   have:=yO_ h.2 j b (by simpa using e)
   grind
theorem wM_ {ops:Array Oper}{rs:List Rec}(h:yM_ ops rs=true):wq_ ops rs=true:=by
 simp only[yM_,sQ_,Bool.and_eq_true,Bool.or_eq_true] at h;obtain⟨⟨h1,h2⟩,h3⟩:=h;simp only[wq_,Bool.and_eq_true];refine⟨h1,?_⟩;unfold ko_;refine List.all_eq_true.2 fun j hj=>List.all_eq_true.2 fun i hi=> ?_;have h4:=List.all_eq_true.1 (List.all_eq_true.1 h2 j hj) i hi;rw[Bool.or_eq_true] at h4⊢;rcases h4 with h4 |h4
 ·exact .inl h4
 ·cases ha:rs[i]? with
  |none=>grind
  |some a=>
   cases hb:rs[j]? with
   |none=>grind
   |some b=>
    have hij:=List.mem_range.1 hi;rcases h3 with h3 |h3
    ·have e1:=List.all_eq_true.1 h3 a (List.mem_of_getElem? ha)
     have e2:=List.all_eq_true.1 h3 b (List.mem_of_getElem? hb);exact .inr (Bool.and_eq_true _ _▸⟨h4,by simp[yN_ (a:=a) (b:=b) (by rw[e1,e2];rfl)]⟩)
    rcases fV_ (yO_ h3 j b hb) i a (by grind) with h5 |h5
    ·grind
    grind
inductive It where
 |c (x:Code)
 |blk (n:Nat)
 |lp (X:St->Prop)
section
variable (P:Program)(tab:Nat->TI)
def WT (ops:Array Oper)(nx0:Nat)(K:St->Prop):Nat->List Oper->St->Prop
 |_,[],s=>K s
 |i,o::r,s=>xC_ ops o s (kT_ P tab o.op (nx0+i) s fun v hp nx=>WT ops nx0 K (i+1) r ⟨putS o.dst v s.fr,hp,nx⟩) (WT ops nx0 K (i+1) r ⟨putS o.dst (.tu []) s.fr,s.hp,s.nx⟩)
def W2:Code->(Ex->St->Prop)->St->Prop
 | .skip,Q,s=>Q .normal s
 | .label _,Q,s=>Q .normal s
 | .ret,Q,s=>Q .ret s
 | .exit n,Q,s=>Q (.exit n) s
 | .seq a b,Q,s=>W2 a (fun e s'=>match e with | .normal=>W2 b Q s' |e=>Q e s') s
 | .cond c a b,Q,s=>match ev s.fr c with
  | .v (.bool t)=>(t=true->W2 a Q s)/\(t=false->W2 b Q s)
  |_=>False
 | .block n a,Q,s=>W2 a (fun e s'=>match e with | .exit m=>if m=n then Q .normal s' else Q (.exit m) s' |e=>Q e s') s
 | .region _ ops draw,Q,s=>match draw with
  |false=>WT P tab ops s.nx (Q .normal) 0 ops.toList ⟨s.fr,s.hp,s.nx+ops.size⟩
  |true=>WD P tab ops s.nx (Q .normal) (s.nx+ops.size) 0 ops.toList [] s.fr s.hp
 | .loop a,Q,s=>∀X:St->Prop,(∀s0,W2 a (fun e s'=>match e with | .normal=>X s' |e=>Q e s') s0->X s0)->(∀s1 s2,WeakR s.nx s1 s2->X s1->X s2)->X s
 |_,_,_=>False
end
section
variable {P:Program}{tab:Nat->TI}
theorem WT_WL {ops:Array Oper}{nx0:Nat}{K:St->Prop}:∀(r:List Oper) (i:Nat) (s:St),(∀k,r[k]? =ops[i+k]?)->WT P tab ops nx0 K i r s->WL P tab ops nx0 K (List.range' i r.length) s
 |[],i,s,_,h=>h
 |o::r,i,s,hr,h=>by
  have h0:ops[i]? =some o:=by simpa using(hr 0).symm
  have hr':∀k,r[k]? =ops[i+1+k]? :=fun k=>by have:=hr (k+1);grind
  rw[List.length_cons,List.range'_succ];unfold WL;rw[h0];exact vd_ h (fun h=>kk_ h fun _ _ _ h=>WT_WL r (i+1) _ hr' h) fun h=>WT_WL r (i+1) _ hr' h
theorem kp_ {ops:Array Oper}{nx0:Nat}{K K':St->Prop}(hK:∀s,K s->K' s):∀(r:List Oper) (nx i:Nat) (acc:List Rec) (fr:Fr) (hp:Hp),WD P tab ops nx0 K nx i r acc fr hp->WD P tab ops nx0 K' nx i r acc fr hp
 |[],nx,i,acc,fr,hp,h=>⟨h.1,hK _ h.2⟩
 |o::r,nx,i,acc,fr,hp,h=>by
  unfold WD at *;refine vd_ h (fun h=> ?_) fun h=>kp_ hK r _ _ _ _ _ h;unfold execD at *;split at h
  ·split at h
   ·rcases h with⟨ds,b,is,d,fr',h1,h2,h3,h4⟩ |⟨ids,v,δ,nx',h1,h2⟩
    ·exact .inl ⟨ds,b,is,d,fr',h1,h2,h3,kp_ hK r _ _ _ _ _ h4⟩
    ·exact .inr ⟨ids,v,δ,nx',h1,kp_ hK r _ _ _ _ _ h2⟩
   ·exact h.elim
  ·split at h
   ·exact kp_ hK r _ _ _ _ _ h
   ·exact h.elim
theorem nb_ (x:Operand)(y z:Code)(Q:Ex->St->Prop)(s:St):W2 P tab (.cond x y z) Q s=(match ev s.fr x with
  | .v (.bool t)=>(t=true->W2 P tab y Q s)/\(t=false->W2 P tab z Q s)
  |_=>False):=rfl
theorem W2_W:∀(code:Code) (Q Q':Ex->St->Prop) (s:St),(∀e s,Q e s->Q' e s)->W2 P tab code Q s->W P tab code Q' s:=by
 intro code;induction code with
 |region id ops draw=>
  intro Q Q' s hq h;cases draw with
  |false=>
   have:=WT_WL ops.toList 0 _ (by simp) (show WT P tab ops s.nx (Q .normal) 0 ops.toList ⟨s.fr,s.hp,s.nx+ops.size⟩ from h)
   rw[Array.length_toList,<-List.range_eq_range'] at this;exact gN_ (fun s h=>hq _ s h) _ _ this
  |true=>exact W_draw (id:=id) (Q:=Q') (kp_ (fun s h=>hq _ s h) _ _ _ _ _ _ h)
 |seq x y ihx ihy=>
  intro Q Q' s hq h;refine ihx _ _ s (fun e s h=> ?_) h;grind
 |cond x y z ihy ihz=>
  grind [nb_,W_cond]
 |block n x ih=>
  intro Q Q' s hq h;refine ih _ _ s (fun e s h=> ?_) h;grind
 |loop x ih=>
  intro Q Q' s hq h X h1 h2;refine h X (fun s h=>h1 s (ih _ _ s (fun e s h=> ?_) h)) h2;grind
 |skip=>exact fun Q Q' s hq h=>hq _ s h
 |label l=>exact fun Q Q' s hq h=>hq _ s h
 |ret=>exact fun Q Q' s hq h=>hq _ s h
 |exit n=>exact fun Q Q' s hq h=>hq _ s h
 |_=>exact fun Q Q' s hq h=>h.elim
theorem tD_:∀(code:Code) (Q Q':Ex->St->Prop) (s:St),(∀e s,Q e s->Q' e s)->W2 P tab code Q s->W2 P tab code Q' s:=by
 intro code;induction code with
 |region id ops draw=>
  intro Q Q' s hq h;cases draw with
  |false=>
   have:∀(r:List Oper) (i:Nat) (s0:St),WT P tab ops s.nx (Q .normal) i r s0->WT P tab ops s.nx (Q' .normal) i r s0:=by
    intro r;induction r with
    |nil=>exact fun i s0 h=>hq _ s0 h
    |cons o r ih=>exact fun i s0 h=>vd_ h (fun h=>kk_ h fun _ _ _ h=>ih _ _ h) fun h=>ih _ _ h
   exact this _ _ _ h
  |true=>exact kp_ (fun s h=>hq _ s h) _ _ _ _ _ _ h
 |seq x y ihx ihy=>
  intro Q Q' s hq h;refine ihx _ _ s (fun e s h=> ?_) h;grind
 |cond x y z ihy ihz=>
  grind [nb_]
 |block n x ih=>
  intro Q Q' s hq h;refine ih _ _ s (fun e s h=> ?_) h;grind
 |loop x ih=>
  intro Q Q' s hq h X h1 h2;refine h X (fun s h=>h1 s (ih _ _ s (fun e s h=> ?_) h)) h2;grind
 |skip=>exact fun Q Q' s hq h=>hq _ s h
 |label l=>exact fun Q Q' s hq h=>hq _ s h
 |ret=>exact fun Q Q' s hq h=>hq _ s h
 |exit n=>exact fun Q Q' s hq h=>hq _ s h
 |_=>exact fun Q Q' s hq h=>h.elim
end
section
variable (P:Program)(tab:Nat->TI)
def cont:List It->(Ex->St->Prop)->Ex->St->Prop
 |[],Q,e,s=>Q e s
 | .c x::k,Q,e,s=>match e with
  | .normal=>W2 P tab x (cont k Q) s
  | .ret=>cont k Q .ret s
  | .exit m=>cont k Q (.exit m) s
 | .blk n::k,Q,e,s=>match e with
  | .normal=>cont k Q .normal s
  | .ret=>cont k Q .ret s
  | .exit m=>if m=n then cont k Q .normal s else cont k Q (.exit m) s
 | .lp X::k,Q,e,s=>match e with
  | .normal=>X s
  | .ret=>cont k Q .ret s
  | .exit m=>cont k Q (.exit m) s
def run (k:List It)(Q:Ex->St->Prop)(s:St):Prop:=cont P tab k Q .normal s
def Rt (ops:Array Oper)(nx0:Nat)(k:List It)(Q:Ex->St->Prop)(i:Nat)(r:List Oper)(s:St):Prop:=WT P tab ops nx0 (fun s=>run P tab k Q s) i r s
def Rd (ops:Array Oper)(nx0 nx:Nat)(k:List It)(Q:Ex->St->Prop)(i:Nat)(r:List Oper)(acc:List Rec)(fr:Fr)(hp:Hp):Prop:=WD P tab ops nx0 (fun s=>run P tab k Q s) nx i r acc fr hp
def jZ_ (ops:Array Oper)(nx0:Nat)(k:List It)(Q:Ex->St->Prop)(i:Nat)(r:List Oper)(dst:Option Nat)(s:St)(x:Option (AV × List (Nat × AO))):Prop:=
 match x with
 |some (v,δ)=>Rt P tab ops nx0 k Q i r ⟨putS dst v s.fr,upds δ s.hp,s.nx⟩
 |none=>False
def jk_ (ops:Array Oper)(nx0 nx:Nat)(k:List It)(Q:Ex->St->Prop)(i:Nat)(r:List Oper)(dst:Option Nat)(acc:List Rec)(ids:List Nat)(fr:Fr)(hp:Hp)(x:Option (AV × List (Nat × AO))):Prop:=
 match x with
 |some (v,δ)=>Rd P tab ops nx0 nx k Q i r (⟨ids,δ.map (·.1),false⟩::acc) (putS dst v fr) (upds δ hp)
 |none=>False
def wf_ (ops:Array Oper)(nx0:Nat)(k:List It)(Q:Ex->St->Prop)(i:Nat)(r:List Oper)(dst:Option Nat)(s:St)(f:AV)(vs:List AV):Prop:=
 bK_ P f vs s.hp s.nx fun v hp nx=>Rt P tab ops nx0 k Q i r ⟨putS dst v s.fr,hp,nx⟩
def vz_ (ops:Array Oper)(nx0 nx:Nat)(k:List It)(Q:Ex->St->Prop)(i:Nat)(r:List Oper)(dst:Option Nat)(acc:List Rec)(ids:List Nat)(fr:Fr)(hp:Hp)(f:AV)(vs:List AV):Prop:=
 match f with
 | .fn g caps=>(∃ds b is d fr',toDl hp (vs++caps)=some (ds,b,is)/\PureOK P g ds d fr'/\(is= []\/fr'=true)/\Rd P tab ops nx0 nx k Q i r (⟨ids,[],false⟩::acc) (putS dst (lift (!fr'&&b) d) fr) hp)\/
  ∃ids v δ nx',m4_ P g (vs++caps) hp nx ids v δ nx'/\Rd P tab ops nx0 nx' k Q i r (⟨ids,δ.map (·.1),true⟩::acc) (putS dst v fr) (upds δ hp)
 |_=>False
def onOp (ops:Array Oper)(nx0:Nat)(k:List It)(Q:Ex->St->Prop)(i:Nat)(r:List Oper)(dst:Option Nat)(s:St)(op:Op):Prop:=
 match op with
 | .call { callee:=.value f,args, .. }=>wf_ P tab ops nx0 k Q (i+1) r dst s (ev s.fr f) (args.toList.map (ev s.fr))
 |op=>jZ_ P tab ops nx0 k Q (i+1) r dst s (ql_ tab (ev s.fr) s.hp (nx0+i) op)
def xE_ (ops:Array Oper)(nx0 nx:Nat)(k:List It)(Q:Ex->St->Prop)(i:Nat)(r:List Oper)(dst:Option Nat)(acc:List Rec)(fr:Fr)(hp:Hp)(op:Op):Prop:=
 match op with
 | .call { callee:=.value f,args, .. }=>vz_ P tab ops nx0 nx k Q (i+1) r dst acc (qG_ (ev fr) op) fr hp (ev fr f) (args.toList.map (ev fr))
 |op=>jk_ P tab ops nx0 nx k Q (i+1) r dst acc (qG_ (ev fr) op) fr hp (ql_ tab (ev fr) hp (nx0+i) op)
def onG (ops:Array Oper)(nx0:Nat)(k:List It)(Q:Ex->St->Prop)(i:Nat)(r:List Oper)(dst:Option Nat)(s:St)(op:Op)(t:Bool)(v:AV):Prop:=
 match v with
 | .v (.bool b)=>(b=t->onOp P tab ops nx0 k Q i r dst s op)/\(b= !t->Rt P tab ops nx0 k Q (i+1) r ⟨putS dst (.tu []) s.fr,s.hp,s.nx⟩)
 | .tu []=>Rt P tab ops nx0 k Q (i+1) r ⟨putS dst (.tu []) s.fr,s.hp,s.nx⟩
 |_=>False
def onGD (ops:Array Oper)(nx0 nx:Nat)(k:List It)(Q:Ex->St->Prop)(i:Nat)(r:List Oper)(dst:Option Nat)(acc:List Rec)(fr:Fr)(hp:Hp)(op:Op)(t:Bool)(v:AV):Prop:=
 match v with
 | .v (.bool b)=>(b=t->xE_ P tab ops nx0 nx k Q i r dst acc fr hp op)/\(b= !t->Rd P tab ops nx0 nx k Q (i+1) r (⟨[],[],false⟩::acc) (putS dst (.tu []) fr) hp)
 | .tu []=>Rd P tab ops nx0 nx k Q (i+1) r (⟨[],[],false⟩::acc) (putS dst (.tu []) fr) hp
 |_=>False
def onC (a b:Code)(k:List It)(Q:Ex->St->Prop)(s:St)(v:AV):Prop:=
 match v with
 | .v (.bool t)=>(t=true->run P tab (.c a::k) Q s)/\(t=false->run P tab (.c b::k) Q s)
 |_=>False
end
section
variable {P:Program}{tab:Nat->TI}{ops:Array Oper}{nx0 nx i n m id:Nat}{k:List It}{Q:Ex->St->Prop}{r:List Oper}{s:St}{dst:Option Nat}{acc:List Rec}{fr:Fr}{hp:Hp}{op:Op}{T:TypeId}{pos:String}{after:Array Edge}{a b:Code}{x:Operand}{t:Bool}{ids:List Nat}{v:AV}{δ:List (Nat × AO)}
theorem tE_:run P tab (.c (.seq a b)::k) Q s=run P tab (.c a:: .c b::k) Q s:=by
 have e:(fun e s'=>match e with | .normal=>W2 P tab b (cont P tab k Q) s' |e=>cont P tab k Q e s')=cont P tab (.c b::k) Q:=by
  funext e s';cases e<;>rfl
 show W2 P tab a _ s=W2 P tab a _ s;rw[e]
theorem nc_:run P tab (.c (.block n a)::k) Q s=run P tab (.c a:: .blk n::k) Q s:=by
 have e:(fun e s'=>match e with | .exit m=>if m=n then cont P tab k Q .normal s' else cont P tab k Q (.exit m) s' |e=>cont P tab k Q e s')=cont P tab (.blk n::k) Q:=by
  funext e s';cases e<;>rfl
 show W2 P tab a _ s=W2 P tab a _ s;rw[e]
theorem rv_:run P tab (.c .skip::k) Q s=run P tab k Q s:=rfl
theorem nd_:run P tab (.c (.label n)::k) Q s=run P tab k Q s:=rfl
theorem tF_:run P tab (.blk n::k) Q s=run P tab k Q s:=rfl
theorem tG_:run P tab [] Q s=Q .normal s:=rfl
theorem run_lp {X:St->Prop}:run P tab (.lp X::k) Q s=X s:=rfl
theorem wN_:∀(k:List It),cont P tab k Q .ret s=Q .ret s
 |[]=>rfl
 | .c _::k=>wN_ k
 | .blk _::k=>wN_ k
 | .lp _::k=>wN_ k
theorem tH_:run P tab (.c .ret::k) Q s=Q .ret s:=wN_ k
theorem rw_:run P tab (.c (.exit m)::k) Q s=cont P tab k Q (.exit m) s:=rfl
theorem exit_c:cont P tab (.c a::k) Q (.exit m) s=cont P tab k Q (.exit m) s:=rfl
theorem tI_ {X:St->Prop}:cont P tab (.lp X::k) Q (.exit m) s=cont P tab k Q (.exit m) s:=rfl
theorem rx_:cont P tab (.blk n::k) Q (.exit m) s=if m=n then run P tab k Q s else cont P tab k Q (.exit m) s:=rfl
theorem ry_:run P tab (.c (.cond x a b)::k) Q s=onC P tab a b k Q s (ev s.fr x):=rfl
theorem rz_:onC P tab a b k Q s (.v (.bool true))=run P tab (.c a::k) Q s:=by simp[onC]
theorem ne_:onC P tab a b k Q s (.v (.bool false))=run P tab (.c b::k) Q s:=by simp[onC]
theorem yP_ {c:Bool}(h1:c=true->run P tab (.c a::k) Q s)(h2:c=false->run P tab (.c b::k) Q s):onC P tab a b k Q s (.v (.bool c)):=⟨h1,h2⟩
theorem hT_:run P tab (.c (.region id ops false)::k) Q s=Rt P tab ops s.nx k Q 0 ops.toList ⟨s.fr,s.hp,s.nx+ops.size⟩:=rfl
theorem fb_:run P tab (.c (.region id ops true)::k) Q s=Rd P tab ops s.nx (s.nx+ops.size) k Q 0 ops.toList [] s.fr s.hp:=rfl
theorem Rt_nil:Rt P tab ops nx0 k Q i [] s=run P tab k Q s:=rfl
theorem Rt_op:Rt P tab ops nx0 k Q i (⟨dst,op,T,pos,after,none⟩::r) s=onOp P tab ops nx0 k Q i r dst s op:=by
 rfl
theorem Rd_op:Rd P tab ops nx0 nx k Q i (⟨dst,op,T,pos,after,none⟩::r) acc fr hp=xE_ P tab ops nx0 nx k Q i r dst acc fr hp op:=by
 rfl
theorem nf_ {f:Operand}{args:Array Operand}{ty:Array TypeId}:onOp P tab ops nx0 k Q i r dst s (.call { callee:=.value f,args:=args,argTypes:=ty })=wf_ P tab ops nx0 k Q (i+1) r dst s (ev s.fr f) (args.toList.map (ev s.fr)):=rfl
theorem hU_ {f:Operand}{args:Array Operand}{ty:Array TypeId}:xE_ P tab ops nx0 nx k Q i r dst acc fr hp (.call { callee:=.value f,args:=args,argTypes:=ty })=vz_ P tab ops nx0 nx k Q (i+1) r dst acc (qG_ (ev fr) (.call { callee:=.value f,args:=args,argTypes:=ty })) fr hp (ev fr f) (args.toList.map (ev fr)):=rfl
theorem fc_:jZ_ P tab ops nx0 k Q i r dst s (some (v,δ))=Rt P tab ops nx0 k Q i r ⟨putS dst v s.fr,upds δ s.hp,s.nx⟩:=rfl
theorem bT_:jk_ P tab ops nx0 nx k Q i r dst acc ids fr hp (some (v,δ))=Rd P tab ops nx0 nx k Q i r (⟨ids,δ.map (·.1),false⟩::acc) (putS dst v fr) (upds δ hp):=rfl
theorem rA_ {j d:Nat}(hd:(ops[j]?).bind (·.dst)=some d):Rt P tab ops nx0 k Q i (⟨dst,op,T,pos,after,some (j,t)⟩::r) s=onG P tab ops nx0 k Q i r dst s op t (s.fr d):=by
 unfold Rt WT xC_ onG;simp only[hd];rfl
theorem rB_ {j d:Nat}(hd:(ops[j]?).bind (·.dst)=some d):Rd P tab ops nx0 nx k Q i (⟨dst,op,T,pos,after,some (j,t)⟩::r) acc fr hp=onGD P tab ops nx0 nx k Q i r dst acc fr hp op t (fr d):=by
 unfold Rd WD xC_ onGD;simp only[hd];rfl
theorem tJ_:onG P tab ops nx0 k Q i r dst s op t (.v (.bool t))=onOp P tab ops nx0 k Q i r dst s op:=by cases t<;>simp[onG]
theorem tK_:onG P tab ops nx0 k Q i r dst s op true (.v (.bool false))=Rt P tab ops nx0 k Q (i+1) r ⟨putS dst (.tu []) s.fr,s.hp,s.nx⟩:=by simp[onG]
theorem tL_:onG P tab ops nx0 k Q i r dst s op false (.v (.bool true))=Rt P tab ops nx0 k Q (i+1) r ⟨putS dst (.tu []) s.fr,s.hp,s.nx⟩:=by simp[onG]
theorem onG_un:onG P tab ops nx0 k Q i r dst s op t (.tu [])=Rt P tab ops nx0 k Q (i+1) r ⟨putS dst (.tu []) s.fr,s.hp,s.nx⟩:=rfl
theorem rC_:onGD P tab ops nx0 nx k Q i r dst acc fr hp op t (.v (.bool t))=xE_ P tab ops nx0 nx k Q i r dst acc fr hp op:=by cases t<;>simp[onGD]
theorem rD_:onGD P tab ops nx0 nx k Q i r dst acc fr hp op true (.v (.bool false))=Rd P tab ops nx0 nx k Q (i+1) r (⟨[],[],false⟩::acc) (putS dst (.tu []) fr) hp:=by simp[onGD]
theorem rE_:onGD P tab ops nx0 nx k Q i r dst acc fr hp op false (.v (.bool true))=Rd P tab ops nx0 nx k Q (i+1) r (⟨[],[],false⟩::acc) (putS dst (.tu []) fr) hp:=by simp[onGD]
theorem tM_:onGD P tab ops nx0 nx k Q i r dst acc fr hp op t (.tu [])=Rd P tab ops nx0 nx k Q (i+1) r (⟨[],[],false⟩::acc) (putS dst (.tu []) fr) hp:=rfl
theorem zl_ {g:FuncId}{caps vs:List AV}{ds:List D}{b:Bool}{is:List Nat}{d:D}{f:Bool}(h1:toDl s.hp (vs++caps)=some (ds,b,is))(h2:PureOK P g ds d f)(h3:is= []\/f=true)(h:Rt P tab ops nx0 k Q i r ⟨putS dst (lift (!f&&b) d) s.fr,s.hp,s.nx⟩):
  wf_ P tab ops nx0 k Q i r dst s (.fn g caps) vs:=.inl ⟨ds,b,is,d,f,h1,h2,h3,h⟩
theorem qe_ {g:FuncId}{caps vs:List AV}(h:InlOK P g (vs++caps) s.hp s.nx fun v hp nx=>Rt P tab ops nx0 k Q i r ⟨putS dst v s.fr,hp,nx⟩):wf_ P tab ops nx0 k Q i r dst s (.fn g caps) vs:=.inr h
theorem bU_ {g:FuncId}{caps vs:List AV}{ds:List D}{b:Bool}{is:List Nat}{d:D}{f:Bool}(h1:toDl hp (vs++caps)=some (ds,b,is))(h2:PureOK P g ds d f)(h3:is= []\/f=true)(h:Rd P tab ops nx0 nx k Q i r (⟨ids,[],false⟩::acc) (putS dst (lift (!f&&b) d) fr) hp):
  vz_ P tab ops nx0 nx k Q i r dst acc ids fr hp (.fn g caps) vs:=.inl ⟨ds,b,is,d,f,h1,h2,h3,h⟩
theorem q3_ {g:FuncId}{caps vs:List AV}{ids':List Nat}{v:AV}{δ:List (Nat × AO)}{nx':Nat}(h1:m4_ P g (vs++caps) hp nx ids' v δ nx')(h:Rd P tab ops nx0 nx' k Q i r (⟨ids',δ.map (·.1),true⟩::acc) (putS dst v fr) (upds δ hp)):
  vz_ P tab ops nx0 nx k Q i r dst acc ids fr hp (.fn g caps) vs:=.inr ⟨ids',v,δ,nx',h1,h⟩
theorem gS_ {α:Type}(σ:α->St)(μ:α->Nat)(x0:α)(h0:Weak (σ x0) s)(step:∀x,run P tab [.c a,.lp fun s'=>∃x',Weak (σ x') s'/\μ x'<μ x] (cont P tab k Q) (σ x)):run P tab (.c (.loop a)::k) Q s:=by
 show ∀X:St->Prop,_->_->X s;intro X h1 h2;have key:∀n x,μ x=n->X (σ x):=by
  intro n;induction n using Nat.strongRecOn with
  |_ n ih=>
   intro x hx;refine h1 _ (tD_ a _ _ _ (fun e s' h=> ?_) (step x));cases e with
   |normal=>
    obtain⟨x',h3,h4⟩:=h;exact h2 _ _ (.weak h3) (ih (μ x') (by omega) x' rfl)
   |ret=>exact h
   |exit n=>exact h
 exact h2 _ _ (.weak h0) (key _ x0 rfl)
theorem qN_ (ht:TabOk P tab)(hm:P.follows .mixedOrders=true){f:FuncId}{fn:Func}{code:Code}(hf:P.funcs[f]? =some fn)(hb:fn.body=some code)(hname:(fn.name== "runtime.NumGoroutine")=false)(hd:jK_ fn.ntmps code=true){vs:List AV}{nx:Nat}{R:AV->Hp->Nat->Prop}
  (hlen:vs.length<=fn.ntmps) (h:run P tab [.c code] (EndW tab fn.results R) ⟨frOf vs,hp,nx⟩):InlOK P f vs hp nx R:=
 rm_ ht hm hf hb hname hd hlen (W2_W code _ _ _ (fun _ _ h=>h) h)
theorem fW_ (ht:TabOk P tab)(hm:P.follows .mixedOrders=true){f:FuncId}{fn:Func}{code:Code}(hf:P.funcs[f]? =some fn)(hb:fn.body=some code)(hname:(fn.name== "runtime.NumGoroutine")=false)(hd:jK_ fn.ntmps code=true){ds:List D}{d:D}{fresh:Bool}
  (hlen:ds.length<=fn.ntmps) (h:run P tab [.c code] (EndW tab fn.results (EndP d fresh)) ⟨frOf (ds.map (lift true)),noHp,0⟩):PureOK P f ds d fresh:=
 wo_ (qN_ ht hm hf hb hname hd (by simpa using hlen) h)
end
end
section
open Go.RowKit
section
variable {P:Program}{tab:Nat->TI}{ops:Array Oper}{nx0 nx i:Nat}{k:List It}{Q:Ex->St->Prop}{r:List Oper}{s:St}{dst:Option Nat}{acc:List Rec}{fr:Fr}{hp:Hp}
@[go_sem] theorem onOp_move (x:Operand):onOp P tab ops nx0 k Q i r dst s (.move x)=jZ_ P tab ops nx0 k Q (i+1) r dst s (ql_ tab (ev s.fr) s.hp (nx0+i) (.move x)):=rfl
@[go_sem] theorem ab_ (x:Operand):xE_ P tab ops nx0 nx k Q i r dst acc fr hp (.move x)=jk_ P tab ops nx0 nx k Q (i+1) r dst acc (qG_ (ev fr) (.move x)) fr hp (ql_ tab (ev fr) hp (nx0+i) (.move x)):=rfl
@[go_sem] theorem tN_ (x:Operand):onOp P tab ops nx0 k Q i r dst s (.assign x)=jZ_ P tab ops nx0 k Q (i+1) r dst s (ql_ tab (ev s.fr) s.hp (nx0+i) (.assign x)):=rfl
@[go_sem] theorem sR_ (x:Operand):xE_ P tab ops nx0 nx k Q i r dst acc fr hp (.assign x)=jk_ P tab ops nx0 nx k Q (i+1) r dst acc (qG_ (ev fr) (.assign x)) fr hp (ql_ tab (ev fr) hp (nx0+i) (.assign x)):=rfl
@[go_sem] theorem onOp_pick (x y z:Operand):onOp P tab ops nx0 k Q i r dst s (.pick x y z)=jZ_ P tab ops nx0 k Q (i+1) r dst s (ql_ tab (ev s.fr) s.hp (nx0+i) (.pick x y z)):=rfl
@[go_sem] theorem ac_ (x y z:Operand):xE_ P tab ops nx0 nx k Q i r dst acc fr hp (.pick x y z)=jk_ P tab ops nx0 nx k Q (i+1) r dst acc (qG_ (ev fr) (.pick x y z)) fr hp (ql_ tab (ev fr) hp (nx0+i) (.pick x y z)):=rfl
@[go_sem] theorem ad_ (A:TypeId):onOp P tab ops nx0 k Q i r dst s (.alloc A)=jZ_ P tab ops nx0 k Q (i+1) r dst s (ql_ tab (ev s.fr) s.hp (nx0+i) (.alloc A)):=rfl
@[go_sem] theorem tO_ (A:TypeId):xE_ P tab ops nx0 nx k Q i r dst acc fr hp (.alloc A)=jk_ P tab ops nx0 nx k Q (i+1) r dst acc (qG_ (ev fr) (.alloc A)) fr hp (ql_ tab (ev fr) hp (nx0+i) (.alloc A)):=rfl
@[go_sem] theorem onOp_box (A:TypeId)(x:Operand):onOp P tab ops nx0 k Q i r dst s (.box A x)=jZ_ P tab ops nx0 k Q (i+1) r dst s (ql_ tab (ev s.fr) s.hp (nx0+i) (.box A x)):=rfl
@[go_sem] theorem onOpD_box (A:TypeId)(x:Operand):xE_ P tab ops nx0 nx k Q i r dst acc fr hp (.box A x)=jk_ P tab ops nx0 nx k Q (i+1) r dst acc (qG_ (ev fr) (.box A x)) fr hp (ql_ tab (ev fr) hp (nx0+i) (.box A x)):=rfl
@[go_sem] theorem ae_ (A:TypeId)(ps:Array (Nat × Operand)):onOp P tab ops nx0 k Q i r dst s (.build A ps)=jZ_ P tab ops nx0 k Q (i+1) r dst s (ql_ tab (ev s.fr) s.hp (nx0+i) (.build A ps)):=rfl
@[go_sem] theorem tP_ (A:TypeId)(ps:Array (Nat × Operand)):xE_ P tab ops nx0 nx k Q i r dst acc fr hp (.build A ps)=jk_ P tab ops nx0 nx k Q (i+1) r dst acc (qG_ (ev fr) (.build A ps)) fr hp (ql_ tab (ev fr) hp (nx0+i) (.build A ps)):=rfl
@[go_sem] theorem ng_ (A:TypeId)(c:Nat)(ps:Array (Nat × Operand)):onOp P tab ops nx0 k Q i r dst s (.buildSlice A c ps)=jZ_ P tab ops nx0 k Q (i+1) r dst s (ql_ tab (ev s.fr) s.hp (nx0+i) (.buildSlice A c ps)):=rfl
@[go_sem] theorem mA_ (A:TypeId)(c:Nat)(ps:Array (Nat × Operand)):xE_ P tab ops nx0 nx k Q i r dst acc fr hp (.buildSlice A c ps)=jk_ P tab ops nx0 nx k Q (i+1) r dst acc (qG_ (ev fr) (.buildSlice A c ps)) fr hp (ql_ tab (ev fr) hp (nx0+i) (.buildSlice A c ps)):=rfl
@[go_sem] theorem onOp_load (A:TypeId)(x:Operand):onOp P tab ops nx0 k Q i r dst s (.load A x)=jZ_ P tab ops nx0 k Q (i+1) r dst s (ql_ tab (ev s.fr) s.hp (nx0+i) (.load A x)):=rfl
@[go_sem] theorem af_ (A:TypeId)(x:Operand):xE_ P tab ops nx0 nx k Q i r dst acc fr hp (.load A x)=jk_ P tab ops nx0 nx k Q (i+1) r dst acc (qG_ (ev fr) (.load A x)) fr hp (ql_ tab (ev fr) hp (nx0+i) (.load A x)):=rfl
@[go_sem] theorem ag_ (A:TypeId)(x y:Operand):onOp P tab ops nx0 k Q i r dst s (.store A x y)=jZ_ P tab ops nx0 k Q (i+1) r dst s (ql_ tab (ev s.fr) s.hp (nx0+i) (.store A x y)):=rfl
@[go_sem] theorem tQ_ (A:TypeId)(x y:Operand):xE_ P tab ops nx0 nx k Q i r dst acc fr hp (.store A x y)=jk_ P tab ops nx0 nx k Q (i+1) r dst acc (qG_ (ev fr) (.store A x y)) fr hp (ql_ tab (ev fr) hp (nx0+i) (.store A x y)):=rfl
@[go_sem] theorem rF_ (x:Operand):onOp P tab ops nx0 k Q i r dst s (.nilCheck x)=jZ_ P tab ops nx0 k Q (i+1) r dst s (ql_ tab (ev s.fr) s.hp (nx0+i) (.nilCheck x)):=rfl
@[go_sem] theorem p7_ (x:Operand):xE_ P tab ops nx0 nx k Q i r dst acc fr hp (.nilCheck x)=jk_ P tab ops nx0 nx k Q (i+1) r dst acc (qG_ (ev fr) (.nilCheck x)) fr hp (ql_ tab (ev fr) hp (nx0+i) (.nilCheck x)):=rfl
@[go_sem] theorem ah_ (o:BinOp)(A B:TypeId)(x y:Operand):onOp P tab ops nx0 k Q i r dst s (.binOp o A x y B)=jZ_ P tab ops nx0 k Q (i+1) r dst s (ql_ tab (ev s.fr) s.hp (nx0+i) (.binOp o A x y B)):=rfl
@[go_sem] theorem tR_ (o:BinOp)(A B:TypeId)(x y:Operand):xE_ P tab ops nx0 nx k Q i r dst acc fr hp (.binOp o A x y B)=jk_ P tab ops nx0 nx k Q (i+1) r dst acc (qG_ (ev fr) (.binOp o A x y B)) fr hp (ql_ tab (ev fr) hp (nx0+i) (.binOp o A x y B)):=rfl
@[go_sem] theorem onOp_unOp (o:UnOp)(A:TypeId)(x:Operand):onOp P tab ops nx0 k Q i r dst s (.unOp o A x)=jZ_ P tab ops nx0 k Q (i+1) r dst s (ql_ tab (ev s.fr) s.hp (nx0+i) (.unOp o A x)):=rfl
@[go_sem] theorem ai_ (o:UnOp)(A:TypeId)(x:Operand):xE_ P tab ops nx0 nx k Q i r dst acc fr hp (.unOp o A x)=jk_ P tab ops nx0 nx k Q (i+1) r dst acc (qG_ (ev fr) (.unOp o A x)) fr hp (ql_ tab (ev fr) hp (nx0+i) (.unOp o A x)):=rfl
@[go_sem] theorem sS_ (A B:TypeId)(x:Operand):onOp P tab ops nx0 k Q i r dst s (.convert A B x)=jZ_ P tab ops nx0 k Q (i+1) r dst s (ql_ tab (ev s.fr) s.hp (nx0+i) (.convert A B x)):=rfl
@[go_sem] theorem p8_ (A:TypeId)(x:Operand)(f:Nat):onOp P tab ops nx0 k Q i r dst s (.fieldAddr A x f)=jZ_ P tab ops nx0 k Q (i+1) r dst s (ql_ tab (ev s.fr) s.hp (nx0+i) (.fieldAddr A x f)):=rfl
@[go_sem] theorem nh_ (A:TypeId)(x:Operand)(f:Nat):xE_ P tab ops nx0 nx k Q i r dst acc fr hp (.fieldAddr A x f)=jk_ P tab ops nx0 nx k Q (i+1) r dst acc (qG_ (ev fr) (.fieldAddr A x f)) fr hp (ql_ tab (ev fr) hp (nx0+i) (.fieldAddr A x f)):=rfl
@[go_sem] theorem p9_ (A:TypeId)(x y:Operand):onOp P tab ops nx0 k Q i r dst s (.indexAddr A x y)=jZ_ P tab ops nx0 k Q (i+1) r dst s (ql_ tab (ev s.fr) s.hp (nx0+i) (.indexAddr A x y)):=rfl
@[go_sem] theorem ni_ (A:TypeId)(x y:Operand):xE_ P tab ops nx0 nx k Q i r dst acc fr hp (.indexAddr A x y)=jk_ P tab ops nx0 nx k Q (i+1) r dst acc (qG_ (ev fr) (.indexAddr A x y)) fr hp (ql_ tab (ev fr) hp (nx0+i) (.indexAddr A x y)):=rfl
@[go_sem] theorem aj_ (A:TypeId)(x y:Operand):onOp P tab ops nx0 k Q i r dst s (.index A x y)=jZ_ P tab ops nx0 k Q (i+1) r dst s (ql_ tab (ev s.fr) s.hp (nx0+i) (.index A x y)):=rfl
@[go_sem] theorem ak_ (A:TypeId)(x:Operand)(l h m:Option Operand):onOp P tab ops nx0 k Q i r dst s (.slice A x l h m)=jZ_ P tab ops nx0 k Q (i+1) r dst s (ql_ tab (ev s.fr) s.hp (nx0+i) (.slice A x l h m)):=rfl
@[go_sem] theorem tS_ (A:TypeId)(x:Operand)(l h m:Option Operand):xE_ P tab ops nx0 nx k Q i r dst acc fr hp (.slice A x l h m)=jk_ P tab ops nx0 nx k Q (i+1) r dst acc (qG_ (ev fr) (.slice A x l h m)) fr hp (ql_ tab (ev fr) hp (nx0+i) (.slice A x l h m)):=rfl
@[go_sem] theorem sT_ (x:Operand)(f:Nat):onOp P tab ops nx0 k Q i r dst s (.extract x f)=jZ_ P tab ops nx0 k Q (i+1) r dst s (ql_ tab (ev s.fr) s.hp (nx0+i) (.extract x f)):=rfl
@[go_sem] theorem rG_ (x:Operand)(f:Nat):xE_ P tab ops nx0 nx k Q i r dst acc fr hp (.extract x f)=jk_ P tab ops nx0 nx k Q (i+1) r dst acc (qG_ (ev fr) (.extract x f)) fr hp (ql_ tab (ev fr) hp (nx0+i) (.extract x f)):=rfl
@[go_sem] theorem rH_ (f:Fn)(u w:Array Operand):onOp P tab ops nx0 k Q i r dst s (.makeFunc f u w)=jZ_ P tab ops nx0 k Q (i+1) r dst s (ql_ tab (ev s.fr) s.hp (nx0+i) (.makeFunc f u w)):=rfl
@[go_sem] theorem ra_ (f:Fn)(u w:Array Operand):xE_ P tab ops nx0 nx k Q i r dst acc fr hp (.makeFunc f u w)=jk_ P tab ops nx0 nx k Q (i+1) r dst acc (qG_ (ev fr) (.makeFunc f u w)) fr hp (ql_ tab (ev fr) hp (nx0+i) (.makeFunc f u w)):=rfl
@[go_sem] theorem sU_ (b:Builtin)(u:Array Operand)(w:Array TypeId):onOp P tab ops nx0 k Q i r dst s (.call { callee:=.builtin b,args:=u,argTypes:=w })=jZ_ P tab ops nx0 k Q (i+1) r dst s (ql_ tab (ev s.fr) s.hp (nx0+i) (.call { callee:=.builtin b,args:=u,argTypes:=w })):=rfl
@[go_sem] theorem rI_ (b:Builtin)(u:Array Operand)(w:Array TypeId):xE_ P tab ops nx0 nx k Q i r dst acc fr hp (.call { callee:=.builtin b,args:=u,argTypes:=w })=jk_ P tab ops nx0 nx k Q (i+1) r dst acc (qG_ (ev fr) (.call { callee:=.builtin b,args:=u,argTypes:=w })) fr hp (ql_ tab (ev fr) hp (nx0+i) (.call { callee:=.builtin b,args:=u,argTypes:=w })):=rfl
@[go_sem] theorem sV_ (A:TypeId)(x:Option Operand):onOp P tab ops nx0 k Q i r dst s (.makeMap A x)=jZ_ P tab ops nx0 k Q (i+1) r dst s (ql_ tab (ev s.fr) s.hp (nx0+i) (.makeMap A x)):=rfl
@[go_sem] theorem tT_ (A:TypeId)(x y:Operand)(c:Bool):onOp P tab ops nx0 k Q i r dst s (.lookup A x y c)=jZ_ P tab ops nx0 k Q (i+1) r dst s (ql_ tab (ev s.fr) s.hp (nx0+i) (.lookup A x y c)):=rfl
@[go_sem] theorem sW_ (A:TypeId)(x y:Operand)(c:Bool):xE_ P tab ops nx0 nx k Q i r dst acc fr hp (.lookup A x y c)=jk_ P tab ops nx0 nx k Q (i+1) r dst acc (qG_ (ev fr) (.lookup A x y c)) fr hp (ql_ tab (ev fr) hp (nx0+i) (.lookup A x y c)):=rfl
@[go_sem] theorem nj_ (A:TypeId)(x y z:Operand):xE_ P tab ops nx0 nx k Q i r dst acc fr hp (.mapUpdate A x y z)=jk_ P tab ops nx0 nx k Q (i+1) r dst acc (qG_ (ev fr) (.mapUpdate A x y z)) fr hp (ql_ tab (ev fr) hp (nx0+i) (.mapUpdate A x y z)):=rfl
theorem zz_ {α:Type}(k:Nat)(x:α)(f:Nat->α)(j:Nat):upd k x f j=if j=k then x else f j:=rfl
theorem tU_ (k:IntKind)(n:Int):ofV (.int k n)= .v (.int k n):=rfl
theorem rJ_ (b:Bool):ofV (.bool b)= .v (.bool b):=rfl
theorem hV_ (b:ByteArray):ofV (.string b)= .v (.string b):=rfl
theorem tV_:ofV (.slice none 0 0)= .v (.slice none 0 0):=rfl
theorem tW_:ofV (.pointer none)= .v (.pointer none):=rfl
theorem lift_v (b:Bool)(x:Value):lift b (.v x)= .v x:=rfl
theorem tX_ (b:Bool)(x:List (List D)):lift b (.sl x)= .d (.sl x) b:=rfl
theorem tY_ (b:Bool)(x:List D)(o:Nat):lift b (.pt x o)= .d (.pt x o) b:=rfl
theorem tZ_ (b:Bool)(x:List D):lift b (.ag x)= .d (.ag x) b:=rfl
theorem t0_ (b:Bool)(x:List D):lift b (.tu x)= .d (.tu x) b:=rfl
theorem ev_tmp (fr:Fr)(t:Nat):ev fr (.tmp t)=fr t:=rfl
theorem rK_ (fr:Fr)(x:Value):ev fr (.const x)=ofV x:=rfl
theorem t1_ (fr:Fr)(f:Nat):ev fr (.func f)= .fn f []:=rfl
theorem nk_ (t:Nat)(v:AV)(fr:Fr):putS (some t) v fr=upd t v fr:=rfl
theorem nl_ (v:AV)(fr:Fr):putS none v fr=fr:=rfl
theorem rL_ (h:Hp):upds [] h=h:=rfl
theorem nm_ (k:Nat)(o:AO)(r:List (Nat × AO))(h:Hp):upds ((k,o)::r) h=upds r (upd k (some o) h):=rfl
theorem t2_ (vs:List AV)(t:Nat):frOf vs t=vs.getD t (.tu []):=rfl
theorem t3_ (t:Nat):noFr t= .un:=rfl
theorem t4_ (t:Nat):noHp t=none:=rfl
theorem hW_ (k:IntKind)(n:Nat):qT_ (.v (.int k (n:Int)))=some n:=by simp[qT_,fF_]
attribute [go_sem] tE_ nc_ rv_ nd_ tF_ tG_ run_lp tH_ rw_ exit_c tI_ rx_ ry_ rz_ ne_ hT_ fb_ Rt_nil Rt_op Rd_op nf_ hU_ fc_ bT_ tJ_ tK_ tL_ onG_un rC_ rD_ rE_ tM_
 toDl toDs List.size_toArray List.length_cons List.length_nil List.map_cons List.map_nil List.append_nil List.nil_append List.cons_append Bool.or_false Bool.or_true Bool.false_or Bool.true_or Bool.and_false Bool.and_true Bool.not_true Bool.not_false
 ql_ ixArr movA zz_ tU_ rJ_ hV_ tV_ tW_ lift_v tX_ tY_ tZ_ t0_ ev_tmp rK_ t1_ nk_ nl_ rL_ nm_ t2_ t3_ t4_ hW_ bin binV intV strV
end
section
variable (hp:Hp)(b c:Bool)(x:List (List D))(y:List D)(o n i v:Nat)(k:IntKind)(z:Int)(s:ByteArray)(m:List (Value × Bool × List D))(cs:List AV)(f:FuncId)(p:Option Addr)(q:Option Nat)(e:Value)
@[go_sem] theorem noId_nil (i:Nat):noId i []=true:=rfl
@[go_sem] theorem toD1_int:toD1 hp (.v (.int k z))=some (.v (.int k z),false,[]):=rfl
@[go_sem] theorem toD1_bool:toD1 hp (.v (.bool c))=some (.v (.bool c),false,[]):=rfl
@[go_sem] theorem toD1_str:toD1 hp (.v (.string s))=some (.v (.string s),false,[]):=rfl
@[go_sem] theorem toD1_nil:toD1 hp (.v (.slice none 0 0))=some (.sl [],false,[]):=rfl
@[go_sem] theorem toD1_dsl:toD1 hp (.d (.sl x) b)=some (.sl x,b,[]):=rfl
@[go_sem] theorem toD1_dpt:toD1 hp (.d (.pt y o) b)=some (.pt y o,b,[]):=rfl
@[go_sem] theorem toD1_so:toD1 hp (.so i v o n)=match hp i with
  |some (.rw es _ w br _)=>if w=v then some (.sl ((es.drop o).take n),br,[i]) else none
  |_=>none:=rfl
@[go_sem] theorem toD_v:toD hp (.v e)=toD1 hp (.v e):=rfl
@[go_sem] theorem toD_dsl:toD hp (.d (.sl x) b)=some (.sl x,b,[]):=rfl
@[go_sem] theorem toD_so:toD hp (.so i v o n)=toD1 hp (.so i v o n):=rfl
@[go_sem] theorem toD_ag:toD hp (.ag cs)=(toDs hp cs).map fun(ds,b,i)=>(.ag ds,b,i):=rfl
@[go_sem] theorem toD_dag:toD hp (.d (.ag y) b)=some (.ag y,b&& !zU_ y,[]):=rfl
@[go_sem] theorem rowOf_d:v9_ hp (.d (.sl x) b)=some (x,b&& !zV_ x,[]):=rfl
@[go_sem] theorem rowOf_so:v9_ hp (.so i v o n)=match hp i with
  |some (.rw es _ w br _)=>if v=w then some ((es.drop o).take n,br,[i]) else none
  |_=>none:=rfl
@[go_sem] theorem cellsA_v:qP_ (.v e)=some [.v e]:=rfl
@[go_sem] theorem cellsA_ag:qP_ (.ag cs)=some cs:=rfl
@[go_sem] theorem al_:qP_ (.d (.ag y) b)=some (y.map (lift b)):=rfl
@[go_sem] theorem am_:qP_ (.d (.sl x) b)=some [.d (.sl x) b]:=rfl
@[go_sem] theorem an_:qP_ (.d (.pt y o) b)=some [.d (.pt y o) b]:=rfl
@[go_sem] theorem cellsA_pt:qP_ (.pt i o)=some [.pt i o]:=rfl
@[go_sem] theorem cellsA_so:qP_ (.so i v o n)=some [.so i v o n]:=rfl
@[go_sem] theorem cellsA_mo:qP_ (.mo i)=some [.mo i]:=rfl
@[go_sem] theorem aggA_v:aggA (.v e)=none:=rfl
@[go_sem] theorem aggA_ag:aggA (.ag cs)=some cs:=rfl
@[go_sem] theorem aggA_dag:aggA (.d (.ag y) b)=some (y.map (lift b)):=rfl
@[go_sem] theorem isCell_pt:we_ (.pt i o)=true:=rfl
@[go_sem] theorem isPtr_pt:dY_ (.pt i o)=true:=rfl
@[go_sem] theorem isPtr_dpt:dY_ (.d (.pt y o) b)=true:=rfl
@[go_sem] theorem isVal_v:gM_ (.v e)=true:=rfl
@[go_sem] theorem isVal_dsl:gM_ (.d (.sl x) b)=true:=rfl
@[go_sem] theorem isVal_dpt:gM_ (.d (.pt y o) b)=true:=rfl
@[go_sem] theorem isVal_pt:gM_ (.pt i o)=true:=rfl
@[go_sem] theorem isVal_so:gM_ (.so i v o n)=true:=rfl
@[go_sem] theorem toR_v:toR hp (.v e)=toD1 hp (.v e):=rfl
@[go_sem] theorem toR_so:toR hp (.so i v o n)=toD1 hp (.so i v o n):=rfl
@[go_sem] theorem toR_tu:toR hp (.tu cs)=(toDl hp cs).map fun(ds,b,i)=>(.tu ds,b,i):=rfl
end
end
section
open Go.RowKit
def fX_ (P:Program):List Field->Option (List (Nat × Nat))
 |[]=>some []
 |f::r=>match P.info? f.type,fX_ P r with
  |some i,some l=>some ((f.offset,i.size)::l)
  |_,_=>none
theorem bV_ {P:Program}:∀ {fs:List Field} {l:List (Nat × Nat)},fX_ P fs=some l->fs.length=l.length/\∀(i:Nat) (f:Field),fs[i]? =some f->∃fi,P.info? f.type=some fi/\l[i]? =some (f.offset,fi.size)
 |[],l,h=>by
  cases h;simp
 |f::r,l,h=>by
  unfold fX_ at h;split at h
  ·rename_i i l' h1 h2
   cases h
   have:=bV_ h2
   grind
  ·cases h
def u7_ (P:Program):TypeDesc->Option (TK × Nat × List (Nat × Nat))
 | .slice e=>some (.slice,e,[])
 | .string=>some (.string,0,[])
 | .int k=>some (.int k,0,[])
 | .bool=>some (.bool,0,[])
 | .pointer e=>some (.ptr,e,[])
 | .map _ e=>some (.map,e,[])
 | .struct fs=>(fX_ P fs.toList).map fun l=>(.struct,0,l)
 | .array _ _=>none
 |_=>some (.other,0,[])
def hX_ (go:Nat->Option (List TK)):Nat->List Field->Option (List TK)
 |_,[]=>some []
 |off,f::r=>if f.name≠ "_" /\f.offset=off then match go f.type with
  |some ks=>match hX_ go (off+ks.length) r with
   |some l=>some (ks++l)
   |none=>none
  |none=>none else none
def flatK (P:Program):Nat->Nat->Option (List TK)
 |0,_=>none
 |d+1,t=>match P.underlying t with
  |some .bool=>some [.bool]
  |some (.int k)=>some [.int k]
  |some .string=>some [.string]
  |some (.struct fs)=>if P.stoodInHeld t=false/\P.eqGuardType P.depth t=false then match P.info? t,hX_ (flatK P d) 0 fs.toList with
   |some i,some l=>if i.size=l.length then some l else none
   |_,_=>none else none
  |_=>none
theorem u8_:∀ {ks ls:List TK} {xs ys:List Value} {b:Bool},eqK (ks++ls) xs ys=some b->∃b1 b2,eqK ks (xs.take ks.length) (ys.take ks.length)=some b1/\eqK ls (xs.drop ks.length) (ys.drop ks.length)=some b2/\b=(b1&&b2)
 |[],ls,xs,ys,b,h=>⟨true,b,by simp[eqK],by simpa using h,by simp⟩
 |k::ks,ls,[],ys,b,h=>by simp[eqK] at h
 |k::ks,ls,x::xs,[],b,h=>by simp[eqK] at h
 |k::ks,ls,x::xs,y::ys,b,h=>by
  simp only[List.cons_append,eqK] at h;split at h
  ·rename_i b0 c0 h1 h2
   obtain⟨b1,b2,h3,h4,h5⟩:=u8_ h2;grind [eqK,Bool.and_assoc]
  ·cases h
def EqS (P:Program)(dd:Nat)(t:Nat)(ks:List TK):Prop:=
 ∀(w:World) (xs ys:Array Value) (b:Bool),eqK ks xs.toList ys.toList=some b->(Op.equalIn dd t (.agg xs) (.agg ys)).run P w= .ok b w
def EqP (P:Program)(dd:Nat)(t:Nat)(ks:List TK):Prop:=
 ∀(w:World) (xs ys:Array Value) (off:Nat) (b:Bool),eqK ks ((xs.toList.drop off).take ks.length) ((ys.toList.drop off).take ks.length)=some b->
  ∃a c,(part t xs off).run P w= .ok a w/\(part t ys off).run P w= .ok c w/\(Op.equalIn dd t a c).run P w= .ok b w
theorem eq1_ok {P:Program}{t:Nat}{d:TypeDesc}{k:TK}{x y:Value}{b:Bool}(hu:P.underlying t=some d)(hk:(d= .bool/\k= .bool)\/(d= .string/\k= .string)\/∃q,d= .int q/\k= .int q)(h:eq1 k x y=some b)(dd:Nat)(w:World):(Op.equalIn (dd+1) t x y).run P w= .ok b w:=by
 rcases hk with⟨rfl,rfl⟩ |⟨rfl,rfl⟩ |⟨q,rfl,rfl⟩<;>(unfold eq1 at h;split at h<;>simp_all [Op.equalIn,run_underlying hu]<;>(grind))
theorem chunk1 {xs:List Value}{off:Nat}{k:TK}{ys:List Value}{b:Bool}(h:eqK [k] ((xs.drop off).take 1) ((ys.drop off).take 1)=some b):∃x y,xs[off]? =some x/\ys[off]? =some y/\eq1 k x y=some b:=by
 have hx:(xs.drop off).take 1=(xs[off]?).toList:=by
  cases e:xs[off]? with
  |none=>simp at e;simp[e]
  |some x=>grind [List.getElem?_eq_some_iff,List.drop_eq_getElem_cons]
 have hy:(ys.drop off).take 1=(ys[off]?).toList:=by
  cases e:ys[off]? with
  |none=>simp at e;simp[e]
  |some x=>grind [List.getElem?_eq_some_iff,List.drop_eq_getElem_cons]
 rw[hx,hy] at h;cases e1:xs[off]? with
 |none=>rw[e1] at h;simp[eqK] at h
 |some x=>
  cases e2:ys[off]? with
  |none=>rw[e1,e2] at h;simp[eqK] at h
  |some y=>
   rw[e1,e2] at h;simp only[Option.toList_some,eqK] at h;grind
theorem wO_ {P:Program}{go:Nat->Option (List TK)}{dd:Nat}(hgo:∀t ks,go t=some ks->EqP P dd t ks):∀(fs:List Field) (off:Nat) (ks:List TK),hX_ go off fs=some ks->
  ∀(w:World) (xs ys:Array Value) (b:Bool),eqK ks (xs.toList.drop off) (ys.toList.drop off)=some b->(Op.eqFields dd xs ys fs).run P w= .ok b w
 |[],off,ks,h,w,xs,ys,b,hb=>by
  cases h
  have:b=true:=by
   generalize xs.toList.drop off=u at hb;generalize ys.toList.drop off=v at hb;cases u<;>cases v<;>simp[eqK] at hb;exact hb
  subst this;simp[Op.eqFields]
 |f::fs,off,ks,h,w,xs,ys,b,hb=>by
  unfold hX_ at h;split at h
  ·rename_i hn
   split at h
   ·rename_i k1 h1
    split at h
    ·rename_i k2 h2
     cases h;obtain⟨b1,b2,h3,h4,rfl⟩:=u8_ hb;obtain⟨a,c,e1,e2,e3⟩:=hgo _ _ h1 w xs ys off b1 h3;rw[List.drop_drop,List.drop_drop] at h4;have e4:=wO_ hgo fs (off+k1.length) k2 h2 w xs ys b2 h4;simp only[Op.eqFields,hn.1,ne_eq,not_false_eq_true,if_true,hn.2,Sem.run_bind,e1,e2,e3,Result.andThen_ok];cases b1
     ·simp
     ·simpa using e4
    ·cases h
   ·cases h
  ·cases h
theorem fd_ {P:Program}{d t:Nat}{ks:List TK}(h:flatK P d t=some ks):(∃fs,P.underlying t=some (.struct fs))->P.eqGuardType P.depth t=false:=by
 rintro⟨fs,hu⟩;cases d with
 |zero=>cases h
 |succ d=>
  grind [flatK]
theorem k6_ {P:Program}(n:Nat):∀(d t:Nat) (ks:List TK),flatK P d t=some ks->EqP P (n+d) t ks/\((∃fs,P.underlying t=some (.struct fs))->EqS P (n+d) t ks)
 |0,t,ks,h=>by cases h
 |d+1,t,ks,h=>by
  have one:∀(dsc:TypeDesc) (k:TK),P.underlying t=some dsc->((dsc= .bool/\k= .bool)\/(dsc= .string/\k= .string)\/∃q,dsc= .int q/\k= .int q)->ks= [k]->EqP P (n+(d+1)) t ks/\((∃fs,P.underlying t=some (.struct fs))->EqS P (n+(d+1)) t ks):=by
   intro dsc k hu hk e;subst e;refine⟨fun w xs ys off b hb=> ?_,fun⟨fs,hs⟩=> ?_⟩
   ·obtain⟨x,y,h1,h2,h3⟩:=chunk1 (by simpa using hb)
    have hp:P.plainKey t=true:=by rcases hk with⟨rfl,_⟩ |⟨rfl,_⟩ |⟨q,rfl,_⟩<;>simp[Program.plainKey,hu]
    exact⟨x,y,run_part_plain w hp (by simpa using h1),run_part_plain w hp (by simpa using h2),eq1_ok hu hk h3 (n+d) w⟩
   ·grind
  unfold flatK at h;split at h
  ·grind
  ·grind
  ·grind
  ·rename_i fs hu
   split at h
   ·rename_i hg
    split at h
    ·rename_i i l hi hl
     split at h
     ·rename_i hsz
      cases h;have hfs:P.fieldsOf t=fs:=by simp[Program.fieldsOf,hu]
      have hs:EqS P (n+(d+1)) t ks:=by
       intro w xs ys b hb;rw[show n+(d+1)=(n+d)+1 from rfl,run_equalIn_struct w (n+d) t xs ys (by rw[hfs];exact hu) hg.1,hfs];exact wO_ (fun t' ks' h'=>(k6_ n d t' ks' h').1) fs.toList 0 ks hl w xs ys b (by simpa using hb)
      refine⟨fun w xs ys off b hb=> ?_,fun _=>hs⟩;have hc:P.cellsOf t=ks.length:=by simp[Program.cellsOf,hi,hsz]
      have ex:∀zs:Array Value,(zs.extract off (off+ks.length)).toList=(zs.toList.drop off).take ks.length:=fun zs=>by
       simp
      refine⟨.agg (xs.extract off (off+ks.length)),.agg (ys.extract off (off+ks.length)),?_,?_,hs w _ _ b (by rw[ex,ex];exact hb)⟩<;>simp[part,isAgg,run_underlying hu,run_sizeOf w hi,hc]
     ·cases h
    ·cases h
   ·cases h
  ·cases h
def fY_ (P:Program)(k:TK)(T:Nat):Option (List TK):=match k with
 | .struct=>flatK P 20 T
 |_=>none
def aggK:TK->Bool
 | .struct | .array _=>true
 |_=>false
def bW_ (k:TK)(z:Value):Bool:=z.cells.toList.all (·.oneCell')&&(match aggK k,z with
 |true,.agg _=>true
 |false,z=>z.oneCell'
 |_,_=>false)
theorem vZ_ {k:TK}{z:Value}(h:bW_ k z=true):(∀x∈z.cells.toList,x.oneCell'=true)/\(aggK k=true->∃vs,z= .agg vs)/\(aggK k=false->z.oneCell'=true):=by
 unfold bW_ at h;grind
theorem gT_ (t:TI):t.agg=aggK t.kind:=by rfl
def wr_ (P:Program)(T:Nat):TI:=
 match P.info? T,P.underlying T with
 |some i,some d=>match i.zero,u7_ P d with
  |some z,some (k,e,l)=>if z.cells.size=i.size/\bW_ k z=true then{ ok:=true,kind:=k,size:=i.size,bytes:=i.bytes,offs:=l,elem:=e,zero:=z.cells.toList,flat:=fY_ P k T } else{}
  |_,_=>{}
 |_,_=>{}
theorem jL_ (P:Program)(T:Nat):wr_ P T={}\/∃i d z k e l,P.info? T=some i/\P.underlying T=some d/\i.zero=some z/\u7_ P d=some (k,e,l)/\z.cells.size=i.size/\bW_ k z=true/\wr_ P T={ ok:=true,kind:=k,size:=i.size,bytes:=i.bytes,offs:=l,elem:=e,zero:=z.cells.toList,flat:=fY_ P k T }:=by
 unfold wr_;grind
theorem nn_ {P:Program}{T:Nat}{d:TypeDesc}{k:TK}{el:Nat}{l:List (Nat × Nat)}{ks:List TK}(h2:P.underlying T=some d)(h4:u7_ P d=some (k,el,l))(h:fY_ P k T=some ks):(∃fs,P.underlying T=some (.struct fs))/\flatK P 20 T=some ks:=by
 cases d<;>simp only[u7_,Option.some.injEq,Prod.mk.injEq,Option.map_eq_some_iff,reduceCtorEq] at h4
 case struct fs=>
  obtain⟨l',_,h5,_⟩:=h4;subst h5;exact⟨⟨fs,h2⟩,h⟩
 all_goals (obtain⟨h5,_⟩:=h4;subst h5;simp[fY_] at h)
theorem wP_ (P:Program):TabOk P (wr_ P) where
 mkey T q h:=by
  grind [jL_]
 dflt T h:=by
  grind [jL_]
 info T h:=by
  obtain e |⟨i,d,z,k,el,l,h1,h2,h3,h4,h5,h6,e⟩:=jL_ P T
  ·rw[e] at h;cases h
  ·rw[e]
   exact⟨i,z,h1,rfl,rfl,h3,by simp,by simpa using h5,(vZ_ h6).1,by rw[gT_];exact(vZ_ h6).2⟩
 kind T h:=by
  obtain e |⟨i,d,z,k,el,l,h1,h2,h3,h4,h5,h6,e⟩:=jL_ P T
  ·rw[e] at h;cases h
  ·rw[e]
   refine⟨d,h2,?_⟩;cases d with
   |struct fs=>
    simp only[u7_,Option.map_eq_some_iff] at h4;obtain⟨l',h7,h8⟩:=h4;cases h8;obtain⟨h9,h10⟩:=bV_ h7;simp_all
   |pointer e'=>cases h4;exact⟨_,rfl⟩
   |map k' e'=>cases h4;exact⟨_,rfl⟩
   |array n e'=>cases h4
   |_=>cases h4;first |rfl |trivial
 flat T ks h xs ys b hb w:=by
  obtain e |⟨i,d,z,k,el,l,h1,h2,h3,h4,h5,h6,e⟩:=jL_ P T
  ·rw[e] at h;cases h
  ·rw[e] at h
   obtain⟨h7,h8⟩:=nn_ h2 h4 h;exact(k6_ 9980 20 T ks h8).2 h7 w xs.toArray ys.toArray b (by simpa using hb)
 guard T ks h:=by
  obtain e |⟨i,d,z,k,el,l,h1,h2,h3,h4,h5,h6,e⟩:=jL_ P T
  ·rw[e] at h;cases h
  ·rw[e] at h
   obtain⟨h7,h8⟩:=nn_ h2 h4 h;exact fd_ h8 h7
def tabA (P:Program)(T:Nat):TI:=
 match P.info? T,P.underlying T with
 |some i,some (.array n e)=>match i.zero with
  |some z=>if z.cells.size=i.size/\bW_ (.array n) z=true/\(wr_ P e).ok=true then{ ok:=true,kind:=.array n,size:=i.size,bytes:=i.bytes,offs:=(List.range n).map fun j=>(j*(wr_ P e).size,(wr_ P e).size),elem:=e,zero:=z.cells.toList } else{}
  |none=>{}
 |_,_=>wr_ P T
theorem zc_ (P:Program)(T:Nat):tabA P T=wr_ P T\/tabA P T={}\/∃i n e z,P.info? T=some i/\P.underlying T=some (.array n e)/\i.zero=some z/\z.cells.size=i.size/\bW_ (.array n) z=true/\(wr_ P e).ok=true/\tabA P T={ ok:=true,kind:=.array n,size:=i.size,bytes:=i.bytes,offs:=(List.range n).map fun j=>(j*(wr_ P e).size,(wr_ P e).size),elem:=e,zero:=z.cells.toList }:=by
 unfold tabA;grind
theorem fZ_ {P:Program}{T:Nat}(h:(wr_ P T).ok=true):tabA P T=wr_ P T:=by
 obtain e |⟨i,d,z,k,el,l,h1,h2,h3,h4,h5,h6,e⟩:=jL_ P T
 ·rw[e] at h;cases h
 ·unfold tabA
  rw[h1,h2];cases d with
  |array n e'=>cases h4
  |_=>rfl
theorem bX_ (P:Program)(T:Nat):(tabA P T).mkey=none:=by
 grind [zc_,jL_]
theorem yQ_ (P:Program):TabOk P (tabA P) where
 mkey T q h:=by rw[bX_] at h;cases h
 dflt T h:=by
  obtain e |e |⟨i,n,el,z,h1,h2,h3,h4,h5,h6,e⟩:=zc_ P T
  ·rw[e] at h⊢;exact(wP_ P).dflt T h
  ·exact e
  ·rw[e] at h;cases h
 info T h:=by
  obtain e |e |⟨i,n,el,z,h1,h2,h3,h4,h5,h6,e⟩:=zc_ P T
  ·rw[e] at h⊢;exact(wP_ P).info T h
  ·rw[e] at h;cases h
  ·rw[e]
   exact⟨i,z,h1,rfl,rfl,h3,by simp,by simpa using h4,(vZ_ h5).1,by rw[gT_];exact(vZ_ h5).2⟩
 kind T h:=by
  obtain e |e |⟨i,n,el,z,h1,h2,h3,h4,h5,h6,e⟩:=zc_ P T
  ·rw[e] at h⊢
   obtain⟨d,g1,g2⟩:=(wP_ P).kind T h;grind [wr_,jL_,u7_]
  ·rw[e] at h;cases h
  ·rw[e]
   refine⟨_,h2,rfl,by rw[fZ_ h6];exact h6,fun j p hp=> ?_⟩;simp only[List.getElem?_map,Option.map_eq_some_iff] at hp;obtain⟨j',hj,rfl⟩:=hp;rw[List.getElem?_eq_some_iff] at hj;obtain⟨_,hj⟩:=hj;simp only[List.getElem_range] at hj;subst hj;rw[fZ_ h6]
 flat T ks h xs ys b hb w:=by
  obtain e |e |⟨i,n,el,z,h1,h2,h3,h4,h5,h6,e⟩:=zc_ P T
  ·rw[e] at h;exact(wP_ P).flat T ks h xs ys b hb w
  ·rw[e] at h;cases h
  ·rw[e] at h;cases h
 guard T ks h:=by
  obtain e |e |⟨i,n,el,z,h1,h2,h3,h4,h5,h6,e⟩:=zc_ P T
  ·rw[e] at h;exact(wP_ P).guard T ks h
  ·rw[e] at h;cases h
  ·rw[e] at h;cases h
def ws_ (P:Program)(T:Nat):TI:=
 if (tabA P T).ok=true then tabA P T else match P.info? T,P.underlying T with
 |some i,some (.array n e)=>match i.zero with
  |some z=>if z.cells.size=i.size/\bW_ (.array n) z=true/\(tabA P e).ok=true then{ ok:=true,kind:=.array n,size:=i.size,bytes:=i.bytes,offs:=(List.range n).map fun j=>(j*(tabA P e).size,(tabA P e).size),elem:=e,zero:=z.cells.toList } else{}
  |none=>{}
 |_,_=>{}
theorem xF_ (P:Program)(T:Nat):ws_ P T=tabA P T\/ws_ P T={}\/∃i n e z,P.info? T=some i/\P.underlying T=some (.array n e)/\i.zero=some z/\z.cells.size=i.size/\bW_ (.array n) z=true/\(tabA P e).ok=true/\ws_ P T={ ok:=true,kind:=.array n,size:=i.size,bytes:=i.bytes,offs:=(List.range n).map fun j=>(j*(tabA P e).size,(tabA P e).size),elem:=e,zero:=z.cells.toList }:=by
 unfold ws_;grind
theorem yR_ {P:Program}{T:Nat}(h:(tabA P T).ok=true):ws_ P T=tabA P T:=by
 unfold ws_;rw[if_pos h]
theorem hY_ (P:Program)(T:Nat):(ws_ P T).mkey=none:=by
 grind [xF_,bX_]
theorem wQ_ (P:Program):TabOk P (ws_ P) where
 mkey T q h:=by rw[hY_] at h;cases h
 dflt T h:=by
  obtain e |e |⟨i,n,el,z,h1,h2,h3,h4,h5,h6,e⟩:=xF_ P T
  ·rw[e] at h⊢;exact(yQ_ P).dflt T h
  ·exact e
  ·rw[e] at h;cases h
 info T h:=by
  obtain e |e |⟨i,n,el,z,h1,h2,h3,h4,h5,h6,e⟩:=xF_ P T
  ·rw[e] at h⊢;exact(yQ_ P).info T h
  ·rw[e] at h;cases h
  ·rw[e]
   exact⟨i,z,h1,rfl,rfl,h3,by simp,by simpa using h4,(vZ_ h5).1,by rw[gT_];exact(vZ_ h5).2⟩
 kind T h:=by
  obtain e |e |⟨i,n,el,z,h1,h2,h3,h4,h5,h6,e⟩:=xF_ P T
  ·rw[e] at h⊢
   obtain⟨d,g1,g2⟩:=(yQ_ P).kind T h;grind [tabA,yR_]
  ·rw[e] at h;cases h
  ·rw[e]
   refine⟨_,h2,rfl,by rw[yR_ h6];exact h6,fun j p hp=> ?_⟩;simp only[List.getElem?_map,Option.map_eq_some_iff] at hp;obtain⟨j',hj,rfl⟩:=hp;rw[List.getElem?_eq_some_iff] at hj;obtain⟨_,hj⟩:=hj;simp only[List.getElem_range] at hj;subst hj;rw[yR_ h6]
 flat T ks h xs ys b hb w:=by
  obtain e |e |⟨i,n,el,z,h1,h2,h3,h4,h5,h6,e⟩:=xF_ P T
  ·rw[e] at h;exact(yQ_ P).flat T ks h xs ys b hb w
  ·rw[e] at h;cases h
  ·rw[e] at h;cases h
 guard T ks h:=by
  obtain e |e |⟨i,n,el,z,h1,h2,h3,h4,h5,h6,e⟩:=xF_ P T
  ·rw[e] at h;exact(yQ_ P).guard T ks h
  ·rw[e] at h;cases h
  ·rw[e] at h;cases h
def CkP (P:Program)(dd:Nat)(t:Nat)(ks:List TK):Prop:=
 ∀(w:World) (em:Bool) (xs:Array Value) (off:Nat),wfK ks ((xs.toList.drop off).take ks.length)=true->∃a,(part t xs off).run P w= .ok a w/\(Instr.checkKey em dd t a).run P w= .ok () w
def CkS (P:Program)(dd:Nat)(t:Nat)(ks:List TK):Prop:=
 ∀(w:World) (em:Bool) (xs:Array Value),wfK ks xs.toList=true->(Instr.checkKey em dd t (.agg xs)).run P w= .ok () w
theorem u9_:∀ {ks ls:List TK} {xs:List Value},wfK (ks++ls) xs=true->wfK ks (xs.take ks.length)=true/\wfK ls (xs.drop ks.length)=true
 |[],ls,xs,h=>⟨by simp[wfK],by simpa using h⟩
 |k::ks,ls,[],h=>by simp[wfK] at h
 |k::ks,ls,x::xs,h=>by
  simp only[List.cons_append,wfK,Bool.and_eq_true] at h;obtain⟨h1,h2⟩:=u9_ h.2;exact⟨by simp[wfK,h.1,h1],by simpa using h2⟩
theorem no_:∀ {ks:List TK} {xs:List Value},wfK ks xs=true->∃b,eqK ks xs xs=some b
 |[],[],_=>⟨true,rfl⟩
 |[],_::_,h=>by simp[wfK] at h
 |_::_,[],h=>by simp[wfK] at h
 |k::ks,x::xs,h=>by
  simp only[wfK,Bool.and_eq_true] at h;obtain⟨b,hb⟩:=no_ h.2
  have:∃c,eq1 k x x=some c:=by
   have:=h.1
   unfold wf1 at this;split at this
   ·exact⟨_,by rw[eq1,if_pos ⟨by simpa using this,by simpa using this⟩]⟩
   ·exact⟨_,rfl⟩
   ·exact⟨_,rfl⟩
   ·cases this
  obtain⟨c,hc⟩:=this;exact⟨c&&b,by simp[eqK,hc,hb]⟩
theorem f0_ {P:Program}{go:Nat->Option (List TK)}{dd:Nat}{em:Bool}(hgo:∀t ks,go t=some ks->CkP P dd t ks)(w:World)(xs:Array Value):∀(fs:List Field) (off:Nat) (ks:List TK),hX_ go off fs=some ks->wfK ks (xs.toList.drop off)=true->
  (forIn (m:=Sem) fs PUnit.unit fun(f:Field) (_:PUnit)=>do
   if f.name≠ "_" then Instr.checkKey em dd f.type (<-part f.type xs f.offset)
   pure (ForInStep.yield PUnit.unit)).run P w= .ok PUnit.unit w
 |[],off,ks,h,hw=>by simp
 |f::fs,off,ks,h,hw=>by
  unfold hX_ at h;split at h
  ·rename_i hn
   split at h
   ·rename_i k1 h1
    split at h
    ·rename_i k2 h2
     cases h;obtain⟨h3,h4⟩:=u9_ hw;obtain⟨a,e1,e2⟩:=hgo _ _ h1 w em xs off h3;rw[List.drop_drop] at h4;have ih:=f0_ (em:=em) hgo w xs fs (off+k1.length) k2 h2 h4;simp_all
    ·cases h
   ·cases h
  ·cases h
theorem f1_ {P:Program}(n:Nat):∀(d t:Nat) (ks:List TK),flatK P d t=some ks->CkP P (n+d) t ks/\((∃fs,P.underlying t=some (.struct fs))->CkS P (n+d) t ks)
 |0,t,ks,h=>by cases h
 |d+1,t,ks,h=>by
  have hE:=k6_ n (d+1) t ks h;have one:∀(dsc:TypeDesc) (k:TK),P.underlying t=some dsc->(dsc= .bool\/dsc= .string\/∃q,dsc= .int q)->CkP P (n+(d+1)) t ks/\((∃fs,P.underlying t=some (.struct fs))->CkS P (n+(d+1)) t ks):=by
   intro dsc k hu hk;refine⟨fun w em xs off hw=> ?_,fun⟨fs,hs⟩=> ?_⟩
   ·obtain⟨b,hb⟩:=no_ hw
    obtain⟨a,c,e1,_,_⟩:=hE.1 w xs xs off b hb;refine⟨a,e1,?_⟩;rw[show n+(d+1)=(n+d)+1 from rfl];rcases hk with rfl |rfl |⟨q,rfl⟩<;>simp[Instr.checkKey,run_underlying hu]
   ·grind
  unfold flatK at h;split at h
  ·simp_all
  ·simp_all
  ·simp_all
  ·rename_i fs hu
   split at h
   ·rename_i hg
    split at h
    ·rename_i i l hi hl
     split at h
     ·rename_i hsz
      cases h;have hs:CkS P (n+(d+1)) t ks:=by
       intro w em xs hw;rw[show n+(d+1)=(n+d)+1 from rfl,Instr.checkKey];simp only[Sem.run_bind,run_underlying hu,Result.andThen_ok];rw[<-Array.forIn_toList]
       have:=f0_ (em:=em) (fun t' ks' h'=>(f1_ n d t' ks' h').1) w xs fs.toList 0 ks hl (by simpa using hw)
       simp at this⊢;rw[this];rfl
      refine⟨fun w em xs off hw=> ?_,fun _=>hs⟩;obtain⟨b,hb⟩:=no_ hw;have hc:P.cellsOf t=ks.length:=by simp[Program.cellsOf,hi,hsz]
      have ex:(xs.extract off (off+ks.length)).toList=(xs.toList.drop off).take ks.length:=by
       rw[Array.toList_extract];simp[List.extract]
      exact⟨.agg (xs.extract off (off+ks.length)),by simp[part,isAgg,run_underlying hu,run_sizeOf w hi,hc],hs w em _ (by rw[ex];exact hw)⟩
     ·cases h
    ·cases h
   ·cases h
  ·cases h
def keyOf (P:Program)(kt:Nat):Option (Bool × List TK):=match P.underlying kt with
 |some .string=>some (false,[.string])
 |some (.int k)=>some (false,[.int k])
 |some .bool=>some (false,[.bool])
 |some (.struct _)=>(flatK P 20 kt).map fun ks=>(true,ks)
 |_=>none
def f2_ (P:Program)(T:Nat):Option (Bool × List TK):=if (ws_ P T).kind= .map then match P.underlying T with
 |some (.map kt e)=>if (ws_ P e).ok=true/\e=(ws_ P T).elem then keyOf P kt else none
 |_=>none else none
def tabP (P:Program)(T:Nat):TI:={ ws_ P T with mkey:=f2_ P T }
theorem f3_ {k:TK}{x y:Value}(h:eq1 k x y=some true):y=x:=by
 unfold eq1 at h;split at h
 ·grind
 ·rename_i a b
  simp only[Option.some.injEq] at h;rw[(MapKept.bytes_beq a b).1 h]
 ·grind
 ·cases h
theorem f4_:∀ {ks:List TK} {xs ys:List Value},eqK ks xs ys=some true->ys=xs
 |[],[],[],_=>rfl
 |[],[],_::_,h=>by simp[eqK] at h
 |[],_::_,_,h=>by simp[eqK] at h
 |_::_,[],_,h=>by simp[eqK] at h
 |_::_,_::_,[],h=>by simp[eqK] at h
 |k::ks,x::xs,y::ys,h=>by
  simp only[eqK] at h;split at h
  ·rename_i b c h1 h2
   simp only[Option.some.injEq,Bool.and_eq_true] at h;obtain⟨rfl,rfl⟩:=h;rw[f3_ h1,f4_ h2]
  ·cases h
theorem f5_ {k:TK}{x:Value}(h:wf1 k x=true)(n:Nat):Instr.sameBits n x x=true:=by
 unfold wf1 at h;grind [Instr.sameBits,MapKept.bytes_beq]
theorem f6_ (n:Nat):∀ {ks:List TK} {xs:List Value},wfK ks xs=true->((xs.zip xs).all fun(x,y)=>Instr.sameBits n x y)=true
 |[],[],_=>rfl
 |[],_::_,h=>by simp[wfK] at h
 |_::_,[],h=>by simp[wfK] at h
 |k::ks,x::xs,h=>by
  simp only[wfK,Bool.and_eq_true] at h;simp[f5_ h.1 n];simpa using f6_ n h.2
theorem hZ_ {P:Program}{kt:Nat}{d:TypeDesc}{k:TK}{x:Value}(hu:P.underlying kt=some d)(hd:∀y b,eq1 k x y=some b->Instr.sameNow d x y=some b)(ens:List MapEntry)(r:Option Nat)(h:kR_ (false,[k]) x (ens.map (·.key))=some r)(w:World):
  (Instr.findKey kt x ens).run P w= .ok (r.bind fun i=>(ens[i]?).map fun e=>(i,e.val)) w:=by
 refine MapKept.run_findKey hu ?_
 have:∀(ens:List MapEntry) (r:Option Nat) (j:Nat),kR_ (false,[k]) x (ens.map (·.key))=some r->Instr.findNow d x ens j=some (r.bind fun i=>(ens[i]?).map fun e=>(j+i,e.val)):=by
  intro ens;induction ens with
  |nil=>intro r j h;cases h;rfl
  |cons e es ih=>
   intro r j h;rw[List.map_cons] at h;unfold kR_ at h;split at h
   ·rename_i hk
    cases h;simp[Instr.findNow,hd _ _ hk]
   ·rename_i hk
    simp only[Instr.findNow,hd _ _ hk];split at h
    ·grind
    ·rename_i o hn
     rw[ih _ (j+1) h];cases r with
     |none=>rfl
     |some i=>exact absurd h (hn i)
   ·cases h
 simpa using this ens r 0 h
theorem np_ {P:Program}{kt:Nat}{fs:Array Field}{ks:List TK}{xs:Array Value}(hu:P.underlying kt=some (.struct fs))(hE:∀ys b,eqK ks xs.toList ys=some b->∀w,(Op.equal kt (.agg xs) (.agg ys.toArray)).run P w= .ok b w)(ens:List MapEntry)(r:Option Nat)(h:kR_ (true,ks) (.agg xs) (ens.map (·.key))=some r)(w:World):
  (Instr.findKey kt (.agg xs) ens).run P w= .ok (r.bind fun i=>(ens[i]?).map fun e=>(i,e.val)) w:=by
 rw[run_findKey_eq (P:=P) w (by simp[hu])]
 have:∀(ens:List MapEntry) (r:Option Nat) (j:Nat),kR_ (true,ks) (.agg xs) (ens.map (·.key))=some r->(Instr.findAsking kt (.agg xs) ens j).run P w= .ok (r.bind fun i=>(ens[i]?).map fun e=>(j+i,e.val)) w:=by
  intro ens;induction ens with
  |nil=>intro r j h;cases h;simp[Instr.findAsking]
  |cons e es ih=>
   intro r j h;rw[List.map_cons] at h;have hk':∀b,yo_ (true,ks) (.agg xs) e.key=some b->(Op.equal kt (.agg xs) e.key).run P w= .ok b w:=by
    intro b hb;cases hkey:e.key with
    |agg ys=>rw[hkey] at hb;exact hE ys.toList b hb w
    |_=>rw[hkey] at hb;cases hb
   unfold kR_ at h;split at h
   ·rename_i hk
    cases h;simp[Instr.findAsking,hk' _ hk]
   ·rename_i hk
    simp only[Instr.findAsking,Sem.run_bind,hk' _ hk,Result.andThen_ok,Bool.false_eq_true,if_false];split at h
    ·grind
    ·rename_i o hn
     rw[ih _ (j+1) h];cases r with
     |none=>rfl
     |some i=>exact absurd h (hn i)
   ·cases h
 simpa using this ens r 0 h
theorem rM_ {P:Program}{kt:Nat}{q:Bool × List TK}(h:keyOf P kt=some q)(x:Value)(hw:xQ_ q x=true):(∀w e,(Instr.checkKey e 10000 kt x).run P w= .ok () w)/\
  (∀y,yo_ q x y=some true->y=x/\Instr.sameBits 10000 x x=true)/\∀(ens:List MapEntry) (r:Option Nat),kR_ q x (ens.map (·.key))=some r->∀w,(Instr.findKey kt x ens).run P w= .ok (r.bind fun i=>(ens[i]?).map fun e=>(i,e.val)) w:=by
 have plain:∀(d:TypeDesc) (k:TK),P.underlying kt=some d->((d= .string/\k= .string)\/(d= .bool/\k= .bool)\/∃i,d= .int i/\k= .int i)->wf1 k x=true->(∀w e,(Instr.checkKey e 10000 kt x).run P w= .ok () w)/\
  (∀y,yo_ (false,[k]) x y=some true->y=x/\Instr.sameBits 10000 x x=true)/\∀(ens:List MapEntry) (r:Option Nat),kR_ (false,[k]) x (ens.map (·.key))=some r->∀w,(Instr.findKey kt x ens).run P w= .ok (r.bind fun i=>(ens[i]?).map fun e=>(i,e.val)) w:=by
  intro d k hu hdk hw;refine⟨fun w e=> ?_,fun y hy=>⟨f3_ hy,f5_ hw _⟩,fun ens r hr w=>hZ_ hu (fun y b hy=> ?_) ens r hr w⟩
  ·have:∀n,(Instr.checkKey e (n+1) kt x).run P w= .ok () w:=fun n=>by
    rcases hdk with⟨rfl,_⟩ |⟨rfl,_⟩ |⟨i,rfl,_⟩<;>simp[Instr.checkKey,run_underlying hu]
   exact this 9999
  ·rcases hdk with⟨rfl,rfl⟩ |⟨rfl,rfl⟩ |⟨i,rfl,rfl⟩<;>(unfold eq1 at hy;split at hy<;>simp_all [Instr.sameNow]<;>(grind))
 unfold keyOf at h;split at h
 ·rename_i hu;cases h;exact plain _ _ hu (.inl ⟨rfl,rfl⟩) hw
 ·rename_i k hu;cases h;exact plain _ _ hu (.inr (.inr ⟨k,rfl,rfl⟩)) hw
 ·rename_i hu;cases h;exact plain _ _ hu (.inr (.inl ⟨rfl,rfl⟩)) hw
 ·rename_i fs hu
  rw[Option.map_eq_some_iff] at h;obtain⟨ks,h1,rfl⟩:=h;cases x with
  |agg xs=>
   have hc:=(f1_ 9980 20 kt ks h1).2 ⟨fs,hu⟩;have he:=(k6_ 9980 20 kt ks h1).2 ⟨fs,hu⟩;refine⟨fun w e=>hc w e xs hw,fun y hy=> ?_,fun ens r hr w=>np_ hu (fun ys b hb w=>he w xs ys.toArray b (by simpa using hb)) ens r hr w⟩;cases y with
   |agg ys=>
    have:=f4_ hy
    have e:ys=xs:=by apply Array.ext';exact this
    subst e;refine⟨rfl,?_⟩;have hb:=f6_ 9999 hw;show(ys.size==ys.size&&(ys.toList.zip ys.toList).all fun(x,y)=>Instr.sameBits 9999 x y)=true;grind
   |_=>cases hy
  |_=>cases hw
 ·cases h
theorem t5_ (P:Program):TabOk P (tabP P) where
 dflt T h:=by
  have h1:ws_ P T={}:=(wQ_ P).dflt T h;unfold tabP f2_;rw[h1];rfl
 info T h:=(wQ_ P).info T h
 kind T h:=(wQ_ P).kind T h
 flat T ks h:=(wQ_ P).flat T ks h
 guard T ks h:=(wQ_ P).guard T ks h
 mkey T q h:=by
  have h:f2_ P T=some q:=h;unfold f2_ at h;split at h
  ·split at h
   ·rename_i kt e hu
    split at h
    ·rename_i hc
     refine⟨kt,?_,?_,fun x hx=>rM_ h x hx⟩
     ·rw[hu,hc.2];rfl
     ·show(ws_ P (ws_ P T).elem).ok=true
      rw[<-hc.2];exact hc.1
    ·cases h
   ·cases h
  ·cases h
end
section
open Go.RowKit
end
section
theorem qh_ (fr:Fr):∀t,noFr t= .un\/noFr t=fr t:=fun _=>.inl rfl
theorem qa_ {k:Nat}{x:AV}{fr' fr:Fr}(h:fr k=x)(hw:∀t,fr' t= .un\/fr' t=fr t):∀t,upd k x fr' t= .un\/upd k x fr' t=fr t:=fun t=>by
 unfold upd;grind
theorem nq_ (hp:Hp):∀i,hp i=none\/hp i=hp i:=fun _=>.inr rfl
end
section
attribute [go_sem] Option.map_some Option.map_none List.length_map and_self and_true true_and TI.agg
end
section
theorem jM_ {tab:Nat->TI}{rs:Array ResultVar}{R:AV->Hp->Nat->Prop}{s:St}{v:AV}(h1:resA tab rs s=some v)(h2:R v s.hp s.nx):EndW tab rs R .ret s:=⟨v,s.hp,h1,⟨fun _=>.inr rfl⟩,h2⟩
theorem xM_ {tab:Nat->TI}{rs:Array ResultVar}{d d':D}{fr b:Bool}{is:List Nat}{s:St}{v:AV}(h1:resA tab rs s=some v)(h2:toR s.hp v=some (d',b,is))(h3:d'=d)(h4:fr=true->b=false):EndW tab rs (EndP d fr) .ret s:=
 jM_ h1 ⟨b,is,by rw[h2,h3],h4⟩
end
section
attribute [go_sem] List.getD_cons_zero List.getD_cons_succ List.getElem?_cons_zero List.getElem?_cons_succ List.getElem?_nil List.take_succ_cons List.take_zero List.drop_succ_cons List.drop_zero List.set_cons_zero List.set_cons_succ sub setL yn_ Nat.zero_add Nat.add_zero
end
section
attribute [go_sem] resA u5_ bM_ Bool.false_eq_true
end
section
@[go_sem] theorem cont_nil {P:Program}{tab:Nat->TI}{Q:Ex->St->Prop}{e:Ex}{s:St}:cont P tab [] Q e s=Q e s:=rfl
attribute [go_sem] Nat.mul_one
end
section
open Go.RowKit
def gAt (ops:Array Oper)(j:Nat):Option Nat:=(ops[j]?).bind (·.dst)
def onGx (o:Option Nat)(f:Nat->Prop)(g:Prop):Prop:=match o with
 |some d=>f d
 |none=>g
section
variable {P:Program}{tab:Nat->TI}{ops:Array Oper}{nx0 nx i j:Nat}{k:List It}{Q:Ex->St->Prop}{r:List Oper}{s:St}{dst:Option Nat}{acc:List Rec}{fr:Fr}{hp:Hp}{op:Op}{T:TypeId}{pos:String}{after:Array Edge}{t:Bool}
theorem yS_:Rt P tab ops nx0 k Q i (⟨dst,op,T,pos,after,some (j,t)⟩::r) s=onGx (gAt ops j) (fun d=>onG P tab ops nx0 k Q i r dst s op t (s.fr d)) (Rt P tab ops nx0 k Q (i+1) r ⟨putS dst (.tu []) s.fr,s.hp,s.nx⟩):=by
 cases hd:gAt ops j with
 |some d=>exact rA_ hd
 |none=>
  have e:(ops[j]?).bind (·.dst)=none:=hd
  conv=>lhs;unfold Rt WT xC_
  simp only[e];rfl
theorem yT_:Rd P tab ops nx0 nx k Q i (⟨dst,op,T,pos,after,some (j,t)⟩::r) acc fr hp=onGx (gAt ops j) (fun d=>onGD P tab ops nx0 nx k Q i r dst acc fr hp op t (fr d)) (Rd P tab ops nx0 nx k Q (i+1) r (⟨[],[],false⟩::acc) (putS dst (.tu []) fr) hp):=by
 cases hd:gAt ops j with
 |some d=>exact rB_ hd
 |none=>
  have e:(ops[j]?).bind (·.dst)=none:=hd
  conv=>lhs;unfold Rd WD xC_
  simp only[e];rfl
end
@[go_sem] theorem z1_ (d:Nat)(f:Nat->Prop)(g:Prop):onGx (some d) f g=f d:=rfl
attribute [go_sem] gAt List.getElem?_toArray Option.bind_some
end
section
@[go_sem] theorem chk_nil (n:Nat):chk n []=true:=rfl
@[go_sem] theorem chk_cons (n:Nat)(c:List D)(r:List (List D)):chk n (c::r)=((c.length==n)&&chk n r):=rfl
@[go_sem] theorem frz_nil (hp:Hp):frz hp []= []:=rfl
@[go_sem] theorem ao_:zV_ []=true:=rfl
attribute [go_sem] List.range_zero List.range_succ xl_ List.map_append List.length_append List.take_append_drop
end
section
section
variable (tab:Nat->TI)(hp:Hp)(op:BinOp)(T:Nat)
@[go_sem] theorem binH_v (a:Value)(y:AV):binH tab hp op T (.v a) y=bin tab op T (.v a) y:=rfl
@[go_sem] theorem binH_d (a:D)(b:Bool)(y:AV):binH tab hp op T (.d a b) y=bin tab op T (.d a b) y:=rfl
@[go_sem] theorem binH_ag (a:List AV)(y:AV):binH tab hp op T (.ag a) y=bin tab op T (.ag a) y:=rfl
@[go_sem] theorem binH_pt (i o:Nat)(y:AV):binH tab hp op T (.pt i o) y=bin tab op T (.pt i o) y:=rfl
theorem t6_ (i v o n:Nat):binH tab hp op T (.so i v o n) (.v (.slice none 0 0))=match hp i with
  |some (.rw _ _ ver _ _)=>if v=ver/\(tab T).kind= .slice then eqF op else none
  |_=>none:=rfl
@[go_sem] theorem nilV_int (k k':IntKind)(a b:Int):nilV tab T op (.int k a) (.int k' b)=binV op (.int k a) (.int k' b):=rfl
@[go_sem] theorem nilV_str (a b:ByteArray):nilV tab T op (.string a) (.string b)=binV op (.string a) (.string b):=rfl
@[go_sem] theorem nilV_sl:nilV tab T op (.slice none 0 0) (.slice none 0 0)=if (tab T).kind= .slice then match op with
  | .eql=>some (.bool true)
  | .neq=>some (.bool false)
  |_=>none else none:=rfl
@[go_sem] theorem nilV_pt:nilV tab T op (.pointer none) (.pointer none)=if (tab T).kind= .ptr then match op with
  | .eql=>some (.bool true)
  | .neq=>some (.bool false)
  |_=>none else none:=rfl
end
attribute [go_sem] t6_ eqF fE_ isMo keyA wk_ isV1 mC_ Option.isSome_some Option.getD_some
end
section
section
variable (ρ:Operand->AV)
@[go_sem] theorem idsA_v (x:Value):idsA (.v x)= []:=rfl
@[go_sem] theorem idsA_d (x:D)(b:Bool):idsA (.d x b)= []:=rfl
@[go_sem] theorem idsA_ag (x:List AV):idsA (.ag x)=idsL x:=rfl
@[go_sem] theorem idsA_pt (i o:Nat):idsA (.pt i o)= [i]:=rfl
@[go_sem] theorem idsA_pr (i v k o:Nat):idsA (.pr i v k o)= [i]:=rfl
@[go_sem] theorem idsA_so (i v k o:Nat):idsA (.so i v k o)= [i]:=rfl
@[go_sem] theorem idsA_mo (i:Nat):idsA (.mo i)= [i]:=rfl
@[go_sem] theorem idsA_fn (f:FuncId)(x:List AV):idsA (.fn f x)=idsL x:=rfl
@[go_sem] theorem idsL_nil:idsL []= []:=rfl
@[go_sem] theorem idsL_cons (x:AV)(r:List AV):idsL (x::r)=idsA x++idsL r:=rfl
@[go_sem] theorem ap_ (x:Operand):qG_ ρ (.move x)= []:=rfl
@[go_sem] theorem sX_ (x:Operand):qG_ ρ (.assign x)= []:=rfl
@[go_sem] theorem aq_ (x y z:Operand):qG_ ρ (.pick x y z)= []:=rfl
@[go_sem] theorem t7_ (T:TypeId):qG_ ρ (.alloc T)= []:=rfl
@[go_sem] theorem idsOp_box (T:TypeId)(x:Operand):qG_ ρ (.box T x)= []:=rfl
@[go_sem] theorem t8_ (T:TypeId)(ps:Array (Nat × Operand)):qG_ ρ (.build T ps)= []:=rfl
@[go_sem] theorem idsOp_nil (x:Operand):qG_ ρ (.nilCheck x)= []:=rfl
@[go_sem] theorem idsOp_un (o:UnOp)(T:TypeId)(x:Operand):qG_ ρ (.unOp o T x)= []:=rfl
@[go_sem] theorem idsOp_fa (T:TypeId)(x:Operand)(f:Nat):qG_ ρ (.fieldAddr T x f)= []:=rfl
@[go_sem] theorem idsOp_ext (x:Operand)(f:Nat):qG_ ρ (.extract x f)= []:=rfl
@[go_sem] theorem idsOp_mf (f:Fn)(x y:Array Operand):qG_ ρ (.makeFunc f x y)= []:=rfl
@[go_sem] theorem ar_ (T:TypeId)(x:Operand):qG_ ρ (.load T x)=idsA (ρ x):=by simp[qG_,vq_,Op.operands,idsL]
@[go_sem] theorem t9_ (T:TypeId)(x y:Operand):qG_ ρ (.store T x y)=idsA (ρ x)++idsA (ρ y):=by simp[qG_,vq_,Op.operands,idsL]
@[go_sem] theorem idsOp_bin (o:BinOp)(T S:TypeId)(x y:Operand):qG_ ρ (.binOp o T x y S)=idsA (ρ x)++idsA (ρ y):=by simp[qG_,vq_,Op.operands,idsL]
@[go_sem] theorem idsOp_ia (T:TypeId)(x y:Operand):qG_ ρ (.indexAddr T x y)=idsA (ρ x)++idsA (ρ y):=by simp[qG_,vq_,Op.operands,idsL]
@[go_sem] theorem idsOp_lk (T:TypeId)(x y:Operand)(b:Bool):qG_ ρ (.lookup T x y b)=idsA (ρ x)++idsA (ρ y):=by simp[qG_,vq_,Op.operands,idsL]
@[go_sem] theorem idsOp_sl (T:TypeId)(x:Operand)(l h:Option Operand):qG_ ρ (.slice T x l h none)=idsA (ρ x)++(idsL ((l.toList).map ρ)++idsL ((h.toList).map ρ)):=by
 cases l<;>cases h<;>simp[qG_,vq_,Op.operands,idsL]
@[go_sem] theorem idsOp_bs (T:TypeId)(n:Nat)(ps:Array (Nat × Operand)):qG_ ρ (.buildSlice T n ps)=idsL (ps.toList.map fun p=>ρ p.2):=by simp[qG_,vq_,Op.operands,Function.comp_def]
@[go_sem] theorem idsOp_bi (b:Builtin)(xs:Array Operand)(ts:Array TypeId):qG_ ρ (.call { callee:=.builtin b,args:=xs,argTypes:=ts })=idsL (xs.toList.map ρ):=by simp[qG_,vq_,Op.operands,Call.operands]
@[go_sem] theorem as_ (f:Operand)(xs:Array Operand)(ts:Array TypeId):qG_ ρ (.call { callee:=.value f,args:=xs,argTypes:=ts })=idsA (ρ f)++idsL (xs.toList.map ρ):=by simp[qG_,vq_,Op.operands,Call.operands,idsL]
end
attribute [go_sem] Option.toList_some Option.toList_none
section
variable {P:Program}{tab:Nat->TI}{ops:Array Oper}{nx0 nx i:Nat}{k:List It}{Q:Ex->St->Prop}{acc:List Rec}{fr:Fr}{hp:Hp}
theorem qj_ (h1:yM_ ops acc.reverse=true)(h2:run P tab k Q ⟨fr,hp,nx⟩):Rd P tab ops nx0 nx k Q i [] acc fr hp:=⟨wM_ h1,h2⟩
end
end
section
section
variable {P:Program}{tab:Nat->TI}{ops:Array Oper}{nx0 nx i j:Nat}{k:List It}{Q:Ex->St->Prop}{r:List Oper}{s:St}{dst:Option Nat}{acc:List Rec}{fr:Fr}{hp:Hp}{op:Op}{T:TypeId}{pos:String}{after:Array Edge}{t:Bool}
theorem v0_ (h:(gAt ops j).isSome=true):gAt ops j=some ((gAt ops j).getD 0):=by
 cases e:gAt ops j with
 |none=>rw[e] at h;cases h
 |some d=>rfl
@[go_sem] theorem Rt_gY (h1:(gAt ops j).isSome=true)(h2:s.fr ((gAt ops j).getD 0)= .v (.bool t)):Rt P tab ops nx0 k Q i (⟨dst,op,T,pos,after,some (j,t)⟩::r) s=onOp P tab ops nx0 k Q i r dst s op:=by
 rw[yS_,v0_ h1,z1_,h2];simp[onG]
@[go_sem] theorem Rt_gN (h1:(gAt ops j).isSome=true)(h2:s.fr ((gAt ops j).getD 0)= .v (.bool !t)):Rt P tab ops nx0 k Q i (⟨dst,op,T,pos,after,some (j,t)⟩::r) s=Rt P tab ops nx0 k Q (i+1) r ⟨putS dst (.tu []) s.fr,s.hp,s.nx⟩:=by
 rw[yS_,v0_ h1,z1_,h2];simp[onG]
@[go_sem] theorem Rt_gU (h1:(gAt ops j).isSome=true)(h2:s.fr ((gAt ops j).getD 0)= .tu []):Rt P tab ops nx0 k Q i (⟨dst,op,T,pos,after,some (j,t)⟩::r) s=Rt P tab ops nx0 k Q (i+1) r ⟨putS dst (.tu []) s.fr,s.hp,s.nx⟩:=by
 rw[yS_,v0_ h1,z1_,h2];rfl
@[go_sem] theorem Rd_gY (h1:(gAt ops j).isSome=true)(h2:fr ((gAt ops j).getD 0)= .v (.bool t)):Rd P tab ops nx0 nx k Q i (⟨dst,op,T,pos,after,some (j,t)⟩::r) acc fr hp=xE_ P tab ops nx0 nx k Q i r dst acc fr hp op:=by
 rw[yT_,v0_ h1,z1_,h2];simp[onGD]
@[go_sem] theorem Rd_gN (h1:(gAt ops j).isSome=true)(h2:fr ((gAt ops j).getD 0)= .v (.bool !t)):Rd P tab ops nx0 nx k Q i (⟨dst,op,T,pos,after,some (j,t)⟩::r) acc fr hp=Rd P tab ops nx0 nx k Q (i+1) r (⟨[],[],false⟩::acc) (putS dst (.tu []) fr) hp:=by
 rw[yT_,v0_ h1,z1_,h2];simp[onGD]
@[go_sem] theorem Rd_gU (h1:(gAt ops j).isSome=true)(h2:fr ((gAt ops j).getD 0)= .tu []):Rd P tab ops nx0 nx k Q i (⟨dst,op,T,pos,after,some (j,t)⟩::r) acc fr hp=Rd P tab ops nx0 nx k Q (i+1) r (⟨[],[],false⟩::acc) (putS dst (.tu []) fr) hp:=by
 rw[yT_,v0_ h1,z1_,h2];rfl
end
end
section
attribute [go_sem] wN_
end
section
end
end Go.Proofs.YtnmkbmefohakmaaGreat.Ab
