/-
 The walk of the machine, step by step.
-/
import Derived.DeepKeys
import Derived.WideKeyRuns
import Derived.Test.YtnmkbmefohakmaaGreatAbF
namespace Go.Proofs.YtnmkbmefohakmaaGreat.Ab
section
open Go.RowKit
def st_ (ops:Array Oper):Bool:=early ops&&(List.range ops.size).all fun j=>(List.range j).all fun i=>
 ((u9_ ops).getD j []).contains i||(match ops[i]?,ops[j]? with |some a,some b=> !x0_ ops a b |_,_=>true)
def hu_ (a:Rec):Bool:=a.ks.isEmpty&& !a.g
def hv_ (ps:List Nat)(b:Rec):Nat->List Rec->Bool
 |_,[]=>true
 |i,a::r=>(ps.contains i||(hu_ a&&hu_ b)|| !xK_ a b)&&hv_ ps b (i+1) r
def ut_ (rs:List Rec):List (List Nat)->Nat->List Rec->Bool
 |_,_,[]=>true
 |[],j,b::r=>hv_ [] b 0 (rs.take j)&&ut_ rs [] (j+1) r
 |p::ps,j,b::r=>hv_ p b 0 (rs.take j)&&ut_ rs ps (j+1) r
def yg_ (ops:Array Oper)(rs:List Rec):Bool:=st_ ops&&(rs.all hu_||ut_ rs (u9_ ops) 0 rs)
theorem yh_ {a b:Rec}(h:(hu_ a&&hu_ b)=true):xK_ a b=false:=by
 simp only[hu_,Bool.and_eq_true,List.isEmpty_iff,Bool.not_eq_true'] at h;obtain⟨⟨h1,h2⟩,h3,h4⟩:=h;simp[xK_,zq_,wild,h1,h2,h3,h4,meet]
theorem fx_ {ps:List Nat}{b:Rec}:∀ {l:List Rec} {n:Nat},hv_ ps b n l=true->∀(i:Nat) (a:Rec),l[i]? =some a->xK_ a b=false\/(n+i)∈ps
 |[],n,h,i,a,e=>by simp at e
 |c::r,n,h,i,a,e=>by
  simp only[hv_,Bool.and_eq_true,Bool.or_eq_true,Bool.not_eq_true'] at h;cases i with
  |zero=>
   grind [List.getElem?_cons_zero,Option.some.injEq,yh_]
  |succ i=>
   have:=fx_ h.2 i a (by simpa using e)
   grind
theorem yi_ {rs:List Rec}:∀ {l:List Rec} {ps:List (List Nat)} {n:Nat},ut_ rs ps n l=true->∀(j:Nat) (b:Rec),l[j]? =some b->hv_ (ps.getD j []) b 0 (rs.take (n+j))=true
 |[],ps,n,h,j,b,e=>by simp at e
 |c::r,[],n,h,j,b,e=>by
  simp only[ut_,Bool.and_eq_true] at h;cases j with
  |zero=>grind
  |succ j=>
   have:=yi_ h.2 j b (by simpa using e)
   grind
 |c::r,p::ps,n,h,j,b,e=>by
  simp only[ut_,Bool.and_eq_true] at h;cases j with
  |zero=>grind
  |succ j=>
   have:=yi_ h.2 j b (by simpa using e)
   grind
theorem va_ {ops:Array Oper}{rs:List Rec}(h:yg_ ops rs=true):vY_ ops rs=true:=by
 simp only[yg_,st_,Bool.and_eq_true,Bool.or_eq_true] at h;obtain⟨⟨h1,h2⟩,h3⟩:=h;simp only[vY_,Bool.and_eq_true];refine⟨h1,?_⟩;unfold wU_;refine List.all_eq_true.2 fun j hj=>List.all_eq_true.2 fun i hi=> ?_;have h4:=List.all_eq_true.1 (List.all_eq_true.1 h2 j hj) i hi;rw[Bool.or_eq_true] at h4⊢;rcases h4 with h4 |h4
 ·exact .inl h4
 ·cases ha:rs[i]? with
  |none=>grind
  |some a=>
   cases hb:rs[j]? with
   |none=>grind
   |some b=>
    have hij:=List.mem_range.1 hi;rcases h3 with h3 |h3
    ·have e1:=List.all_eq_true.1 h3 a (List.mem_of_getElem? ha)
     have e2:=List.all_eq_true.1 h3 b (List.mem_of_getElem? hb);exact .inr (Bool.and_eq_true _ _▸⟨h4,by simp[yh_ (a:=a) (b:=b) (by rw[e1,e2];rfl)]⟩)
    rcases fx_ (yi_ h3 j b hb) i a (by grind) with h5 |h5
    ·grind
    grind
inductive It where
 |c (x:Code)
 |blk (n:Nat)
 |lp (X:St->Prop)
section
variable (P:Program)(tab:Nat->TI)
def WT (ops:Array Oper)(nx0:Nat)(K:St->Prop):Nat->List Oper->St->Prop
 |_,[],s=>K s
 |i,o::r,s=>j3_ ops o s (wh_ P tab o.op (nx0+i) s fun v hp nx=>WT ops nx0 K (i+1) r ⟨putS o.dst v s.fr,hp,nx⟩) (WT ops nx0 K (i+1) r ⟨putS o.dst (.tu []) s.fr,s.hp,s.nx⟩)
def W2:Code->(Ex->St->Prop)->St->Prop
 | .skip,Q,s=>Q .normal s
 | .label _,Q,s=>Q .normal s
 | .ret,Q,s=>Q .ret s
 | .exit n,Q,s=>Q (.exit n) s
 | .seq a b,Q,s=>W2 a (fun e s'=>match e with | .normal=>W2 b Q s' |e=>Q e s') s
 | .cond c a b,Q,s=>match ev s.fr c with
  | .v (.bool t)=>(t=true->W2 a Q s)/\(t=false->W2 b Q s)
  |_=>False
 | .block n a,Q,s=>W2 a (fun e s'=>match e with | .exit m=>if m=n then Q .normal s' else Q (.exit m) s' |e=>Q e s') s
 | .region _ ops draw,Q,s=>match draw with
  |false=>WT P tab ops s.nx (Q .normal) 0 ops.toList ⟨s.fr,s.hp,s.nx+ops.size⟩
  |true=>WD P tab ops s.nx (Q .normal) (s.nx+ops.size) 0 ops.toList [] s.fr s.hp
 | .loop a,Q,s=>∀X:St->Prop,(∀s0,W2 a (fun e s'=>match e with | .normal=>X s' |e=>Q e s') s0->X s0)->(∀s1 s2,WeakR s.nx s1 s2->X s1->X s2)->X s
 |_,_,_=>False
end
section
variable {P:Program}{tab:Nat->TI}
theorem WT_WL {ops:Array Oper}{nx0:Nat}{K:St->Prop}:∀(r:List Oper) (i:Nat) (s:St),(∀k,r[k]? =ops[i+k]?)->WT P tab ops nx0 K i r s->WL P tab ops nx0 K (List.range' i r.length) s
 |[],i,s,_,h=>h
 |o::r,i,s,hr,h=>by
  have h0:ops[i]? =some o:=by simpa using(hr 0).symm
  have hr':∀k,r[k]? =ops[i+1+k]? :=fun k=>by have:=hr (k+1);grind
  rw[List.length_cons,List.range'_succ];unfold WL;rw[h0];exact zJ_ h (fun h=>wQ_ h fun _ _ _ h=>WT_WL r (i+1) _ hr' h) fun h=>WT_WL r (i+1) _ hr' h
theorem wV_ {ops:Array Oper}{nx0:Nat}{K K':St->Prop}(hK:∀s,K s->K' s):∀(r:List Oper) (nx i:Nat) (acc:List Rec) (fr:Fr) (hp:Hp),WD P tab ops nx0 K nx i r acc fr hp->WD P tab ops nx0 K' nx i r acc fr hp
 |[],nx,i,acc,fr,hp,h=>⟨h.1,hK _ h.2⟩
 |o::r,nx,i,acc,fr,hp,h=>by
  unfold WD at *;refine zJ_ h (fun h=> ?_) fun h=>wV_ hK r _ _ _ _ _ h;unfold ht_ at *;split at h
  ·split at h
   ·rcases h with⟨ds,b,is,d,fr',h1,h2,h3,h4⟩ |⟨ids,v,δ,nx',h1,h2⟩
    ·exact .inl ⟨ds,b,is,d,fr',h1,h2,h3,wV_ hK r _ _ _ _ _ h4⟩
    ·exact .inr ⟨ids,v,δ,nx',h1,wV_ hK r _ _ _ _ _ h2⟩
   ·exact h.elim
  ·split at h
   ·exact wV_ hK r _ _ _ _ _ h
   ·exact h.elim
theorem dD_ (x:Operand)(y z:Code)(Q:Ex->St->Prop)(s:St):W2 P tab (.cond x y z) Q s=(match ev s.fr x with
  | .v (.bool t)=>(t=true->W2 P tab y Q s)/\(t=false->W2 P tab z Q s)
  |_=>False):=rfl
theorem W2_W:∀(code:Code) (Q Q':Ex->St->Prop) (s:St),(∀e s,Q e s->Q' e s)->W2 P tab code Q s->W P tab code Q' s:=by
 intro code;induction code with
 |region id ops draw=>
  intro Q Q' s hq h;cases draw with
  |false=>
   have:=WT_WL ops.toList 0 _ (by simp) (show WT P tab ops s.nx (Q .normal) 0 ops.toList ⟨s.fr,s.hp,s.nx+ops.size⟩ from h)
   rw[Array.length_toList,<-List.range_eq_range'] at this;exact u8_ (fun s h=>hq _ s h) _ _ this
  |true=>exact W_draw (id:=id) (Q:=Q') (wV_ (fun s h=>hq _ s h) _ _ _ _ _ _ h)
 |seq x y ihx ihy=>
  intro Q Q' s hq h;refine ihx _ _ s (fun e s h=> ?_) h;grind
 |cond x y z ihy ihz=>
  grind [dD_,W_cond]
 |block n x ih=>
  intro Q Q' s hq h;refine ih _ _ s (fun e s h=> ?_) h;grind
 |loop x ih=>
  intro Q Q' s hq h X h1 h2;refine h X (fun s h=>h1 s (ih _ _ s (fun e s h=> ?_) h)) h2;grind
 |skip=>exact fun Q Q' s hq h=>hq _ s h
 |label l=>exact fun Q Q' s hq h=>hq _ s h
 |ret=>exact fun Q Q' s hq h=>hq _ s h
 |exit n=>exact fun Q Q' s hq h=>hq _ s h
 |_=>exact fun Q Q' s hq h=>h.elim
theorem tf_:∀(code:Code) (Q Q':Ex->St->Prop) (s:St),(∀e s,Q e s->Q' e s)->W2 P tab code Q s->W2 P tab code Q' s:=by
 intro code;induction code with
 |region id ops draw=>
  intro Q Q' s hq h;cases draw with
  |false=>
   have:∀(r:List Oper) (i:Nat) (s0:St),WT P tab ops s.nx (Q .normal) i r s0->WT P tab ops s.nx (Q' .normal) i r s0:=by
    intro r;induction r with
    |nil=>exact fun i s0 h=>hq _ s0 h
    |cons o r ih=>exact fun i s0 h=>zJ_ h (fun h=>wQ_ h fun _ _ _ h=>ih _ _ h) fun h=>ih _ _ h
   exact this _ _ _ h
  |true=>exact wV_ (fun s h=>hq _ s h) _ _ _ _ _ _ h
 |seq x y ihx ihy=>
  intro Q Q' s hq h;refine ihx _ _ s (fun e s h=> ?_) h;grind
 |cond x y z ihy ihz=>
  grind [dD_]
 |block n x ih=>
  intro Q Q' s hq h;refine ih _ _ s (fun e s h=> ?_) h;grind
 |loop x ih=>
  intro Q Q' s hq h X h1 h2;refine h X (fun s h=>h1 s (ih _ _ s (fun e s h=> ?_) h)) h2;grind
 |skip=>exact fun Q Q' s hq h=>hq _ s h
 |label l=>exact fun Q Q' s hq h=>hq _ s h
 |ret=>exact fun Q Q' s hq h=>hq _ s h
 |exit n=>exact fun Q Q' s hq h=>hq _ s h
 |_=>exact fun Q Q' s hq h=>h.elim
end
section
variable (P:Program)(tab:Nat->TI)
def cont:List It->(Ex->St->Prop)->Ex->St->Prop
 |[],Q,e,s=>Q e s
 | .c x::k,Q,e,s=>match e with
  | .normal=>W2 P tab x (cont k Q) s
  | .ret=>cont k Q .ret s
  | .exit m=>cont k Q (.exit m) s
 | .blk n::k,Q,e,s=>match e with
  | .normal=>cont k Q .normal s
  | .ret=>cont k Q .ret s
  | .exit m=>if m=n then cont k Q .normal s else cont k Q (.exit m) s
 | .lp X::k,Q,e,s=>match e with
  | .normal=>X s
  | .ret=>cont k Q .ret s
  | .exit m=>cont k Q (.exit m) s
def run (k:List It)(Q:Ex->St->Prop)(s:St):Prop:=cont P tab k Q .normal s
def Rt (ops:Array Oper)(nx0:Nat)(k:List It)(Q:Ex->St->Prop)(i:Nat)(r:List Oper)(s:St):Prop:=WT P tab ops nx0 (fun s=>run P tab k Q s) i r s
def Rd (ops:Array Oper)(nx0 nx:Nat)(k:List It)(Q:Ex->St->Prop)(i:Nat)(r:List Oper)(acc:List Rec)(fr:Fr)(hp:Hp):Prop:=WD P tab ops nx0 (fun s=>run P tab k Q s) nx i r acc fr hp
def jH_ (ops:Array Oper)(nx0:Nat)(k:List It)(Q:Ex->St->Prop)(i:Nat)(r:List Oper)(dst:Option Nat)(s:St)(x:Option (AV × List (Nat × AO))):Prop:=
 match x with
 |some (v,δ)=>Rt P tab ops nx0 k Q i r ⟨putS dst v s.fr,upds δ s.hp,s.nx⟩
 |none=>False
def q7_ (ops:Array Oper)(nx0 nx:Nat)(k:List It)(Q:Ex->St->Prop)(i:Nat)(r:List Oper)(dst:Option Nat)(acc:List Rec)(ids:List Nat)(fr:Fr)(hp:Hp)(x:Option (AV × List (Nat × AO))):Prop:=
 match x with
 |some (v,δ)=>Rd P tab ops nx0 nx k Q i r (⟨ids,δ.map (·.1),false⟩::acc) (putS dst v fr) (upds δ hp)
 |none=>False
def wm_ (ops:Array Oper)(nx0:Nat)(k:List It)(Q:Ex->St->Prop)(i:Nat)(r:List Oper)(dst:Option Nat)(s:St)(f:AV)(vs:List AV):Prop:=
 ua_ P f vs s.hp s.nx fun v hp nx=>Rt P tab ops nx0 k Q i r ⟨putS dst v s.fr,hp,nx⟩
def vb_ (ops:Array Oper)(nx0 nx:Nat)(k:List It)(Q:Ex->St->Prop)(i:Nat)(r:List Oper)(dst:Option Nat)(acc:List Rec)(ids:List Nat)(fr:Fr)(hp:Hp)(f:AV)(vs:List AV):Prop:=
 match f with
 | .fn g caps=>(∃ds b is d fr',toDl hp (vs++caps)=some (ds,b,is)/\PureOK P g ds d fr'/\(is= []\/fr'=true)/\Rd P tab ops nx0 nx k Q i r (⟨ids,[],false⟩::acc) (putS dst (lift (!fr'&&b) d) fr) hp)\/
  ∃ids v δ nx',bi_ P g (vs++caps) hp nx ids v δ nx'/\Rd P tab ops nx0 nx' k Q i r (⟨ids,δ.map (·.1),true⟩::acc) (putS dst v fr) (upds δ hp)
 |_=>False
def onOp (ops:Array Oper)(nx0:Nat)(k:List It)(Q:Ex->St->Prop)(i:Nat)(r:List Oper)(dst:Option Nat)(s:St)(op:Op):Prop:=
 match op with
 | .call { callee:=.value f,args, .. }=>wm_ P tab ops nx0 k Q (i+1) r dst s (ev s.fr f) (args.toList.map (ev s.fr))
 |op=>jH_ P tab ops nx0 k Q (i+1) r dst s (qg_ tab (ev s.fr) s.hp (nx0+i) op)
def xo_ (ops:Array Oper)(nx0 nx:Nat)(k:List It)(Q:Ex->St->Prop)(i:Nat)(r:List Oper)(dst:Option Nat)(acc:List Rec)(fr:Fr)(hp:Hp)(op:Op):Prop:=
 match op with
 | .call { callee:=.value f,args, .. }=>vb_ P tab ops nx0 nx k Q (i+1) r dst acc (qz_ (ev fr) op) fr hp (ev fr f) (args.toList.map (ev fr))
 |op=>q7_ P tab ops nx0 nx k Q (i+1) r dst acc (qz_ (ev fr) op) fr hp (qg_ tab (ev fr) hp (nx0+i) op)
def onG (ops:Array Oper)(nx0:Nat)(k:List It)(Q:Ex->St->Prop)(i:Nat)(r:List Oper)(dst:Option Nat)(s:St)(op:Op)(t:Bool)(v:AV):Prop:=
 match v with
 | .v (.bool b)=>(b=t->onOp P tab ops nx0 k Q i r dst s op)/\(b= !t->Rt P tab ops nx0 k Q (i+1) r ⟨putS dst (.tu []) s.fr,s.hp,s.nx⟩)
 | .tu []=>Rt P tab ops nx0 k Q (i+1) r ⟨putS dst (.tu []) s.fr,s.hp,s.nx⟩
 |_=>False
def onGD (ops:Array Oper)(nx0 nx:Nat)(k:List It)(Q:Ex->St->Prop)(i:Nat)(r:List Oper)(dst:Option Nat)(acc:List Rec)(fr:Fr)(hp:Hp)(op:Op)(t:Bool)(v:AV):Prop:=
 match v with
 | .v (.bool b)=>(b=t->xo_ P tab ops nx0 nx k Q i r dst acc fr hp op)/\(b= !t->Rd P tab ops nx0 nx k Q (i+1) r (⟨[],[],false⟩::acc) (putS dst (.tu []) fr) hp)
 | .tu []=>Rd P tab ops nx0 nx k Q (i+1) r (⟨[],[],false⟩::acc) (putS dst (.tu []) fr) hp
 |_=>False
def onC (a b:Code)(k:List It)(Q:Ex->St->Prop)(s:St)(v:AV):Prop:=
 match v with
 | .v (.bool t)=>(t=true->run P tab (.c a::k) Q s)/\(t=false->run P tab (.c b::k) Q s)
 |_=>False
end
section
variable {P:Program}{tab:Nat->TI}{ops:Array Oper}{nx0 nx i n m id:Nat}{k:List It}{Q:Ex->St->Prop}{r:List Oper}{s:St}{dst:Option Nat}{acc:List Rec}{fr:Fr}{hp:Hp}{op:Op}{T:TypeId}{pos:String}{after:Array Edge}{a b:Code}{x:Operand}{t:Bool}{ids:List Nat}{v:AV}{δ:List (Nat × AO)}
theorem tg_:run P tab (.c (.seq a b)::k) Q s=run P tab (.c a:: .c b::k) Q s:=by
 have e:(fun e s'=>match e with | .normal=>W2 P tab b (cont P tab k Q) s' |e=>cont P tab k Q e s')=cont P tab (.c b::k) Q:=by
  funext e s';cases e<;>rfl
 show W2 P tab a _ s=W2 P tab a _ s;rw[e]
theorem mL_:run P tab (.c (.block n a)::k) Q s=run P tab (.c a:: .blk n::k) Q s:=by
 have e:(fun e s'=>match e with | .exit m=>if m=n then cont P tab k Q .normal s' else cont P tab k Q (.exit m) s' |e=>cont P tab k Q e s')=cont P tab (.blk n::k) Q:=by
  funext e s';cases e<;>rfl
 show W2 P tab a _ s=W2 P tab a _ s;rw[e]
theorem p4_:run P tab (.c .skip::k) Q s=run P tab k Q s:=rfl
theorem mM_:run P tab (.c (.label n)::k) Q s=run P tab k Q s:=rfl
theorem th_:run P tab (.blk n::k) Q s=run P tab k Q s:=rfl
theorem ti_:run P tab [] Q s=Q .normal s:=rfl
theorem run_lp {X:St->Prop}:run P tab (.lp X::k) Q s=X s:=rfl
theorem wn_:∀(k:List It),cont P tab k Q .ret s=Q .ret s
 |[]=>rfl
 | .c _::k=>wn_ k
 | .blk _::k=>wn_ k
 | .lp _::k=>wn_ k
theorem tj_:run P tab (.c .ret::k) Q s=Q .ret s:=wn_ k
theorem p5_:run P tab (.c (.exit m)::k) Q s=cont P tab k Q (.exit m) s:=rfl
theorem exit_c:cont P tab (.c a::k) Q (.exit m) s=cont P tab k Q (.exit m) s:=rfl
theorem tk_ {X:St->Prop}:cont P tab (.lp X::k) Q (.exit m) s=cont P tab k Q (.exit m) s:=rfl
theorem p6_:cont P tab (.blk n::k) Q (.exit m) s=if m=n then run P tab k Q s else cont P tab k Q (.exit m) s:=rfl
theorem p7_:run P tab (.c (.cond x a b)::k) Q s=onC P tab a b k Q s (ev s.fr x):=rfl
theorem p8_:onC P tab a b k Q s (.v (.bool true))=run P tab (.c a::k) Q s:=by simp[onC]
theorem mN_:onC P tab a b k Q s (.v (.bool false))=run P tab (.c b::k) Q s:=by simp[onC]
theorem yj_ {c:Bool}(h1:c=true->run P tab (.c a::k) Q s)(h2:c=false->run P tab (.c b::k) Q s):onC P tab a b k Q s (.v (.bool c)):=⟨h1,h2⟩
theorem hw_:run P tab (.c (.region id ops false)::k) Q s=Rt P tab ops s.nx k Q 0 ops.toList ⟨s.fr,s.hp,s.nx+ops.size⟩:=rfl
theorem dE_:run P tab (.c (.region id ops true)::k) Q s=Rd P tab ops s.nx (s.nx+ops.size) k Q 0 ops.toList [] s.fr s.hp:=rfl
theorem Rt_nil:Rt P tab ops nx0 k Q i [] s=run P tab k Q s:=rfl
theorem Rt_op:Rt P tab ops nx0 k Q i (⟨dst,op,T,pos,after,none⟩::r) s=onOp P tab ops nx0 k Q i r dst s op:=by
 rfl
theorem Rd_op:Rd P tab ops nx0 nx k Q i (⟨dst,op,T,pos,after,none⟩::r) acc fr hp=xo_ P tab ops nx0 nx k Q i r dst acc fr hp op:=by
 rfl
theorem mO_ {f:Operand}{args:Array Operand}{ty:Array TypeId}:onOp P tab ops nx0 k Q i r dst s (.call { callee:=.value f,args:=args,argTypes:=ty })=wm_ P tab ops nx0 k Q (i+1) r dst s (ev s.fr f) (args.toList.map (ev s.fr)):=rfl
theorem hx_ {f:Operand}{args:Array Operand}{ty:Array TypeId}:xo_ P tab ops nx0 nx k Q i r dst acc fr hp (.call { callee:=.value f,args:=args,argTypes:=ty })=vb_ P tab ops nx0 nx k Q (i+1) r dst acc (qz_ (ev fr) (.call { callee:=.value f,args:=args,argTypes:=ty })) fr hp (ev fr f) (args.toList.map (ev fr)):=rfl
theorem dF_:jH_ P tab ops nx0 k Q i r dst s (some (v,δ))=Rt P tab ops nx0 k Q i r ⟨putS dst v s.fr,upds δ s.hp,s.nx⟩:=rfl
theorem bm_:q7_ P tab ops nx0 nx k Q i r dst acc ids fr hp (some (v,δ))=Rd P tab ops nx0 nx k Q i r (⟨ids,δ.map (·.1),false⟩::acc) (putS dst v fr) (upds δ hp):=rfl
theorem p9_ {j d:Nat}(hd:(ops[j]?).bind (·.dst)=some d):Rt P tab ops nx0 k Q i (⟨dst,op,T,pos,after,some (j,t)⟩::r) s=onG P tab ops nx0 k Q i r dst s op t (s.fr d):=by
 unfold Rt WT j3_ onG;simp only[hd];rfl
theorem ra_ {j d:Nat}(hd:(ops[j]?).bind (·.dst)=some d):Rd P tab ops nx0 nx k Q i (⟨dst,op,T,pos,after,some (j,t)⟩::r) acc fr hp=onGD P tab ops nx0 nx k Q i r dst acc fr hp op t (fr d):=by
 unfold Rd WD j3_ onGD;simp only[hd];rfl
theorem tl_:onG P tab ops nx0 k Q i r dst s op t (.v (.bool t))=onOp P tab ops nx0 k Q i r dst s op:=by cases t<;>simp[onG]
theorem tm_:onG P tab ops nx0 k Q i r dst s op true (.v (.bool false))=Rt P tab ops nx0 k Q (i+1) r ⟨putS dst (.tu []) s.fr,s.hp,s.nx⟩:=by simp[onG]
theorem tn_:onG P tab ops nx0 k Q i r dst s op false (.v (.bool true))=Rt P tab ops nx0 k Q (i+1) r ⟨putS dst (.tu []) s.fr,s.hp,s.nx⟩:=by simp[onG]
theorem onG_un:onG P tab ops nx0 k Q i r dst s op t (.tu [])=Rt P tab ops nx0 k Q (i+1) r ⟨putS dst (.tu []) s.fr,s.hp,s.nx⟩:=rfl
theorem rb_:onGD P tab ops nx0 nx k Q i r dst acc fr hp op t (.v (.bool t))=xo_ P tab ops nx0 nx k Q i r dst acc fr hp op:=by cases t<;>simp[onGD]
theorem rc_:onGD P tab ops nx0 nx k Q i r dst acc fr hp op true (.v (.bool false))=Rd P tab ops nx0 nx k Q (i+1) r (⟨[],[],false⟩::acc) (putS dst (.tu []) fr) hp:=by simp[onGD]
theorem rd_:onGD P tab ops nx0 nx k Q i r dst acc fr hp op false (.v (.bool true))=Rd P tab ops nx0 nx k Q (i+1) r (⟨[],[],false⟩::acc) (putS dst (.tu []) fr) hp:=by simp[onGD]
theorem to_:onGD P tab ops nx0 nx k Q i r dst acc fr hp op t (.tu [])=Rd P tab ops nx0 nx k Q (i+1) r (⟨[],[],false⟩::acc) (putS dst (.tu []) fr) hp:=rfl
theorem js_ {g:FuncId}{caps vs:List AV}{ds:List D}{b:Bool}{is:List Nat}{d:D}{f:Bool}(h1:toDl s.hp (vs++caps)=some (ds,b,is))(h2:PureOK P g ds d f)(h3:is= []\/f=true)(h:Rt P tab ops nx0 k Q i r ⟨putS dst (lift (!f&&b) d) s.fr,s.hp,s.nx⟩):
  wm_ P tab ops nx0 k Q i r dst s (.fn g caps) vs:=.inl ⟨ds,b,is,d,f,h1,h2,h3,h⟩
theorem qe_ {g:FuncId}{caps vs:List AV}(h:InlOK P g (vs++caps) s.hp s.nx fun v hp nx=>Rt P tab ops nx0 k Q i r ⟨putS dst v s.fr,hp,nx⟩):wm_ P tab ops nx0 k Q i r dst s (.fn g caps) vs:=.inr h
theorem bn_ {g:FuncId}{caps vs:List AV}{ds:List D}{b:Bool}{is:List Nat}{d:D}{f:Bool}(h1:toDl hp (vs++caps)=some (ds,b,is))(h2:PureOK P g ds d f)(h3:is= []\/f=true)(h:Rd P tab ops nx0 nx k Q i r (⟨ids,[],false⟩::acc) (putS dst (lift (!f&&b) d) fr) hp):
  vb_ P tab ops nx0 nx k Q i r dst acc ids fr hp (.fn g caps) vs:=.inl ⟨ds,b,is,d,f,h1,h2,h3,h⟩
theorem j0_ {g:FuncId}{caps vs:List AV}{ids':List Nat}{v:AV}{δ:List (Nat × AO)}{nx':Nat}(h1:bi_ P g (vs++caps) hp nx ids' v δ nx')(h:Rd P tab ops nx0 nx' k Q i r (⟨ids',δ.map (·.1),true⟩::acc) (putS dst v fr) (upds δ hp)):
  vb_ P tab ops nx0 nx k Q i r dst acc ids fr hp (.fn g caps) vs:=.inr ⟨ids',v,δ,nx',h1,h⟩
theorem gc_ {α:Type}(σ:α->St)(μ:α->Nat)(x0:α)(h0:Weak (σ x0) s)(step:∀x,run P tab [.c a,.lp fun s'=>∃x',Weak (σ x') s'/\μ x'<μ x] (cont P tab k Q) (σ x)):run P tab (.c (.loop a)::k) Q s:=by
 show ∀X:St->Prop,_->_->X s;intro X h1 h2;have key:∀n x,μ x=n->X (σ x):=by
  intro n;induction n using Nat.strongRecOn with
  |_ n ih=>
   intro x hx;refine h1 _ (tf_ a _ _ _ (fun e s' h=> ?_) (step x));cases e with
   |normal=>
    obtain⟨x',h3,h4⟩:=h;exact h2 _ _ (.weak h3) (ih (μ x') (by omega) x' rfl)
   |ret=>exact h
   |exit n=>exact h
 exact h2 _ _ (.weak h0) (key _ x0 rfl)
theorem jd_ (ht:TabOk P tab)(hm:P.follows .mixedOrders=true){f:FuncId}{fn:Func}{code:Code}(hf:P.funcs[f]? =some fn)(hb:fn.body=some code)(hname:(fn.name== "runtime.NumGoroutine")=false)(hd:jC_ fn.ntmps code=true){vs:List AV}{nx:Nat}{R:AV->Hp->Nat->Prop}
  (hlen:vs.length<=fn.ntmps) (h:run P tab [.c code] (EndW tab fn.results R) ⟨frOf vs,hp,nx⟩):InlOK P f vs hp nx R:=
 ft_ ht hm hf hb hname hd hlen (W2_W code _ _ _ (fun _ _ h=>h) h)
theorem gd_ (ht:TabOk P tab)(hm:P.follows .mixedOrders=true){f:FuncId}{fn:Func}{code:Code}(hf:P.funcs[f]? =some fn)(hb:fn.body=some code)(hname:(fn.name== "runtime.NumGoroutine")=false)(hd:jC_ fn.ntmps code=true){ds:List D}{d:D}{fresh:Bool}
  (hlen:ds.length<=fn.ntmps) (h:run P tab [.c code] (EndW tab fn.results (EndP d fresh)) ⟨frOf (ds.map (lift true)),noHp,0⟩):PureOK P f ds d fresh:=
 xJ_ (jd_ ht hm hf hb hname hd (by simpa using hlen) h)
end
end
section
open Go.RowKit
section
variable {P:Program}{tab:Nat->TI}{ops:Array Oper}{nx0 nx i:Nat}{k:List It}{Q:Ex->St->Prop}{r:List Oper}{s:St}{dst:Option Nat}{acc:List Rec}{fr:Fr}{hp:Hp}
@[go_sem] theorem onOp_move (x:Operand):onOp P tab ops nx0 k Q i r dst s (.move x)=jH_ P tab ops nx0 k Q (i+1) r dst s (qg_ tab (ev s.fr) s.hp (nx0+i) (.move x)):=rfl
@[go_sem] theorem cP_ (x:Operand):xo_ P tab ops nx0 nx k Q i r dst acc fr hp (.move x)=q7_ P tab ops nx0 nx k Q (i+1) r dst acc (qz_ (ev fr) (.move x)) fr hp (qg_ tab (ev fr) hp (nx0+i) (.move x)):=rfl
@[go_sem] theorem tp_ (x:Operand):onOp P tab ops nx0 k Q i r dst s (.assign x)=jH_ P tab ops nx0 k Q (i+1) r dst s (qg_ tab (ev s.fr) s.hp (nx0+i) (.assign x)):=rfl
@[go_sem] theorem su_ (x:Operand):xo_ P tab ops nx0 nx k Q i r dst acc fr hp (.assign x)=q7_ P tab ops nx0 nx k Q (i+1) r dst acc (qz_ (ev fr) (.assign x)) fr hp (qg_ tab (ev fr) hp (nx0+i) (.assign x)):=rfl
@[go_sem] theorem onOp_pick (x y z:Operand):onOp P tab ops nx0 k Q i r dst s (.pick x y z)=jH_ P tab ops nx0 k Q (i+1) r dst s (qg_ tab (ev s.fr) s.hp (nx0+i) (.pick x y z)):=rfl
@[go_sem] theorem cQ_ (x y z:Operand):xo_ P tab ops nx0 nx k Q i r dst acc fr hp (.pick x y z)=q7_ P tab ops nx0 nx k Q (i+1) r dst acc (qz_ (ev fr) (.pick x y z)) fr hp (qg_ tab (ev fr) hp (nx0+i) (.pick x y z)):=rfl
@[go_sem] theorem cR_ (A:TypeId):onOp P tab ops nx0 k Q i r dst s (.alloc A)=jH_ P tab ops nx0 k Q (i+1) r dst s (qg_ tab (ev s.fr) s.hp (nx0+i) (.alloc A)):=rfl
@[go_sem] theorem tq_ (A:TypeId):xo_ P tab ops nx0 nx k Q i r dst acc fr hp (.alloc A)=q7_ P tab ops nx0 nx k Q (i+1) r dst acc (qz_ (ev fr) (.alloc A)) fr hp (qg_ tab (ev fr) hp (nx0+i) (.alloc A)):=rfl
@[go_sem] theorem onOp_box (A:TypeId)(x:Operand):onOp P tab ops nx0 k Q i r dst s (.box A x)=jH_ P tab ops nx0 k Q (i+1) r dst s (qg_ tab (ev s.fr) s.hp (nx0+i) (.box A x)):=rfl
@[go_sem] theorem onOpD_box (A:TypeId)(x:Operand):xo_ P tab ops nx0 nx k Q i r dst acc fr hp (.box A x)=q7_ P tab ops nx0 nx k Q (i+1) r dst acc (qz_ (ev fr) (.box A x)) fr hp (qg_ tab (ev fr) hp (nx0+i) (.box A x)):=rfl
@[go_sem] theorem cS_ (A:TypeId)(ps:Array (Nat × Operand)):onOp P tab ops nx0 k Q i r dst s (.build A ps)=jH_ P tab ops nx0 k Q (i+1) r dst s (qg_ tab (ev s.fr) s.hp (nx0+i) (.build A ps)):=rfl
@[go_sem] theorem tr_ (A:TypeId)(ps:Array (Nat × Operand)):xo_ P tab ops nx0 nx k Q i r dst acc fr hp (.build A ps)=q7_ P tab ops nx0 nx k Q (i+1) r dst acc (qz_ (ev fr) (.build A ps)) fr hp (qg_ tab (ev fr) hp (nx0+i) (.build A ps)):=rfl
@[go_sem] theorem mP_ (A:TypeId)(c:Nat)(ps:Array (Nat × Operand)):onOp P tab ops nx0 k Q i r dst s (.buildSlice A c ps)=jH_ P tab ops nx0 k Q (i+1) r dst s (qg_ tab (ev s.fr) s.hp (nx0+i) (.buildSlice A c ps)):=rfl
@[go_sem] theorem mb_ (A:TypeId)(c:Nat)(ps:Array (Nat × Operand)):xo_ P tab ops nx0 nx k Q i r dst acc fr hp (.buildSlice A c ps)=q7_ P tab ops nx0 nx k Q (i+1) r dst acc (qz_ (ev fr) (.buildSlice A c ps)) fr hp (qg_ tab (ev fr) hp (nx0+i) (.buildSlice A c ps)):=rfl
@[go_sem] theorem onOp_load (A:TypeId)(x:Operand):onOp P tab ops nx0 k Q i r dst s (.load A x)=jH_ P tab ops nx0 k Q (i+1) r dst s (qg_ tab (ev s.fr) s.hp (nx0+i) (.load A x)):=rfl
@[go_sem] theorem cT_ (A:TypeId)(x:Operand):xo_ P tab ops nx0 nx k Q i r dst acc fr hp (.load A x)=q7_ P tab ops nx0 nx k Q (i+1) r dst acc (qz_ (ev fr) (.load A x)) fr hp (qg_ tab (ev fr) hp (nx0+i) (.load A x)):=rfl
@[go_sem] theorem cU_ (A:TypeId)(x y:Operand):onOp P tab ops nx0 k Q i r dst s (.store A x y)=jH_ P tab ops nx0 k Q (i+1) r dst s (qg_ tab (ev s.fr) s.hp (nx0+i) (.store A x y)):=rfl
@[go_sem] theorem ts_ (A:TypeId)(x y:Operand):xo_ P tab ops nx0 nx k Q i r dst acc fr hp (.store A x y)=q7_ P tab ops nx0 nx k Q (i+1) r dst acc (qz_ (ev fr) (.store A x y)) fr hp (qg_ tab (ev fr) hp (nx0+i) (.store A x y)):=rfl
@[go_sem] theorem re_ (x:Operand):onOp P tab ops nx0 k Q i r dst s (.nilCheck x)=jH_ P tab ops nx0 k Q (i+1) r dst s (qg_ tab (ev s.fr) s.hp (nx0+i) (.nilCheck x)):=rfl
@[go_sem] theorem pI_ (x:Operand):xo_ P tab ops nx0 nx k Q i r dst acc fr hp (.nilCheck x)=q7_ P tab ops nx0 nx k Q (i+1) r dst acc (qz_ (ev fr) (.nilCheck x)) fr hp (qg_ tab (ev fr) hp (nx0+i) (.nilCheck x)):=rfl
@[go_sem] theorem cV_ (o:BinOp)(A B:TypeId)(x y:Operand):onOp P tab ops nx0 k Q i r dst s (.binOp o A x y B)=jH_ P tab ops nx0 k Q (i+1) r dst s (qg_ tab (ev s.fr) s.hp (nx0+i) (.binOp o A x y B)):=rfl
@[go_sem] theorem tt_ (o:BinOp)(A B:TypeId)(x y:Operand):xo_ P tab ops nx0 nx k Q i r dst acc fr hp (.binOp o A x y B)=q7_ P tab ops nx0 nx k Q (i+1) r dst acc (qz_ (ev fr) (.binOp o A x y B)) fr hp (qg_ tab (ev fr) hp (nx0+i) (.binOp o A x y B)):=rfl
@[go_sem] theorem onOp_unOp (o:UnOp)(A:TypeId)(x:Operand):onOp P tab ops nx0 k Q i r dst s (.unOp o A x)=jH_ P tab ops nx0 k Q (i+1) r dst s (qg_ tab (ev s.fr) s.hp (nx0+i) (.unOp o A x)):=rfl
@[go_sem] theorem cW_ (o:UnOp)(A:TypeId)(x:Operand):xo_ P tab ops nx0 nx k Q i r dst acc fr hp (.unOp o A x)=q7_ P tab ops nx0 nx k Q (i+1) r dst acc (qz_ (ev fr) (.unOp o A x)) fr hp (qg_ tab (ev fr) hp (nx0+i) (.unOp o A x)):=rfl
@[go_sem] theorem sv_ (A B:TypeId)(x:Operand):onOp P tab ops nx0 k Q i r dst s (.convert A B x)=jH_ P tab ops nx0 k Q (i+1) r dst s (qg_ tab (ev s.fr) s.hp (nx0+i) (.convert A B x)):=rfl
@[go_sem] theorem pJ_ (A:TypeId)(x:Operand)(f:Nat):onOp P tab ops nx0 k Q i r dst s (.fieldAddr A x f)=jH_ P tab ops nx0 k Q (i+1) r dst s (qg_ tab (ev s.fr) s.hp (nx0+i) (.fieldAddr A x f)):=rfl
@[go_sem] theorem mQ_ (A:TypeId)(x:Operand)(f:Nat):xo_ P tab ops nx0 nx k Q i r dst acc fr hp (.fieldAddr A x f)=q7_ P tab ops nx0 nx k Q (i+1) r dst acc (qz_ (ev fr) (.fieldAddr A x f)) fr hp (qg_ tab (ev fr) hp (nx0+i) (.fieldAddr A x f)):=rfl
@[go_sem] theorem pK_ (A:TypeId)(x y:Operand):onOp P tab ops nx0 k Q i r dst s (.indexAddr A x y)=jH_ P tab ops nx0 k Q (i+1) r dst s (qg_ tab (ev s.fr) s.hp (nx0+i) (.indexAddr A x y)):=rfl
@[go_sem] theorem mR_ (A:TypeId)(x y:Operand):xo_ P tab ops nx0 nx k Q i r dst acc fr hp (.indexAddr A x y)=q7_ P tab ops nx0 nx k Q (i+1) r dst acc (qz_ (ev fr) (.indexAddr A x y)) fr hp (qg_ tab (ev fr) hp (nx0+i) (.indexAddr A x y)):=rfl
@[go_sem] theorem cX_ (A:TypeId)(x y:Operand):onOp P tab ops nx0 k Q i r dst s (.index A x y)=jH_ P tab ops nx0 k Q (i+1) r dst s (qg_ tab (ev s.fr) s.hp (nx0+i) (.index A x y)):=rfl
@[go_sem] theorem cY_ (A:TypeId)(x:Operand)(l h m:Option Operand):onOp P tab ops nx0 k Q i r dst s (.slice A x l h m)=jH_ P tab ops nx0 k Q (i+1) r dst s (qg_ tab (ev s.fr) s.hp (nx0+i) (.slice A x l h m)):=rfl
@[go_sem] theorem tu_ (A:TypeId)(x:Operand)(l h m:Option Operand):xo_ P tab ops nx0 nx k Q i r dst acc fr hp (.slice A x l h m)=q7_ P tab ops nx0 nx k Q (i+1) r dst acc (qz_ (ev fr) (.slice A x l h m)) fr hp (qg_ tab (ev fr) hp (nx0+i) (.slice A x l h m)):=rfl
@[go_sem] theorem sw_ (x:Operand)(f:Nat):onOp P tab ops nx0 k Q i r dst s (.extract x f)=jH_ P tab ops nx0 k Q (i+1) r dst s (qg_ tab (ev s.fr) s.hp (nx0+i) (.extract x f)):=rfl
@[go_sem] theorem rf_ (x:Operand)(f:Nat):xo_ P tab ops nx0 nx k Q i r dst acc fr hp (.extract x f)=q7_ P tab ops nx0 nx k Q (i+1) r dst acc (qz_ (ev fr) (.extract x f)) fr hp (qg_ tab (ev fr) hp (nx0+i) (.extract x f)):=rfl
@[go_sem] theorem rg_ (f:Fn)(u w:Array Operand):onOp P tab ops nx0 k Q i r dst s (.makeFunc f u w)=jH_ P tab ops nx0 k Q (i+1) r dst s (qg_ tab (ev s.fr) s.hp (nx0+i) (.makeFunc f u w)):=rfl
@[go_sem] theorem sx_ (b:Builtin)(u:Array Operand)(w:Array TypeId):onOp P tab ops nx0 k Q i r dst s (.call { callee:=.builtin b,args:=u,argTypes:=w })=jH_ P tab ops nx0 k Q (i+1) r dst s (qg_ tab (ev s.fr) s.hp (nx0+i) (.call { callee:=.builtin b,args:=u,argTypes:=w })):=rfl
@[go_sem] theorem rh_ (b:Builtin)(u:Array Operand)(w:Array TypeId):xo_ P tab ops nx0 nx k Q i r dst acc fr hp (.call { callee:=.builtin b,args:=u,argTypes:=w })=q7_ P tab ops nx0 nx k Q (i+1) r dst acc (qz_ (ev fr) (.call { callee:=.builtin b,args:=u,argTypes:=w })) fr hp (qg_ tab (ev fr) hp (nx0+i) (.call { callee:=.builtin b,args:=u,argTypes:=w })):=rfl
@[go_sem] theorem sy_ (A:TypeId)(x:Option Operand):onOp P tab ops nx0 k Q i r dst s (.makeMap A x)=jH_ P tab ops nx0 k Q (i+1) r dst s (qg_ tab (ev s.fr) s.hp (nx0+i) (.makeMap A x)):=rfl
@[go_sem] theorem tv_ (A:TypeId)(x y:Operand)(c:Bool):onOp P tab ops nx0 k Q i r dst s (.lookup A x y c)=jH_ P tab ops nx0 k Q (i+1) r dst s (qg_ tab (ev s.fr) s.hp (nx0+i) (.lookup A x y c)):=rfl
@[go_sem] theorem sz_ (A:TypeId)(x y:Operand)(c:Bool):xo_ P tab ops nx0 nx k Q i r dst acc fr hp (.lookup A x y c)=q7_ P tab ops nx0 nx k Q (i+1) r dst acc (qz_ (ev fr) (.lookup A x y c)) fr hp (qg_ tab (ev fr) hp (nx0+i) (.lookup A x y c)):=rfl
@[go_sem] theorem mS_ (A:TypeId)(x y z:Operand):xo_ P tab ops nx0 nx k Q i r dst acc fr hp (.mapUpdate A x y z)=q7_ P tab ops nx0 nx k Q (i+1) r dst acc (qz_ (ev fr) (.mapUpdate A x y z)) fr hp (qg_ tab (ev fr) hp (nx0+i) (.mapUpdate A x y z)):=rfl
theorem x1_ {α:Type}(k:Nat)(x:α)(f:Nat->α)(j:Nat):upd k x f j=if j=k then x else f j:=rfl
theorem tw_ (k:IntKind)(n:Int):ofV (.int k n)= .v (.int k n):=rfl
theorem ri_ (b:Bool):ofV (.bool b)= .v (.bool b):=rfl
theorem hy_ (b:ByteArray):ofV (.string b)= .v (.string b):=rfl
theorem tx_:ofV (.slice none 0 0)= .v (.slice none 0 0):=rfl
theorem ty_:ofV (.pointer none)= .v (.pointer none):=rfl
theorem lift_v (b:Bool)(x:Value):lift b (.v x)= .v x:=rfl
theorem tz_ (b:Bool)(x:List (List D)):lift b (.sl x)= .d (.sl x) b:=rfl
theorem tA_ (b:Bool)(x:List D)(o:Nat):lift b (.pt x o)= .d (.pt x o) b:=rfl
theorem tB_ (b:Bool)(x:List D):lift b (.ag x)= .d (.ag x) b:=rfl
theorem tC_ (b:Bool)(x:List D):lift b (.tu x)= .d (.tu x) b:=rfl
theorem ev_tmp (fr:Fr)(t:Nat):ev fr (.tmp t)=fr t:=rfl
theorem rj_ (fr:Fr)(x:Value):ev fr (.const x)=ofV x:=rfl
theorem tD_ (fr:Fr)(f:Nat):ev fr (.func f)= .fn f []:=rfl
theorem mT_ (t:Nat)(v:AV)(fr:Fr):putS (some t) v fr=upd t v fr:=rfl
theorem mU_ (v:AV)(fr:Fr):putS none v fr=fr:=rfl
theorem rk_ (h:Hp):upds [] h=h:=rfl
theorem mV_ (k:Nat)(o:AO)(r:List (Nat × AO))(h:Hp):upds ((k,o)::r) h=upds r (upd k (some o) h):=rfl
theorem tE_ (vs:List AV)(t:Nat):frOf vs t=vs.getD t (.tu []):=rfl
theorem tF_ (t:Nat):noFr t= .un:=rfl
theorem tG_ (t:Nat):noHp t=none:=rfl
theorem hz_ (k:IntKind)(n:Nat):qF_ (.v (.int k (n:Int)))=some n:=by simp[qF_,ff_]
attribute [go_sem] tg_ mL_ p4_ mM_ th_ ti_ run_lp tj_ p5_ exit_c tk_ p6_ p7_ p8_ mN_ hw_ dE_ Rt_nil Rt_op Rd_op mO_ hx_ dF_ bm_ tl_ tm_ tn_ onG_un rb_ rc_ rd_ to_
 toDl toDs List.size_toArray List.length_cons List.length_nil List.map_cons List.map_nil List.append_nil List.nil_append List.cons_append Bool.or_false Bool.or_true Bool.false_or Bool.true_or Bool.and_false Bool.and_true Bool.not_true Bool.not_false
 qg_ ixArr movA x1_ tw_ ri_ hy_ tx_ ty_ lift_v tz_ tA_ tB_ tC_ ev_tmp rj_ tD_ mT_ mU_ rk_ mV_ tE_ tF_ tG_ hz_ bin binV intV strV
end
section
variable (hp:Hp)(b c:Bool)(x:List (List D))(y:List D)(o n i v:Nat)(k:IntKind)(z:Int)(s:ByteArray)(m:List (Value × Bool × List D))(cs:List AV)(f:FuncId)(p:Option Addr)(q:Option Nat)(e:Value)
@[go_sem] theorem noId_nil (i:Nat):noId i []=true:=rfl
@[go_sem] theorem toD1_int:toD1 hp (.v (.int k z))=some (.v (.int k z),false,[]):=rfl
@[go_sem] theorem toD1_bool:toD1 hp (.v (.bool c))=some (.v (.bool c),false,[]):=rfl
@[go_sem] theorem toD1_str:toD1 hp (.v (.string s))=some (.v (.string s),false,[]):=rfl
@[go_sem] theorem toD1_nil:toD1 hp (.v (.slice none 0 0))=some (.sl [],false,[]):=rfl
@[go_sem] theorem toD1_dsl:toD1 hp (.d (.sl x) b)=some (.sl x,b,[]):=rfl
@[go_sem] theorem toD1_so:toD1 hp (.so i v o n)=match hp i with
  |some (.rw es _ w br _)=>if w=v then some (.sl ((es.drop o).take n),br,[i]) else none
  |_=>none:=rfl
@[go_sem] theorem toD_v:toD hp (.v e)=toD1 hp (.v e):=rfl
@[go_sem] theorem toD_dsl:toD hp (.d (.sl x) b)=some (.sl x,b,[]):=rfl
@[go_sem] theorem toD_so:toD hp (.so i v o n)=toD1 hp (.so i v o n):=rfl
@[go_sem] theorem toD_ag:toD hp (.ag cs)=(toDs hp cs).map fun(ds,b,i)=>(.ag ds,b,i):=rfl
@[go_sem] theorem toD_dag:toD hp (.d (.ag y) b)=some (.ag y,b&& !zV_ y,[]):=rfl
@[go_sem] theorem rowOf_d:zI_ hp (.d (.sl x) b)=some (x,b&& !z5_ x,[]):=rfl
@[go_sem] theorem rowOf_so:zI_ hp (.so i v o n)=match hp i with
  |some (.rw es _ w br _)=>if v=w then some ((es.drop o).take n,br,[i]) else none
  |_=>none:=rfl
@[go_sem] theorem cellsA_v:qD_ (.v e)=some [.v e]:=rfl
@[go_sem] theorem cellsA_ag:qD_ (.ag cs)=some cs:=rfl
@[go_sem] theorem cZ_:qD_ (.d (.ag y) b)=some (y.map (lift b)):=rfl
@[go_sem] theorem c0_:qD_ (.d (.sl x) b)=some [.d (.sl x) b]:=rfl
@[go_sem] theorem c1_:qD_ (.d (.pt y o) b)=some [.d (.pt y o) b]:=rfl
@[go_sem] theorem cellsA_pt:qD_ (.pt i o)=some [.pt i o]:=rfl
@[go_sem] theorem cellsA_so:qD_ (.so i v o n)=some [.so i v o n]:=rfl
@[go_sem] theorem cellsA_mo:qD_ (.mo i)=some [.mo i]:=rfl
@[go_sem] theorem aggA_v:aggA (.v e)=none:=rfl
@[go_sem] theorem aggA_ag:aggA (.ag cs)=some cs:=rfl
@[go_sem] theorem aggA_dag:aggA (.d (.ag y) b)=some (y.map (lift b)):=rfl
@[go_sem] theorem isCell_pt:qu_ (.pt i o)=true:=rfl
@[go_sem] theorem isPtr_pt:dq_ (.pt i o)=true:=rfl
@[go_sem] theorem isPtr_dpt:dq_ (.d (.pt y o) b)=true:=rfl
@[go_sem] theorem isVal_v:be_ (.v e)=true:=rfl
@[go_sem] theorem isVal_dsl:be_ (.d (.sl x) b)=true:=rfl
@[go_sem] theorem isVal_pt:be_ (.pt i o)=true:=rfl
@[go_sem] theorem isVal_so:be_ (.so i v o n)=true:=rfl
@[go_sem] theorem toR_v:toR hp (.v e)=toD1 hp (.v e):=rfl
@[go_sem] theorem toR_so:toR hp (.so i v o n)=toD1 hp (.so i v o n):=rfl
@[go_sem] theorem toR_tu:toR hp (.tu cs)=(toDl hp cs).map fun(ds,b,i)=>(.tu ds,b,i):=rfl
end
end
section
open Go.RowKit
def fy_ (P:Program):List Field->Option (List (Nat × Nat))
 |[]=>some []
 |f::r=>match P.info? f.type,fy_ P r with
  |some i,some l=>some ((f.offset,i.size)::l)
  |_,_=>none
theorem bo_ {P:Program}:∀ {fs:List Field} {l:List (Nat × Nat)},fy_ P fs=some l->fs.length=l.length/\∀(i:Nat) (f:Field),fs[i]? =some f->∃fi,P.info? f.type=some fi/\l[i]? =some (f.offset,fi.size)
 |[],l,h=>by
  cases h;simp
 |f::r,l,h=>by
  unfold fy_ at h;split at h
  ·rename_i i l' h1 h2
   cases h
   have:=bo_ h2
   grind
  ·cases h
def uu_ (P:Program):TypeDesc->Option (TK × Nat × List (Nat × Nat))
 | .slice e=>some (.slice,e,[])
 | .string=>some (.string,0,[])
 | .int k=>some (.int k,0,[])
 | .bool=>some (.bool,0,[])
 | .pointer e=>some (.ptr,e,[])
 | .map _ e=>some (.map,e,[])
 | .struct fs=>(fy_ P fs.toList).map fun l=>(.struct,0,l)
 | .array _ _=>none
 |_=>some (.other,0,[])
def hA_ (go:Nat->Option (List TK)):Nat->List Field->Option (List TK)
 |_,[]=>some []
 |off,f::r=>if f.name≠ "_" /\f.offset=off then match go f.type with
  |some ks=>match hA_ go (off+ks.length) r with
   |some l=>some (ks++l)
   |none=>none
  |none=>none else none
def flatK (P:Program):Nat->Nat->Option (List TK)
 |0,_=>none
 |d+1,t=>match P.underlying t with
  |some .bool=>some [.bool]
  |some (.int k)=>some [.int k]
  |some .string=>some [.string]
  |some (.struct fs)=>if P.stoodInHeld t=false/\P.eqGuardType P.depth t=false then match P.info? t,hA_ (flatK P d) 0 fs.toList with
   |some i,some l=>if i.size=l.length then some l else none
   |_,_=>none else none
  |_=>none
theorem uv_:∀ {ks ls:List TK} {xs ys:List Value} {b:Bool},eqK (ks++ls) xs ys=some b->∃b1 b2,eqK ks (xs.take ks.length) (ys.take ks.length)=some b1/\eqK ls (xs.drop ks.length) (ys.drop ks.length)=some b2/\b=(b1&&b2)
 |[],ls,xs,ys,b,h=>⟨true,b,by simp[eqK],by simpa using h,by simp⟩
 |k::ks,ls,[],ys,b,h=>by simp[eqK] at h
 |k::ks,ls,x::xs,[],b,h=>by simp[eqK] at h
 |k::ks,ls,x::xs,y::ys,b,h=>by
  simp only[List.cons_append,eqK] at h;split at h
  ·rename_i b0 c0 h1 h2
   obtain⟨b1,b2,h3,h4,h5⟩:=uv_ h2;grind [eqK,Bool.and_assoc]
  ·cases h
def EqS (P:Program)(dd:Nat)(t:Nat)(ks:List TK):Prop:=
 ∀(w:World) (xs ys:Array Value) (b:Bool),eqK ks xs.toList ys.toList=some b->(Op.equalIn dd t (.agg xs) (.agg ys)).run P w= .ok b w
def EqP (P:Program)(dd:Nat)(t:Nat)(ks:List TK):Prop:=
 ∀(w:World) (xs ys:Array Value) (off:Nat) (b:Bool),eqK ks ((xs.toList.drop off).take ks.length) ((ys.toList.drop off).take ks.length)=some b->
  ∃a c,(part t xs off).run P w= .ok a w/\(part t ys off).run P w= .ok c w/\(Op.equalIn dd t a c).run P w= .ok b w
theorem eq1_ok {P:Program}{t:Nat}{d:TypeDesc}{k:TK}{x y:Value}{b:Bool}(hu:P.underlying t=some d)(hk:(d= .bool/\k= .bool)\/(d= .string/\k= .string)\/∃q,d= .int q/\k= .int q)(h:eq1 k x y=some b)(dd:Nat)(w:World):(Op.equalIn (dd+1) t x y).run P w= .ok b w:=by
 rcases hk with⟨rfl,rfl⟩ |⟨rfl,rfl⟩ |⟨q,rfl,rfl⟩<;>(unfold eq1 at h;split at h<;>simp_all [Op.equalIn,run_underlying hu]<;>(grind))
theorem chunk1 {xs:List Value}{off:Nat}{k:TK}{ys:List Value}{b:Bool}(h:eqK [k] ((xs.drop off).take 1) ((ys.drop off).take 1)=some b):∃x y,xs[off]? =some x/\ys[off]? =some y/\eq1 k x y=some b:=by
 have hx:(xs.drop off).take 1=(xs[off]?).toList:=by
  cases e:xs[off]? with
  |none=>simp at e;simp[e]
  |some x=>grind [List.getElem?_eq_some_iff,List.drop_eq_getElem_cons]
 have hy:(ys.drop off).take 1=(ys[off]?).toList:=by
  cases e:ys[off]? with
  |none=>simp at e;simp[e]
  |some x=>grind [List.getElem?_eq_some_iff,List.drop_eq_getElem_cons]
 rw[hx,hy] at h;cases e1:xs[off]? with
 |none=>rw[e1] at h;simp[eqK] at h
 |some x=>
  cases e2:ys[off]? with
  |none=>rw[e1,e2] at h;simp[eqK] at h
  |some y=>
   rw[e1,e2] at h;simp only[Option.toList_some,eqK] at h;grind
theorem wo_ {P:Program}{go:Nat->Option (List TK)}{dd:Nat}(hgo:∀t ks,go t=some ks->EqP P dd t ks):∀(fs:List Field) (off:Nat) (ks:List TK),hA_ go off fs=some ks->
  ∀(w:World) (xs ys:Array Value) (b:Bool),eqK ks (xs.toList.drop off) (ys.toList.drop off)=some b->(Op.eqFields dd xs ys fs).run P w= .ok b w
 |[],off,ks,h,w,xs,ys,b,hb=>by
  cases h
  have:b=true:=by
   generalize xs.toList.drop off=u at hb;generalize ys.toList.drop off=v at hb;cases u<;>cases v<;>simp[eqK] at hb;exact hb
  subst this;simp[Op.eqFields]
 |f::fs,off,ks,h,w,xs,ys,b,hb=>by
  unfold hA_ at h;split at h
  ·rename_i hn
   split at h
   ·rename_i k1 h1
    split at h
    ·rename_i k2 h2
     cases h;obtain⟨b1,b2,h3,h4,rfl⟩:=uv_ hb;obtain⟨a,c,e1,e2,e3⟩:=hgo _ _ h1 w xs ys off b1 h3;rw[List.drop_drop,List.drop_drop] at h4;have e4:=wo_ hgo fs (off+k1.length) k2 h2 w xs ys b2 h4;simp only[Op.eqFields,hn.1,ne_eq,not_false_eq_true,if_true,hn.2,Sem.run_bind,e1,e2,e3,Result.andThen_ok];cases b1
     ·simp
     ·simpa using e4
    ·cases h
   ·cases h
  ·cases h
theorem dG_ {P:Program}{d t:Nat}{ks:List TK}(h:flatK P d t=some ks):(∃fs,P.underlying t=some (.struct fs))->P.eqGuardType P.depth t=false:=by
 rintro⟨fs,hu⟩;cases d with
 |zero=>cases h
 |succ d=>
  grind [flatK]
theorem kz_ {P:Program}(n:Nat):∀(d t:Nat) (ks:List TK),flatK P d t=some ks->EqP P (n+d) t ks/\((∃fs,P.underlying t=some (.struct fs))->EqS P (n+d) t ks)
 |0,t,ks,h=>by cases h
 |d+1,t,ks,h=>by
  have one:∀(dsc:TypeDesc) (k:TK),P.underlying t=some dsc->((dsc= .bool/\k= .bool)\/(dsc= .string/\k= .string)\/∃q,dsc= .int q/\k= .int q)->ks= [k]->EqP P (n+(d+1)) t ks/\((∃fs,P.underlying t=some (.struct fs))->EqS P (n+(d+1)) t ks):=by
   intro dsc k hu hk e;subst e;refine⟨fun w xs ys off b hb=> ?_,fun⟨fs,hs⟩=> ?_⟩
   ·obtain⟨x,y,h1,h2,h3⟩:=chunk1 (by simpa using hb)
    have hp:P.plainKey t=true:=by rcases hk with⟨rfl,_⟩ |⟨rfl,_⟩ |⟨q,rfl,_⟩<;>simp[Program.plainKey,hu]
    exact⟨x,y,run_part_plain w hp (by simpa using h1),run_part_plain w hp (by simpa using h2),eq1_ok hu hk h3 (n+d) w⟩
   ·grind
  unfold flatK at h;split at h
  ·grind
  ·grind
  ·grind
  ·rename_i fs hu
   split at h
   ·rename_i hg
    split at h
    ·rename_i i l hi hl
     split at h
     ·rename_i hsz
      cases h;have hfs:P.fieldsOf t=fs:=by simp[Program.fieldsOf,hu]
      have hs:EqS P (n+(d+1)) t ks:=by
       intro w xs ys b hb;rw[show n+(d+1)=(n+d)+1 from rfl,run_equalIn_struct w (n+d) t xs ys (by rw[hfs];exact hu) hg.1,hfs];exact wo_ (fun t' ks' h'=>(kz_ n d t' ks' h').1) fs.toList 0 ks hl w xs ys b (by simpa using hb)
      refine⟨fun w xs ys off b hb=> ?_,fun _=>hs⟩;have hc:P.cellsOf t=ks.length:=by simp[Program.cellsOf,hi,hsz]
      have ex:∀zs:Array Value,(zs.extract off (off+ks.length)).toList=(zs.toList.drop off).take ks.length:=fun zs=>by
       simp
      refine⟨.agg (xs.extract off (off+ks.length)),.agg (ys.extract off (off+ks.length)),?_,?_,hs w _ _ b (by rw[ex,ex];exact hb)⟩<;>simp[part,isAgg,run_underlying hu,run_sizeOf w hi,hc]
     ·cases h
    ·cases h
   ·cases h
  ·cases h
def fz_ (P:Program)(k:TK)(T:Nat):Option (List TK):=match k with
 | .struct=>flatK P 20 T
 |_=>none
def aggK:TK->Bool
 | .struct | .array _=>true
 |_=>false
def bp_ (k:TK)(z:Value):Bool:=z.cells.toList.all (·.oneCell')&&(match aggK k,z with
 |true,.agg _=>true
 |false,z=>z.oneCell'
 |_,_=>false)
theorem vy_ {k:TK}{z:Value}(h:bp_ k z=true):(∀x∈z.cells.toList,x.oneCell'=true)/\(aggK k=true->∃vs,z= .agg vs)/\(aggK k=false->z.oneCell'=true):=by
 unfold bp_ at h;grind
theorem ge_ (t:TI):t.agg=aggK t.kind:=by rfl
def vZ_ (P:Program)(T:Nat):TI:=
 match P.info? T,P.underlying T with
 |some i,some d=>match i.zero,uu_ P d with
  |some z,some (k,e,l)=>if z.cells.size=i.size/\bp_ k z=true then{ ok:=true,kind:=k,size:=i.size,bytes:=i.bytes,offs:=l,elem:=e,zero:=z.cells.toList,flat:=fz_ P k T } else{}
  |_,_=>{}
 |_,_=>{}
theorem jt_ (P:Program)(T:Nat):vZ_ P T={}\/∃i d z k e l,P.info? T=some i/\P.underlying T=some d/\i.zero=some z/\uu_ P d=some (k,e,l)/\z.cells.size=i.size/\bp_ k z=true/\vZ_ P T={ ok:=true,kind:=k,size:=i.size,bytes:=i.bytes,offs:=l,elem:=e,zero:=z.cells.toList,flat:=fz_ P k T }:=by
 unfold vZ_;grind
theorem mW_ {P:Program}{T:Nat}{d:TypeDesc}{k:TK}{el:Nat}{l:List (Nat × Nat)}{ks:List TK}(h2:P.underlying T=some d)(h4:uu_ P d=some (k,el,l))(h:fz_ P k T=some ks):(∃fs,P.underlying T=some (.struct fs))/\flatK P 20 T=some ks:=by
 cases d<;>simp only[uu_,Option.some.injEq,Prod.mk.injEq,Option.map_eq_some_iff,reduceCtorEq] at h4
 case struct fs=>
  obtain⟨l',_,h5,_⟩:=h4;subst h5;exact⟨⟨fs,h2⟩,h⟩
 all_goals (obtain⟨h5,_⟩:=h4;subst h5;simp[fz_] at h)
theorem wp_ (P:Program):TabOk P (vZ_ P) where
 mkey T q h:=by
  grind [jt_]
 dflt T h:=by
  grind [jt_]
 info T h:=by
  obtain e |⟨i,d,z,k,el,l,h1,h2,h3,h4,h5,h6,e⟩:=jt_ P T
  ·rw[e] at h;cases h
  ·rw[e]
   exact⟨i,z,h1,rfl,rfl,h3,by simp,by simpa using h5,(vy_ h6).1,by rw[ge_];exact(vy_ h6).2⟩
 kind T h:=by
  obtain e |⟨i,d,z,k,el,l,h1,h2,h3,h4,h5,h6,e⟩:=jt_ P T
  ·rw[e] at h;cases h
  ·rw[e]
   refine⟨d,h2,?_⟩;cases d with
   |struct fs=>
    simp only[uu_,Option.map_eq_some_iff] at h4;obtain⟨l',h7,h8⟩:=h4;cases h8;obtain⟨h9,h10⟩:=bo_ h7;simp_all
   |pointer e'=>cases h4;exact⟨_,rfl⟩
   |map k' e'=>cases h4;exact⟨_,rfl⟩
   |array n e'=>cases h4
   |_=>cases h4;first |rfl |trivial
 flat T ks h xs ys b hb w:=by
  obtain e |⟨i,d,z,k,el,l,h1,h2,h3,h4,h5,h6,e⟩:=jt_ P T
  ·rw[e] at h;cases h
  ·rw[e] at h
   obtain⟨h7,h8⟩:=mW_ h2 h4 h;exact(kz_ 9980 20 T ks h8).2 h7 w xs.toArray ys.toArray b (by simpa using hb)
 guard T ks h:=by
  obtain e |⟨i,d,z,k,el,l,h1,h2,h3,h4,h5,h6,e⟩:=jt_ P T
  ·rw[e] at h;cases h
  ·rw[e] at h
   obtain⟨h7,h8⟩:=mW_ h2 h4 h;exact dG_ h8 h7
def tabA (P:Program)(T:Nat):TI:=
 match P.info? T,P.underlying T with
 |some i,some (.array n e)=>match i.zero with
  |some z=>if z.cells.size=i.size/\bp_ (.array n) z=true/\(vZ_ P e).ok=true then{ ok:=true,kind:=.array n,size:=i.size,bytes:=i.bytes,offs:=(List.range n).map fun j=>(j*(vZ_ P e).size,(vZ_ P e).size),elem:=e,zero:=z.cells.toList } else{}
  |none=>{}
 |_,_=>vZ_ P T
theorem xF_ (P:Program)(T:Nat):tabA P T=vZ_ P T\/tabA P T={}\/∃i n e z,P.info? T=some i/\P.underlying T=some (.array n e)/\i.zero=some z/\z.cells.size=i.size/\bp_ (.array n) z=true/\(vZ_ P e).ok=true/\tabA P T={ ok:=true,kind:=.array n,size:=i.size,bytes:=i.bytes,offs:=(List.range n).map fun j=>(j*(vZ_ P e).size,(vZ_ P e).size),elem:=e,zero:=z.cells.toList }:=by
 unfold tabA;grind
theorem fA_ {P:Program}{T:Nat}(h:(vZ_ P T).ok=true):tabA P T=vZ_ P T:=by
 obtain e |⟨i,d,z,k,el,l,h1,h2,h3,h4,h5,h6,e⟩:=jt_ P T
 ·rw[e] at h;cases h
 ·unfold tabA
  rw[h1,h2];cases d with
  |array n e'=>cases h4
  |_=>rfl
theorem bq_ (P:Program)(T:Nat):(tabA P T).mkey=none:=by
 grind [xF_,jt_]
theorem yk_ (P:Program):TabOk P (tabA P) where
 mkey T q h:=by rw[bq_] at h;cases h
 dflt T h:=by
  obtain e |e |⟨i,n,el,z,h1,h2,h3,h4,h5,h6,e⟩:=xF_ P T
  ·rw[e] at h⊢;exact(wp_ P).dflt T h
  ·exact e
  ·rw[e] at h;cases h
 info T h:=by
  obtain e |e |⟨i,n,el,z,h1,h2,h3,h4,h5,h6,e⟩:=xF_ P T
  ·rw[e] at h⊢;exact(wp_ P).info T h
  ·rw[e] at h;cases h
  ·rw[e]
   exact⟨i,z,h1,rfl,rfl,h3,by simp,by simpa using h4,(vy_ h5).1,by rw[ge_];exact(vy_ h5).2⟩
 kind T h:=by
  obtain e |e |⟨i,n,el,z,h1,h2,h3,h4,h5,h6,e⟩:=xF_ P T
  ·rw[e] at h⊢
   obtain⟨d,g1,g2⟩:=(wp_ P).kind T h;grind [vZ_,jt_,uu_]
  ·rw[e] at h;cases h
  ·rw[e]
   refine⟨_,h2,rfl,by rw[fA_ h6];exact h6,fun j p hp=> ?_⟩;simp only[List.getElem?_map,Option.map_eq_some_iff] at hp;obtain⟨j',hj,rfl⟩:=hp;rw[List.getElem?_eq_some_iff] at hj;obtain⟨_,hj⟩:=hj;simp only[List.getElem_range] at hj;subst hj;rw[fA_ h6]
 flat T ks h xs ys b hb w:=by
  obtain e |e |⟨i,n,el,z,h1,h2,h3,h4,h5,h6,e⟩:=xF_ P T
  ·rw[e] at h;exact(wp_ P).flat T ks h xs ys b hb w
  ·rw[e] at h;cases h
  ·rw[e] at h;cases h
 guard T ks h:=by
  obtain e |e |⟨i,n,el,z,h1,h2,h3,h4,h5,h6,e⟩:=xF_ P T
  ·rw[e] at h;exact(wp_ P).guard T ks h
  ·rw[e] at h;cases h
  ·rw[e] at h;cases h
def v0_ (P:Program)(T:Nat):TI:=
 if (tabA P T).ok=true then tabA P T else match P.info? T,P.underlying T with
 |some i,some (.array n e)=>match i.zero with
  |some z=>if z.cells.size=i.size/\bp_ (.array n) z=true/\(tabA P e).ok=true then{ ok:=true,kind:=.array n,size:=i.size,bytes:=i.bytes,offs:=(List.range n).map fun j=>(j*(tabA P e).size,(tabA P e).size),elem:=e,zero:=z.cells.toList } else{}
  |none=>{}
 |_,_=>{}
theorem xf_ (P:Program)(T:Nat):v0_ P T=tabA P T\/v0_ P T={}\/∃i n e z,P.info? T=some i/\P.underlying T=some (.array n e)/\i.zero=some z/\z.cells.size=i.size/\bp_ (.array n) z=true/\(tabA P e).ok=true/\v0_ P T={ ok:=true,kind:=.array n,size:=i.size,bytes:=i.bytes,offs:=(List.range n).map fun j=>(j*(tabA P e).size,(tabA P e).size),elem:=e,zero:=z.cells.toList }:=by
 unfold v0_;grind
theorem yl_ {P:Program}{T:Nat}(h:(tabA P T).ok=true):v0_ P T=tabA P T:=by
 unfold v0_;rw[if_pos h]
theorem hB_ (P:Program)(T:Nat):(v0_ P T).mkey=none:=by
 grind [xf_,bq_]
theorem wq_ (P:Program):TabOk P (v0_ P) where
 mkey T q h:=by rw[hB_] at h;cases h
 dflt T h:=by
  obtain e |e |⟨i,n,el,z,h1,h2,h3,h4,h5,h6,e⟩:=xf_ P T
  ·rw[e] at h⊢;exact(yk_ P).dflt T h
  ·exact e
  ·rw[e] at h;cases h
 info T h:=by
  obtain e |e |⟨i,n,el,z,h1,h2,h3,h4,h5,h6,e⟩:=xf_ P T
  ·rw[e] at h⊢;exact(yk_ P).info T h
  ·rw[e] at h;cases h
  ·rw[e]
   exact⟨i,z,h1,rfl,rfl,h3,by simp,by simpa using h4,(vy_ h5).1,by rw[ge_];exact(vy_ h5).2⟩
 kind T h:=by
  obtain e |e |⟨i,n,el,z,h1,h2,h3,h4,h5,h6,e⟩:=xf_ P T
  ·rw[e] at h⊢
   obtain⟨d,g1,g2⟩:=(yk_ P).kind T h;grind [tabA,yl_]
  ·rw[e] at h;cases h
  ·rw[e]
   refine⟨_,h2,rfl,by rw[yl_ h6];exact h6,fun j p hp=> ?_⟩;simp only[List.getElem?_map,Option.map_eq_some_iff] at hp;obtain⟨j',hj,rfl⟩:=hp;rw[List.getElem?_eq_some_iff] at hj;obtain⟨_,hj⟩:=hj;simp only[List.getElem_range] at hj;subst hj;rw[yl_ h6]
 flat T ks h xs ys b hb w:=by
  obtain e |e |⟨i,n,el,z,h1,h2,h3,h4,h5,h6,e⟩:=xf_ P T
  ·rw[e] at h;exact(yk_ P).flat T ks h xs ys b hb w
  ·rw[e] at h;cases h
  ·rw[e] at h;cases h
 guard T ks h:=by
  obtain e |e |⟨i,n,el,z,h1,h2,h3,h4,h5,h6,e⟩:=xf_ P T
  ·rw[e] at h;exact(yk_ P).guard T ks h
  ·rw[e] at h;cases h
  ·rw[e] at h;cases h
def CkP (P:Program)(dd:Nat)(t:Nat)(ks:List TK):Prop:=
 ∀(w:World) (em:Bool) (xs:Array Value) (off:Nat),wfK ks ((xs.toList.drop off).take ks.length)=true->∃a,(part t xs off).run P w= .ok a w/\(Instr.checkKey em dd t a).run P w= .ok () w
def CkS (P:Program)(dd:Nat)(t:Nat)(ks:List TK):Prop:=
 ∀(w:World) (em:Bool) (xs:Array Value),wfK ks xs.toList=true->(Instr.checkKey em dd t (.agg xs)).run P w= .ok () w
theorem uw_:∀ {ks ls:List TK} {xs:List Value},wfK (ks++ls) xs=true->wfK ks (xs.take ks.length)=true/\wfK ls (xs.drop ks.length)=true
 |[],ls,xs,h=>⟨by simp[wfK],by simpa using h⟩
 |k::ks,ls,[],h=>by simp[wfK] at h
 |k::ks,ls,x::xs,h=>by
  simp only[List.cons_append,wfK,Bool.and_eq_true] at h;obtain⟨h1,h2⟩:=uw_ h.2;exact⟨by simp[wfK,h.1,h1],by simpa using h2⟩
theorem mX_:∀ {ks:List TK} {xs:List Value},wfK ks xs=true->∃b,eqK ks xs xs=some b
 |[],[],_=>⟨true,rfl⟩
 |[],_::_,h=>by simp[wfK] at h
 |_::_,[],h=>by simp[wfK] at h
 |k::ks,x::xs,h=>by
  simp only[wfK,Bool.and_eq_true] at h;obtain⟨b,hb⟩:=mX_ h.2
  have:∃c,eq1 k x x=some c:=by
   have:=h.1
   unfold wf1 at this;split at this
   ·exact⟨_,by rw[eq1,if_pos ⟨by simpa using this,by simpa using this⟩]⟩
   ·exact⟨_,rfl⟩
   ·exact⟨_,rfl⟩
   ·cases this
  obtain⟨c,hc⟩:=this;exact⟨c&&b,by simp[eqK,hc,hb]⟩
theorem fB_ {P:Program}{go:Nat->Option (List TK)}{dd:Nat}{em:Bool}(hgo:∀t ks,go t=some ks->CkP P dd t ks)(w:World)(xs:Array Value):∀(fs:List Field) (off:Nat) (ks:List TK),hA_ go off fs=some ks->wfK ks (xs.toList.drop off)=true->
  (forIn (m:=Sem) fs PUnit.unit fun(f:Field) (_:PUnit)=>do
   if f.name≠ "_" then Instr.checkKey em dd f.type (<-part f.type xs f.offset)
   pure (ForInStep.yield PUnit.unit)).run P w= .ok PUnit.unit w
 |[],off,ks,h,hw=>by simp
 |f::fs,off,ks,h,hw=>by
  unfold hA_ at h;split at h
  ·rename_i hn
   split at h
   ·rename_i k1 h1
    split at h
    ·rename_i k2 h2
     cases h;obtain⟨h3,h4⟩:=uw_ hw;obtain⟨a,e1,e2⟩:=hgo _ _ h1 w em xs off h3;rw[List.drop_drop] at h4;have ih:=fB_ (em:=em) hgo w xs fs (off+k1.length) k2 h2 h4;simp_all
    ·cases h
   ·cases h
  ·cases h
theorem fC_ {P:Program}(n:Nat):∀(d t:Nat) (ks:List TK),flatK P d t=some ks->CkP P (n+d) t ks/\((∃fs,P.underlying t=some (.struct fs))->CkS P (n+d) t ks)
 |0,t,ks,h=>by cases h
 |d+1,t,ks,h=>by
  have hE:=kz_ n (d+1) t ks h;have one:∀(dsc:TypeDesc) (k:TK),P.underlying t=some dsc->(dsc= .bool\/dsc= .string\/∃q,dsc= .int q)->CkP P (n+(d+1)) t ks/\((∃fs,P.underlying t=some (.struct fs))->CkS P (n+(d+1)) t ks):=by
   intro dsc k hu hk;refine⟨fun w em xs off hw=> ?_,fun⟨fs,hs⟩=> ?_⟩
   ·obtain⟨b,hb⟩:=mX_ hw
    obtain⟨a,c,e1,_,_⟩:=hE.1 w xs xs off b hb;refine⟨a,e1,?_⟩;rw[show n+(d+1)=(n+d)+1 from rfl];rcases hk with rfl |rfl |⟨q,rfl⟩<;>simp[Instr.checkKey,run_underlying hu]
   ·grind
  unfold flatK at h;split at h
  ·simp_all
  ·simp_all
  ·simp_all
  ·rename_i fs hu
   split at h
   ·rename_i hg
    split at h
    ·rename_i i l hi hl
     split at h
     ·rename_i hsz
      cases h;have hs:CkS P (n+(d+1)) t ks:=by
       intro w em xs hw;rw[show n+(d+1)=(n+d)+1 from rfl,Instr.checkKey];simp only[Sem.run_bind,run_underlying hu,Result.andThen_ok];rw[<-Array.forIn_toList]
       have:=fB_ (em:=em) (fun t' ks' h'=>(fC_ n d t' ks' h').1) w xs fs.toList 0 ks hl (by simpa using hw)
       simp at this⊢;rw[this];rfl
      refine⟨fun w em xs off hw=> ?_,fun _=>hs⟩;obtain⟨b,hb⟩:=mX_ hw;have hc:P.cellsOf t=ks.length:=by simp[Program.cellsOf,hi,hsz]
      have ex:(xs.extract off (off+ks.length)).toList=(xs.toList.drop off).take ks.length:=by
       rw[Array.toList_extract];simp[List.extract]
      exact⟨.agg (xs.extract off (off+ks.length)),by simp[part,isAgg,run_underlying hu,run_sizeOf w hi,hc],hs w em _ (by rw[ex];exact hw)⟩
     ·cases h
    ·cases h
   ·cases h
  ·cases h
def keyOf (P:Program)(kt:Nat):Option (Bool × List TK):=match P.underlying kt with
 |some .string=>some (false,[.string])
 |some (.int k)=>some (false,[.int k])
 |some .bool=>some (false,[.bool])
 |some (.struct _)=>(flatK P 20 kt).map fun ks=>(true,ks)
 |_=>none
def fD_ (P:Program)(T:Nat):Option (Bool × List TK):=if (v0_ P T).kind= .map then match P.underlying T with
 |some (.map kt e)=>if (v0_ P e).ok=true/\e=(v0_ P T).elem then keyOf P kt else none
 |_=>none else none
def tabP (P:Program)(T:Nat):TI:={ v0_ P T with mkey:=fD_ P T }
theorem fE_ {k:TK}{x y:Value}(h:eq1 k x y=some true):y=x:=by
 unfold eq1 at h;split at h
 ·grind
 ·rename_i a b
  simp only[Option.some.injEq] at h;rw[(MapKept.bytes_beq a b).1 h]
 ·grind
 ·cases h
theorem fF_:∀ {ks:List TK} {xs ys:List Value},eqK ks xs ys=some true->ys=xs
 |[],[],[],_=>rfl
 |[],[],_::_,h=>by simp[eqK] at h
 |[],_::_,_,h=>by simp[eqK] at h
 |_::_,[],_,h=>by simp[eqK] at h
 |_::_,_::_,[],h=>by simp[eqK] at h
 |k::ks,x::xs,y::ys,h=>by
  simp only[eqK] at h;split at h
  ·rename_i b c h1 h2
   simp only[Option.some.injEq,Bool.and_eq_true] at h;obtain⟨rfl,rfl⟩:=h;rw[fE_ h1,fF_ h2]
  ·cases h
theorem fG_ {k:TK}{x:Value}(h:wf1 k x=true)(n:Nat):Instr.sameBits n x x=true:=by
 unfold wf1 at h;grind [Instr.sameBits,MapKept.bytes_beq]
theorem fH_ (n:Nat):∀ {ks:List TK} {xs:List Value},wfK ks xs=true->((xs.zip xs).all fun(x,y)=>Instr.sameBits n x y)=true
 |[],[],_=>rfl
 |[],_::_,h=>by simp[wfK] at h
 |_::_,[],h=>by simp[wfK] at h
 |k::ks,x::xs,h=>by
  simp only[wfK,Bool.and_eq_true] at h;simp[fG_ h.1 n];simpa using fH_ n h.2
theorem hC_ {P:Program}{kt:Nat}{d:TypeDesc}{k:TK}{x:Value}(hu:P.underlying kt=some d)(hd:∀y b,eq1 k x y=some b->Instr.sameNow d x y=some b)(ens:List MapEntry)(r:Option Nat)(h:kl_ (false,[k]) x (ens.map (·.key))=some r)(w:World):
  (Instr.findKey kt x ens).run P w= .ok (r.bind fun i=>(ens[i]?).map fun e=>(i,e.val)) w:=by
 refine MapKept.run_findKey hu ?_
 have:∀(ens:List MapEntry) (r:Option Nat) (j:Nat),kl_ (false,[k]) x (ens.map (·.key))=some r->Instr.findNow d x ens j=some (r.bind fun i=>(ens[i]?).map fun e=>(j+i,e.val)):=by
  intro ens;induction ens with
  |nil=>intro r j h;cases h;rfl
  |cons e es ih=>
   intro r j h;rw[List.map_cons] at h;unfold kl_ at h;split at h
   ·rename_i hk
    cases h;simp[Instr.findNow,hd _ _ hk]
   ·rename_i hk
    simp only[Instr.findNow,hd _ _ hk];split at h
    ·grind
    ·rename_i o hn
     rw[ih _ (j+1) h];cases r with
     |none=>rfl
     |some i=>exact absurd h (hn i)
   ·cases h
 simpa using this ens r 0 h
theorem mY_ {P:Program}{kt:Nat}{fs:Array Field}{ks:List TK}{xs:Array Value}(hu:P.underlying kt=some (.struct fs))(hE:∀ys b,eqK ks xs.toList ys=some b->∀w,(Op.equal kt (.agg xs) (.agg ys.toArray)).run P w= .ok b w)(ens:List MapEntry)(r:Option Nat)(h:kl_ (true,ks) (.agg xs) (ens.map (·.key))=some r)(w:World):
  (Instr.findKey kt (.agg xs) ens).run P w= .ok (r.bind fun i=>(ens[i]?).map fun e=>(i,e.val)) w:=by
 rw[run_findKey_eq (P:=P) w (by simp[hu])]
 have:∀(ens:List MapEntry) (r:Option Nat) (j:Nat),kl_ (true,ks) (.agg xs) (ens.map (·.key))=some r->(Instr.findAsking kt (.agg xs) ens j).run P w= .ok (r.bind fun i=>(ens[i]?).map fun e=>(j+i,e.val)) w:=by
  intro ens;induction ens with
  |nil=>intro r j h;cases h;simp[Instr.findAsking]
  |cons e es ih=>
   intro r j h;rw[List.map_cons] at h;have hk':∀b,kS_ (true,ks) (.agg xs) e.key=some b->(Op.equal kt (.agg xs) e.key).run P w= .ok b w:=by
    intro b hb;cases hkey:e.key with
    |agg ys=>rw[hkey] at hb;exact hE ys.toList b hb w
    |_=>rw[hkey] at hb;cases hb
   unfold kl_ at h;split at h
   ·rename_i hk
    cases h;simp[Instr.findAsking,hk' _ hk]
   ·rename_i hk
    simp only[Instr.findAsking,Sem.run_bind,hk' _ hk,Result.andThen_ok,Bool.false_eq_true,if_false];split at h
    ·grind
    ·rename_i o hn
     rw[ih _ (j+1) h];cases r with
     |none=>rfl
     |some i=>exact absurd h (hn i)
   ·cases h
 simpa using this ens r 0 h
theorem rl_ {P:Program}{kt:Nat}{q:Bool × List TK}(h:keyOf P kt=some q)(x:Value)(hw:xn_ q x=true):(∀w e,(Instr.checkKey e 10000 kt x).run P w= .ok () w)/\
  (∀y,kS_ q x y=some true->y=x/\Instr.sameBits 10000 x x=true)/\∀(ens:List MapEntry) (r:Option Nat),kl_ q x (ens.map (·.key))=some r->∀w,(Instr.findKey kt x ens).run P w= .ok (r.bind fun i=>(ens[i]?).map fun e=>(i,e.val)) w:=by
 have plain:∀(d:TypeDesc) (k:TK),P.underlying kt=some d->((d= .string/\k= .string)\/(d= .bool/\k= .bool)\/∃i,d= .int i/\k= .int i)->wf1 k x=true->(∀w e,(Instr.checkKey e 10000 kt x).run P w= .ok () w)/\
  (∀y,kS_ (false,[k]) x y=some true->y=x/\Instr.sameBits 10000 x x=true)/\∀(ens:List MapEntry) (r:Option Nat),kl_ (false,[k]) x (ens.map (·.key))=some r->∀w,(Instr.findKey kt x ens).run P w= .ok (r.bind fun i=>(ens[i]?).map fun e=>(i,e.val)) w:=by
  intro d k hu hdk hw;refine⟨fun w e=> ?_,fun y hy=>⟨fE_ hy,fG_ hw _⟩,fun ens r hr w=>hC_ hu (fun y b hy=> ?_) ens r hr w⟩
  ·have:∀n,(Instr.checkKey e (n+1) kt x).run P w= .ok () w:=fun n=>by
    rcases hdk with⟨rfl,_⟩ |⟨rfl,_⟩ |⟨i,rfl,_⟩<;>simp[Instr.checkKey,run_underlying hu]
   exact this 9999
  ·rcases hdk with⟨rfl,rfl⟩ |⟨rfl,rfl⟩ |⟨i,rfl,rfl⟩<;>(unfold eq1 at hy;split at hy<;>simp_all [Instr.sameNow]<;>(grind))
 unfold keyOf at h;split at h
 ·rename_i hu;cases h;exact plain _ _ hu (.inl ⟨rfl,rfl⟩) hw
 ·rename_i k hu;cases h;exact plain _ _ hu (.inr (.inr ⟨k,rfl,rfl⟩)) hw
 ·rename_i hu;cases h;exact plain _ _ hu (.inr (.inl ⟨rfl,rfl⟩)) hw
 ·rename_i fs hu
  rw[Option.map_eq_some_iff] at h;obtain⟨ks,h1,rfl⟩:=h;cases x with
  |agg xs=>
   have hc:=(fC_ 9980 20 kt ks h1).2 ⟨fs,hu⟩;have he:=(kz_ 9980 20 kt ks h1).2 ⟨fs,hu⟩;refine⟨fun w e=>hc w e xs hw,fun y hy=> ?_,fun ens r hr w=>mY_ hu (fun ys b hb w=>he w xs ys.toArray b (by simpa using hb)) ens r hr w⟩;cases y with
   |agg ys=>
    have:=fF_ hy
    have e:ys=xs:=by apply Array.ext';exact this
    subst e;refine⟨rfl,?_⟩;have hb:=fH_ 9999 hw;show(ys.size==ys.size&&(ys.toList.zip ys.toList).all fun(x,y)=>Instr.sameBits 9999 x y)=true;grind
   |_=>cases hy
  |_=>cases hw
 ·cases h
theorem mZ_ (P:Program):TabOk P (tabP P) where
 dflt T h:=by
  have h1:v0_ P T={}:=(wq_ P).dflt T h;unfold tabP fD_;rw[h1];rfl
 info T h:=(wq_ P).info T h
 kind T h:=(wq_ P).kind T h
 flat T ks h:=(wq_ P).flat T ks h
 guard T ks h:=(wq_ P).guard T ks h
 mkey T q h:=by
  have h:fD_ P T=some q:=h;unfold fD_ at h;split at h
  ·split at h
   ·rename_i kt e hu
    split at h
    ·rename_i hc
     refine⟨kt,?_,?_,fun x hx=>rl_ h x hx⟩
     ·rw[hu,hc.2];rfl
     ·show(v0_ P (v0_ P T).elem).ok=true
      rw[<-hc.2];exact hc.1
    ·cases h
   ·cases h
  ·cases h
end
section
open Go.RowKit
end
section
theorem qi_ (fr:Fr):∀t,noFr t= .un\/noFr t=fr t:=fun _=>.inl rfl
theorem qa_ {k:Nat}{x:AV}{fr' fr:Fr}(h:fr k=x)(hw:∀t,fr' t= .un\/fr' t=fr t):∀t,upd k x fr' t= .un\/upd k x fr' t=fr t:=fun t=>by
 unfold upd;grind
theorem m0_ (hp:Hp):∀i,hp i=none\/hp i=hp i:=fun _=>.inr rfl
end
section
attribute [go_sem] Option.map_some Option.map_none List.length_map and_self and_true true_and TI.agg
end
section
theorem xM_ {tab:Nat->TI}{rs:Array ResultVar}{R:AV->Hp->Nat->Prop}{s:St}{v:AV}(h1:resA tab rs s=some v)(h2:R v s.hp s.nx):EndW tab rs R .ret s:=⟨v,s.hp,h1,⟨fun _=>.inr rfl⟩,h2⟩
theorem rm_ {tab:Nat->TI}{rs:Array ResultVar}{R:AV->Hp->Nat->Prop}{s:St}{v:AV}(h1:resA tab rs s=some v)(h2:R v s.hp s.nx):EndW tab rs R .normal s:=⟨v,s.hp,h1,⟨fun _=>.inr rfl⟩,h2⟩
theorem j9_ {tab:Nat->TI}{rs:Array ResultVar}{d d':D}{fr b:Bool}{is:List Nat}{s:St}{v:AV}(h1:resA tab rs s=some v)(h2:toR s.hp v=some (d',b,is))(h3:d'=d)(h4:fr=true->b=false):EndW tab rs (EndP d fr) .ret s:=
 xM_ h1 ⟨b,is,by rw[h2,h3],h4⟩
end
section
attribute [go_sem] List.getD_cons_zero List.getD_cons_succ List.getElem?_cons_zero List.getElem?_cons_succ List.getElem?_nil List.take_succ_cons List.take_zero List.drop_succ_cons List.drop_zero List.set_cons_zero List.set_cons_succ sub setL kR_ Nat.zero_add Nat.add_zero
end
section
attribute [go_sem] resA wk_ kb_ Bool.false_eq_true
end
section
@[go_sem] theorem cont_nil {P:Program}{tab:Nat->TI}{Q:Ex->St->Prop}{e:Ex}{s:St}:cont P tab [] Q e s=Q e s:=rfl
attribute [go_sem] Nat.mul_one
end
section
open Go.RowKit
def gAt (ops:Array Oper)(j:Nat):Option Nat:=(ops[j]?).bind (·.dst)
def onGx (o:Option Nat)(f:Nat->Prop)(g:Prop):Prop:=match o with
 |some d=>f d
 |none=>g
section
variable {P:Program}{tab:Nat->TI}{ops:Array Oper}{nx0 nx i j:Nat}{k:List It}{Q:Ex->St->Prop}{r:List Oper}{s:St}{dst:Option Nat}{acc:List Rec}{fr:Fr}{hp:Hp}{op:Op}{T:TypeId}{pos:String}{after:Array Edge}{t:Bool}
theorem ym_:Rt P tab ops nx0 k Q i (⟨dst,op,T,pos,after,some (j,t)⟩::r) s=onGx (gAt ops j) (fun d=>onG P tab ops nx0 k Q i r dst s op t (s.fr d)) (Rt P tab ops nx0 k Q (i+1) r ⟨putS dst (.tu []) s.fr,s.hp,s.nx⟩):=by
 cases hd:gAt ops j with
 |some d=>exact p9_ hd
 |none=>
  have e:(ops[j]?).bind (·.dst)=none:=hd
  conv=>lhs;unfold Rt WT j3_
  simp only[e];rfl
theorem yn_:Rd P tab ops nx0 nx k Q i (⟨dst,op,T,pos,after,some (j,t)⟩::r) acc fr hp=onGx (gAt ops j) (fun d=>onGD P tab ops nx0 nx k Q i r dst acc fr hp op t (fr d)) (Rd P tab ops nx0 nx k Q (i+1) r (⟨[],[],false⟩::acc) (putS dst (.tu []) fr) hp):=by
 cases hd:gAt ops j with
 |some d=>exact ra_ hd
 |none=>
  have e:(ops[j]?).bind (·.dst)=none:=hd
  conv=>lhs;unfold Rd WD j3_
  simp only[e];rfl
end
@[go_sem] theorem zs_ (d:Nat)(f:Nat->Prop)(g:Prop):onGx (some d) f g=f d:=rfl
attribute [go_sem] gAt List.getElem?_toArray Option.bind_some
end
section
@[go_sem] theorem chk_nil (n:Nat):chk n []=true:=rfl
@[go_sem] theorem chk_cons (n:Nat)(c:List D)(r:List (List D)):chk n (c::r)=((c.length==n)&&chk n r):=rfl
@[go_sem] theorem frz_nil (hp:Hp):frz hp []= []:=rfl
@[go_sem] theorem c2_:z5_ []=true:=rfl
attribute [go_sem] List.range_zero List.range_succ j2_ List.map_append List.length_append List.take_append_drop
end
section
section
variable (tab:Nat->TI)(hp:Hp)(op:BinOp)(T:Nat)
@[go_sem] theorem binH_v (a:Value)(y:AV):binH tab hp op T (.v a) y=bin tab op T (.v a) y:=rfl
@[go_sem] theorem binH_d (a:D)(b:Bool)(y:AV):binH tab hp op T (.d a b) y=bin tab op T (.d a b) y:=rfl
@[go_sem] theorem binH_ag (a:List AV)(y:AV):binH tab hp op T (.ag a) y=bin tab op T (.ag a) y:=rfl
@[go_sem] theorem binH_pt (i o:Nat)(y:AV):binH tab hp op T (.pt i o) y=bin tab op T (.pt i o) y:=rfl
theorem tH_ (i v o n:Nat):binH tab hp op T (.so i v o n) (.v (.slice none 0 0))=match hp i with
  |some (.rw _ _ ver _ _)=>if v=ver/\(tab T).kind= .slice then eqF op else none
  |_=>none:=rfl
@[go_sem] theorem nilV_int (k k':IntKind)(a b:Int):nilV tab T op (.int k a) (.int k' b)=binV op (.int k a) (.int k' b):=rfl
@[go_sem] theorem nilV_str (a b:ByteArray):nilV tab T op (.string a) (.string b)=binV op (.string a) (.string b):=rfl
@[go_sem] theorem nilV_sl:nilV tab T op (.slice none 0 0) (.slice none 0 0)=if (tab T).kind= .slice then match op with
  | .eql=>some (.bool true)
  | .neq=>some (.bool false)
  |_=>none else none:=rfl
@[go_sem] theorem nilV_pt:nilV tab T op (.pointer none) (.pointer none)=if (tab T).kind= .ptr then match op with
  | .eql=>some (.bool true)
  | .neq=>some (.bool false)
  |_=>none else none:=rfl
end
attribute [go_sem] tH_ eqF fe_ isMo keyA vT_ isV1 md_ Option.isSome_some Option.getD_some
end
section
section
variable (ρ:Operand->AV)
@[go_sem] theorem idsA_v (x:Value):idsA (.v x)= []:=rfl
@[go_sem] theorem idsA_d (x:D)(b:Bool):idsA (.d x b)= []:=rfl
@[go_sem] theorem idsA_ag (x:List AV):idsA (.ag x)=idsL x:=rfl
@[go_sem] theorem idsA_pt (i o:Nat):idsA (.pt i o)= [i]:=rfl
@[go_sem] theorem idsA_pr (i v k o:Nat):idsA (.pr i v k o)= [i]:=rfl
@[go_sem] theorem idsA_so (i v k o:Nat):idsA (.so i v k o)= [i]:=rfl
@[go_sem] theorem idsA_mo (i:Nat):idsA (.mo i)= [i]:=rfl
@[go_sem] theorem idsA_fn (f:FuncId)(x:List AV):idsA (.fn f x)=idsL x:=rfl
@[go_sem] theorem idsL_nil:idsL []= []:=rfl
@[go_sem] theorem idsL_cons (x:AV)(r:List AV):idsL (x::r)=idsA x++idsL r:=rfl
@[go_sem] theorem c3_ (x:Operand):qz_ ρ (.move x)= []:=rfl
@[go_sem] theorem sA_ (x:Operand):qz_ ρ (.assign x)= []:=rfl
@[go_sem] theorem c4_ (x y z:Operand):qz_ ρ (.pick x y z)= []:=rfl
@[go_sem] theorem tI_ (T:TypeId):qz_ ρ (.alloc T)= []:=rfl
@[go_sem] theorem idsOp_box (T:TypeId)(x:Operand):qz_ ρ (.box T x)= []:=rfl
@[go_sem] theorem tJ_ (T:TypeId)(ps:Array (Nat × Operand)):qz_ ρ (.build T ps)= []:=rfl
@[go_sem] theorem idsOp_nil (x:Operand):qz_ ρ (.nilCheck x)= []:=rfl
@[go_sem] theorem idsOp_un (o:UnOp)(T:TypeId)(x:Operand):qz_ ρ (.unOp o T x)= []:=rfl
@[go_sem] theorem idsOp_fa (T:TypeId)(x:Operand)(f:Nat):qz_ ρ (.fieldAddr T x f)= []:=rfl
@[go_sem] theorem idsOp_ext (x:Operand)(f:Nat):qz_ ρ (.extract x f)= []:=rfl
@[go_sem] theorem c5_ (T:TypeId)(x:Operand):qz_ ρ (.load T x)=idsA (ρ x):=by simp[qz_,z0_,Op.operands,idsL]
@[go_sem] theorem tK_ (T:TypeId)(x y:Operand):qz_ ρ (.store T x y)=idsA (ρ x)++idsA (ρ y):=by simp[qz_,z0_,Op.operands,idsL]
@[go_sem] theorem idsOp_bin (o:BinOp)(T S:TypeId)(x y:Operand):qz_ ρ (.binOp o T x y S)=idsA (ρ x)++idsA (ρ y):=by simp[qz_,z0_,Op.operands,idsL]
@[go_sem] theorem idsOp_ia (T:TypeId)(x y:Operand):qz_ ρ (.indexAddr T x y)=idsA (ρ x)++idsA (ρ y):=by simp[qz_,z0_,Op.operands,idsL]
@[go_sem] theorem idsOp_lk (T:TypeId)(x y:Operand)(b:Bool):qz_ ρ (.lookup T x y b)=idsA (ρ x)++idsA (ρ y):=by simp[qz_,z0_,Op.operands,idsL]
@[go_sem] theorem idsOp_sl (T:TypeId)(x:Operand)(l h:Option Operand):qz_ ρ (.slice T x l h none)=idsA (ρ x)++(idsL ((l.toList).map ρ)++idsL ((h.toList).map ρ)):=by
 cases l<;>cases h<;>simp[qz_,z0_,Op.operands,idsL]
@[go_sem] theorem idsOp_bs (T:TypeId)(n:Nat)(ps:Array (Nat × Operand)):qz_ ρ (.buildSlice T n ps)=idsL (ps.toList.map fun p=>ρ p.2):=by simp[qz_,z0_,Op.operands,Function.comp_def]
@[go_sem] theorem idsOp_bi (b:Builtin)(xs:Array Operand)(ts:Array TypeId):qz_ ρ (.call { callee:=.builtin b,args:=xs,argTypes:=ts })=idsL (xs.toList.map ρ):=by simp[qz_,z0_,Op.operands,Call.operands]
@[go_sem] theorem c6_ (f:Operand)(xs:Array Operand)(ts:Array TypeId):qz_ ρ (.call { callee:=.value f,args:=xs,argTypes:=ts })=idsA (ρ f)++idsL (xs.toList.map ρ):=by simp[qz_,z0_,Op.operands,Call.operands,idsL]
end
attribute [go_sem] Option.toList_some Option.toList_none
section
variable {P:Program}{tab:Nat->TI}{ops:Array Oper}{nx0 nx i:Nat}{k:List It}{Q:Ex->St->Prop}{acc:List Rec}{fr:Fr}{hp:Hp}
theorem qj_ (h1:yg_ ops acc.reverse=true)(h2:run P tab k Q ⟨fr,hp,nx⟩):Rd P tab ops nx0 nx k Q i [] acc fr hp:=⟨va_ h1,h2⟩
end
end
section
section
variable {P:Program}{tab:Nat->TI}{ops:Array Oper}{nx0 nx i j:Nat}{k:List It}{Q:Ex->St->Prop}{r:List Oper}{s:St}{dst:Option Nat}{acc:List Rec}{fr:Fr}{hp:Hp}{op:Op}{T:TypeId}{pos:String}{after:Array Edge}{t:Bool}
theorem vz_ (h:(gAt ops j).isSome=true):gAt ops j=some ((gAt ops j).getD 0):=by
 cases e:gAt ops j with
 |none=>rw[e] at h;cases h
 |some d=>rfl
@[go_sem] theorem Rt_gY (h1:(gAt ops j).isSome=true)(h2:s.fr ((gAt ops j).getD 0)= .v (.bool t)):Rt P tab ops nx0 k Q i (⟨dst,op,T,pos,after,some (j,t)⟩::r) s=onOp P tab ops nx0 k Q i r dst s op:=by
 rw[ym_,vz_ h1,zs_,h2];simp[onG]
@[go_sem] theorem Rt_gN (h1:(gAt ops j).isSome=true)(h2:s.fr ((gAt ops j).getD 0)= .v (.bool !t)):Rt P tab ops nx0 k Q i (⟨dst,op,T,pos,after,some (j,t)⟩::r) s=Rt P tab ops nx0 k Q (i+1) r ⟨putS dst (.tu []) s.fr,s.hp,s.nx⟩:=by
 rw[ym_,vz_ h1,zs_,h2];simp[onG]
@[go_sem] theorem Rt_gU (h1:(gAt ops j).isSome=true)(h2:s.fr ((gAt ops j).getD 0)= .tu []):Rt P tab ops nx0 k Q i (⟨dst,op,T,pos,after,some (j,t)⟩::r) s=Rt P tab ops nx0 k Q (i+1) r ⟨putS dst (.tu []) s.fr,s.hp,s.nx⟩:=by
 rw[ym_,vz_ h1,zs_,h2];rfl
@[go_sem] theorem Rd_gY (h1:(gAt ops j).isSome=true)(h2:fr ((gAt ops j).getD 0)= .v (.bool t)):Rd P tab ops nx0 nx k Q i (⟨dst,op,T,pos,after,some (j,t)⟩::r) acc fr hp=xo_ P tab ops nx0 nx k Q i r dst acc fr hp op:=by
 rw[yn_,vz_ h1,zs_,h2];simp[onGD]
@[go_sem] theorem Rd_gN (h1:(gAt ops j).isSome=true)(h2:fr ((gAt ops j).getD 0)= .v (.bool !t)):Rd P tab ops nx0 nx k Q i (⟨dst,op,T,pos,after,some (j,t)⟩::r) acc fr hp=Rd P tab ops nx0 nx k Q (i+1) r (⟨[],[],false⟩::acc) (putS dst (.tu []) fr) hp:=by
 rw[yn_,vz_ h1,zs_,h2];simp[onGD]
@[go_sem] theorem Rd_gU (h1:(gAt ops j).isSome=true)(h2:fr ((gAt ops j).getD 0)= .tu []):Rd P tab ops nx0 nx k Q i (⟨dst,op,T,pos,after,some (j,t)⟩::r) acc fr hp=Rd P tab ops nx0 nx k Q (i+1) r (⟨[],[],false⟩::acc) (putS dst (.tu []) fr) hp:=by
 rw[yn_,vz_ h1,zs_,h2];rfl
end
end
section
attribute [go_sem] wn_
end
section
end
end Go.Proofs.YtnmkbmefohakmaaGreat.Ab
