/-
 Regions, calls and code of the machine are the true ones.
-/
import Derived.Orders
import Derived.RangeFuncLeaves
import Derived.RangeFuncRecord
import Derived.Test.YtnmkbmefohakmaaGreatAbB
namespace Go.Proofs.YtnmkbmefohakmaaGreat.Ab
section
open Go.RowKit
inductive Ex where
 |normal |ret |exit (n:Nat)
def Ex.up:Ex->Exit
 | .normal=>.normal
 | .ret=>.ret
 | .exit n=>.exit n
def vn_ (P:Program)(f:FuncId):Prop:=∃fn,P.funcs[f]? =some fn/\(fn.name== "runtime.NumGoroutine")=false/\fn.body.isSome=true
def PureOK (P:Program)(f:FuncId)(ds:List D)(d:D)(fr:Bool):Prop:=
 vn_ P f/\∀(w:World) (M0:Nat->Prop) (args:Array Value),(∀k,M0 k->k<w.heap.size)->args.size=ds.length->
  (∀(j:Nat) (x:D),ds[j]? =some x->∃u,args[j]? =some u/\RV1 w (fun k=>k<w.heap.size/\¬M0 k) x u)->
  Calls P f args w fun e w'=>∃u,e= .returned u/\(Below w.heap.size w w'/\w.drawn<=w'.drawn)/\RV w' (fun k=>k<w'.heap.size/\¬M0 k/\(fr=true->w.heap.size<=k)) d u
def InlOK (P:Program)(f:FuncId)(vs:List AV)(hp:Hp)(nx:Nat)(R:AV->Hp->Nat->Prop):Prop:=
 vn_ P f/\∀(g:Gh) (c:Cf) (args:Array Value),c.hp=hp->(∀i,c.kn i->i<nx)->HR g c->args.size=vs.length->
  (∀(j:Nat) (x:AV),vs[j]? =some x->∃u,args[j]? =some u/\RAt g c x u)->
  Calls P f args c.w fun e w'=>∃u v c' nx',e= .returned u/\R v c'.hp nx'/\c'.w=w'/\Ext c c'/\HR g c'/\RAt g c' v u/\nx<=nx'/\∀i,c'.kn i->c.kn i\/(nx<=i/\i<nx')
def bK_ (P:Program)(f:AV)(vs:List AV)(hp:Hp)(nx:Nat)(K:AV->Hp->Nat->Prop):Prop:=
 match f with
 | .fn g caps=>(∃ds b is d fr,toDl hp (vs++caps)=some (ds,b,is)/\PureOK P g ds d fr/\(is= []\/fr=true)/\K (lift (!fr&&b) d) hp nx)\/InlOK P g (vs++caps) hp nx K
 |_=>False
def kT_ (P:Program)(tab:Nat->TI)(op:Op)(id:Nat)(s:St)(K:AV->Hp->Nat->Prop):Prop:=
 match op with
 | .call { callee:=.value f,args, .. }=>bK_ P (ev s.fr f) (args.toList.map (ev s.fr)) s.hp s.nx K
 |op=>match ql_ tab (ev s.fr) s.hp id op with
  |some (v,δ)=>K v (upds δ s.hp) s.nx
  |none=>False
def xC_ (ops:Array Oper)(o:Oper)(s:St)(yes no:Prop):Prop:=
 match o.guard with
 |none=>yes
 |some (j,t)=>match (ops[j]?).bind (·.dst) with
  |none=>no
  |some d=>match s.fr d with
   | .v (.bool b)=>(b=t->yes)/\(b= !t->no)
   | .tu []=>no
   |_=>False
def putS (d:Option Nat)(v:AV)(fr:Fr):Fr:=match d with
 |some t=>upd t v fr
 |none=>fr
def WL (P:Program)(tab:Nat->TI)(ops:Array Oper)(nx0:Nat)(K:St->Prop):List Nat->St->Prop
 |[],s=>K s
 |i::r,s=>match ops[i]? with
  |none=>WL P tab ops nx0 K r s
  |some o=>xC_ ops o s (kT_ P tab o.op (nx0+i) s fun v hp nx=>WL P tab ops nx0 K r ⟨putS o.dst v s.fr,hp,nx⟩) (WL P tab ops nx0 K r ⟨putS o.dst (.tu []) s.fr,s.hp,s.nx⟩)
structure Weak (s' s:St):Prop where
 fr:∀t,s'.fr t= .un\/s'.fr t=s.fr t
 hp:∀i,s'.hp i=none\/s'.hp i=s.hp i
 nx:s.nx<=s'.nx
mutual
def renA (ρ:Nat->Option Nat):AV->Option AV
 | .pt i o=>(ρ i).map fun j=>.pt j o
 | .pr i v k o=>(ρ i).map fun j=>.pr j v k o
 | .so i v o n=>(ρ i).map fun j=>.so j v o n
 | .mo i=>(ρ i).map .mo
 | .ag cs=>(renL ρ cs).map .ag
 | .tu cs=>(renL ρ cs).map .tu
 | .fn f cs=>(renL ρ cs).map (.fn f)
 | .v x=>some (.v x)
 | .d x b=>some (.d x b)
 | .un=>some .un
def renL (ρ:Nat->Option Nat):List AV->Option (List AV)
 |[]=>some []
 |c::r=>match renA ρ c,renL ρ r with
  |some d,some ds=>some (d::ds)
  |_,_=>none
end
def renM (ρ:Nat->Option Nat):List (Value × AV)->Option (List (Value × AV))
 |[]=>some []
 |(x,c)::r=>match renA ρ c,renM ρ r with
  |some d,some ds=>some ((x,d)::ds)
  |_,_=>none
def renO (ρ:Nat->Option Nat):AO->Option AO
 | .bx cs=>(renL ρ cs).map .bx
 | .rw es sz v br fz=>some (.rw es sz v br fz)
 | .mo es dl=>(renM ρ es).map fun es=>.mo es dl
structure Ren (n:Nat) (ρ:Nat->Option Nat) (s' s:St):Prop where
 old:∀i,i<n->ρ i=some i
 new:∀i j,n<=i->ρ i=some j->n<=j/\i<s'.nx
 inj:∀i i' j,ρ i=some j->ρ i'=some j->i=i'
 fr:∀t,s'.fr t= .un\/renA ρ (s'.fr t)=some (s.fr t)
 hp:∀i o,s'.hp i=some o->∃j o',ρ i=some j/\renO ρ o=some o'/\s.hp j=some o'
 nx:n<=s'.nx
inductive DatC (hp hp':Hp):AV->AV->Prop
 |same (x:AV):DatC hp hp' x x
 |dat (x:AV) (d:D) (b b':Bool) (is:List Nat) (h:toD1 hp x=some (d,b,is)) (hb:b=true->b'=true) (hi:∀i∈is,∀o,hp' i=some o->o.fz=true):DatC hp hp' x (.d d b')
inductive DatL (hp hp':Hp):List AV->List AV->Prop
 |nil:DatL hp hp' [] []
 |cons {x y:AV} {xs ys:List AV} (h:DatC hp hp' x y) (hs:DatL hp hp' xs ys):DatL hp hp' (x::xs) (y::ys)
inductive DatV (hp hp':Hp):AV->AV->Prop
 |same (x:AV):DatV hp hp' x x
 |un (x:AV):DatV hp hp' x .un
 |ag {cs ds:List AV} (h:DatL hp hp' cs ds):DatV hp hp' (.ag cs) (.ag ds)
 |dat (x:AV) (d:D) (b b':Bool) (is:List Nat) (h:toD hp x=some (d,b,is)) (hb:b=true->b'=true) (hi:∀i∈is,∀o,hp' i=some o->o.fz=true):DatV hp hp' x (.d d b')
inductive DatO (hp hp':Hp):AO->AO->Prop
 |same (o:AO):DatO hp hp' o o
 |fz (es:List (List D)) (sz v:Nat) (br fz:Bool):DatO hp hp' (.rw es sz v br fz) (.rw es sz v br true)
 |bx {cs ds:List AV} (h:DatL hp hp' cs ds):DatO hp hp' (.bx cs) (.bx ds)
structure Dat (s' s:St):Prop where
 fr:∀t,DatV s.hp s'.hp (s.fr t) (s'.fr t)
 hp:∀i o',s'.hp i=some o'->∃o,s.hp i=some o/\DatO s.hp s'.hp o o'
 nx:s.nx<=s'.nx
inductive WeakR (n:Nat):St->St->Prop
 |weak {s' s:St} (h:Weak s' s):WeakR n s' s
 |ren {s' s:St} (ρ:Nat->Option Nat) (h:Ren n ρ s' s):WeakR n s' s
 |dat {s' s:St} (h:Dat s' s):WeakR n s' s
 |trans {s' m s:St} (h:WeakR n s' m) (h2:WeakR n m s):WeakR n s' s
def W (P:Program)(tab:Nat->TI):Code->(Ex->St->Prop)->St->Prop
 | .skip,Q,s=>Q .normal s
 | .label _,Q,s=>Q .normal s
 | .ret,Q,s=>Q .ret s
 | .exit n,Q,s=>Q (.exit n) s
 | .seq a b,Q,s=>W P tab a (fun e s'=>match e with | .normal=>W P tab b Q s' |e=>Q e s') s
 | .cond c a b,Q,s=>match ev s.fr c with
  | .v (.bool t)=>(t=true->W P tab a Q s)/\(t=false->W P tab b Q s)
  |_=>False
 | .block n a,Q,s=>W P tab a (fun e s'=>match e with | .exit m=>if m=n then Q .normal s' else Q (.exit m) s' |e=>Q e s') s
 | .region _ ops draw,Q,s=>match draw with
  |false=>WL P tab ops s.nx (Q .normal) (List.range ops.size) ⟨s.fr,s.hp,s.nx+ops.size⟩
  |true=>∀t,WL P tab ops s.nx (Q .normal) (Region.linearise .any ops t) ⟨s.fr,s.hp,s.nx+ops.size⟩
 | .loop a,Q,s=>∀X:St->Prop,(∀s0,W P tab a (fun e s'=>match e with | .normal=>X s' |e=>Q e s') s0->X s0)->(∀s1 s2,WeakR s.nx s1 s2->X s1->X s2)->X s
 |_,_,_=>False
def jK_ (N:Nat):Code->Bool
 | .region _ ops _=>ops.all fun o=>match o.dst with |some d=>decide (d<N) |none=>true
 | .seq a b=>jK_ N a&&jK_ N b
 | .cond _ a b=>jK_ N a&&jK_ N b
 | .block _ a=>jK_ N a
 | .loop a=>jK_ N a
 | .rangeFunc _ ps a b=>(ps.all fun p=>decide (p<N))&&jK_ N a&&jK_ N b
 |_=>true
def Marks (B:Nat):List Deferred->World->Prop
 |[],_=>True
 |d::ds,w=>(∃r,B<=r/\d.target= .collected r/\w.heap[r]? =some (.deferred (some []))/\∀e∈ds,e.target≠ .collected r)/\Marks B ds w
theorem Marks.to {B:Nat}{w w':World}:∀ {ds:List Deferred},(∀d∈ds,∀r:Nat,d.target= .collected r->w.heap[r]? =some (.deferred (some []))->w'.heap[r]? =w.heap[r]?)->Marks B ds w->Marks B ds w'
 |[],_,_=>trivial
 |d::_,h,⟨⟨r,h1,h2,h3,h4⟩,h5⟩=>⟨⟨r,h1,h2,(h d (List.mem_cons_self ..) r h2 h3).trans h3,h4⟩,Marks.to (fun e he=>h e (List.mem_cons_of_mem _ he)) h5⟩
theorem HR.not_mark {g:Gh}{c:Cf}(h:HR g c){id:Nat}{o:AO}(ho:c.hp id=some o):c.w.heap[c.φ id]? ≠some (.deferred (some [])):=fun e=>by
 have:=h.obj id o ho
 cases o with
 |bx cs=>obtain⟨T,vs,h1,_⟩:=this;rw[h1] at e;cases e
 |rw es sz v br fz=>obtain⟨_,_,T,vs,C,h1,_⟩:=this;rw[h1] at e;cases e
 |mo es dl=>obtain⟨en,k,h1,_⟩:=this;rw[h1] at e;cases e
theorem Marks.ext {g:Gh}{c c':Cf}{B:Nat}{ds:List Deferred}(h:Marks B ds c.w)(hr:HR g c)(he:Ext c c'):Marks B ds c'.w:=
 h.to fun _ _ k _ hk=>he.block k (Array.getElem?_eq_some_iff.1 hk).1 fun _ _ ho _ e=>hr.not_mark ho (e▸hk)
def Dfs (B:Nat)(ds:List Deferred)(w:World):Prop:=B<=w.heap.size/\Marks B ds w
theorem Dfs.ext {g:Gh}{c c':Cf}{B:Nat}{ds:List Deferred}(h:Dfs B ds c.w)(hr:HR g c)(he:Ext c c'):Dfs B ds c'.w:=⟨Nat.le_trans h.1 he.size,h.2.ext hr he⟩
structure Sim (g:Gh) (s:St) (c:Cf) (a:Act) (N:Nat):Prop where
 hp:c.hp=s.hp
 hr:HR g c
 kn:∀i,c.kn i->i<s.nx
 fr:∀t,RAt g c (s.fr t) (a.tmps.getD t undef)
 size:a.tmps.size=N
 dfs:Dfs g.fb a.defers c.w
section
variable {P:Program}{tab:Nat->TI}{g:Gh}{N:Nat}
theorem ofV_ok (c:Cf)(x:Value):RAt g c (ofV x) x:=by
 unfold ofV;split
 ·rename_i cs
  split
  ·rename_i h
   refine⟨cs,rfl,by simp,fun j y hy=> ?_⟩;rw[List.getElem?_map,Option.map_eq_some_iff] at hy;obtain⟨z,h1,rfl⟩:=hy;exact⟨z,by simpa using h1,RA.v z (List.all_eq_true.1 h z (List.mem_of_getElem? h1))⟩
  ·trivial
 ·trivial
 ·rename_i h1 h2
  refine RA.v x ?_;cases x<;>first |rfl |(exact absurd rfl (h1 _)) |(exact absurd rfl (h2 _))
theorem uL_ {s:St}{c:Cf}{a:Act}(h:∀t,RAt g c (s.fr t) (a.tmps.getD t undef))(x:Operand):RAt g c (ev s.fr x) (a.eval x):=by
 cases x with
 |tmp t=>exact h t
 |const v=>exact ofV_ok c v
 |func f=>
  have:=RA.fn (g:=g) (c:=c) f [] (fun _=>undef) 0 rfl (fun j x h=>by simp at h)
  exact this
 |global n=>trivial
theorem sO_ {s:St}{c c':Cf}{a:Act}(h:∀t,RAt g c (s.fr t) (a.tmps.getD t undef))(he:Ext c c'){d:Option Nat}(hd:∀t,d=some t->t<a.tmps.size){v:AV}{u:Value}(hv:RAt g c' v u):
  ∀t,RAt g c' (putS d v s.fr t) ((a.put d u).tmps.getD t undef):=by
 intro t;cases d with
 |none=>exact(h t).ext he
 |some k=>
  simp only[putS,Act.put];by_cases e:t=k
  ·subst e
   have:=hd t rfl
   rw[qd_];simpa [Array.getD,this] using hv
  ·rw[qb_ _ _ e]
   have:(a.tmps.setIfInBounds k u).getD t undef=a.tmps.getD t undef:=by
    simp only[Array.getD_eq_getD_getElem?];grind
   rw[this];exact(h t).ext he
theorem fO_ (a:Act)(d:Option Nat)(u:Value):(a.put d u).tmps.size=a.tmps.size:=by cases d<;>simp[Act.put]
theorem kj_ (a:Act)(d:Option Nat)(u:Value):(a.put d u).defers=a.defers:=by cases d<;>rfl
theorem yC_ {o:Oper}{a:Act}{f:Operand}{args:Array Operand}{ty:Array TypeId}(ho:o.op= .call { callee:=.value f,args:=args,argTypes:=ty }){k:FuncId}(he:vn_ P k){caps:Array Value}(hf:a.eval f= .func (.func k) #[] caps)(w:World):
  (execOp a.eval o).run P w= .ok (.enter k (args.map a.eval++caps)) w:=by
 obtain⟨fn,h1,h2,h3⟩:=he;obtain⟨b,hb⟩:=Option.isSome_iff_exists.1 h3;have hn:¬fn.name= "runtime.NumGoroutine" :=by simpa using h2
 unfold execOp;simp[ho,resolve,hf,Deferred.ofValue,invoke,callFunc,program,Sem.run,h1,hn,hb]
theorem wJ_ {vals:Array Value}{xs:List AV}{R:AV->Value->Prop}(h:∀(j:Nat) (x:AV),xs[j]? =some x->∃u,vals[j]? =some u/\R x u):∀(j:Nat) (x:AV),xs[j]? =some x->R x (vals.getD j undef):=by
 intro j x hj;obtain⟨u,h1,h2⟩:=h j x hj;simp_all
theorem yD_ {s:St}{c:Cf}{a:Act}(h:∀t,RAt g c (s.fr t) (a.tmps.getD t undef))(args:Array Operand){caps:List AV}{us:Nat->Value}{n:Nat}(hn:caps.length=n)(hus:∀(j:Nat) (x:AV),caps[j]? =some x->RA g c x (us j)):
  (args.map a.eval++Array.ofFn (n:=n) fun j=>us j).size=(args.toList.map (ev s.fr)++caps).length/\∀(j:Nat) (x:AV),(args.toList.map (ev s.fr)++caps)[j]? =some x->∃u,(args.map a.eval++Array.ofFn (n:=n) fun j=>us j)[j]? =some u/\RAt g c x u:=by
 refine⟨by simp[hn],fun j x hj=> ?_⟩;by_cases hl:j<args.size
 ·rw[List.getElem?_append_left (by simpa using hl),List.getElem?_map,Option.map_eq_some_iff] at hj
  obtain⟨y,h1,rfl⟩:=hj;simp_all [uL_,Array.getElem?_append_left]
 ·rw[List.getElem?_append_right (by simp;omega)] at hj
  simp only[List.length_map,Array.length_toList] at hj;have hlt:=(List.getElem?_eq_some_iff.1 hj).1;refine⟨us (j-args.size),?_,(hus _ _ hj).toAt⟩;simp_all [Array.getElem?_append_right]
theorem k1_ {vals:Array Value}{j:Nat}(h:j<vals.size):vals[j]? =some (vals.getD j undef):=by simp[Array.getD,h]
theorem bL_ {o:Oper}{a:Act}{c:Cf}{s:St}(hs:Sim g s c a N){f:Operand}{args:Array Operand}{ty:Array TypeId}(ho:o.op= .call { callee:=.value f,args:=args,argTypes:=ty }){k:FuncId}{caps:List AV}(hf:ev s.fr f= .fn k caps)
  {ds:List D} {b:Bool} {is:List Nat} {d:D} {fr:Bool} (hd:toDl s.hp (args.toList.map (ev s.fr)++caps)=some (ds,b,is)) (hp:PureOK P k ds d fr) (hi:is= []\/fr=true) {K:Value->World->Prop}
  (h:∀u c',c'.hp=c.hp->c'.kn=c.kn->Ext c c'->HR g c'->RAt g c' (lift (!fr&&b) d) u->K u c'.w):
  ∃vals,(execOp a.eval o).run P c.w= .ok (.enter k vals) c.w/\Calls P k vals c.w fun e w'=>∃u,e= .returned u/\K u w':=by
 have hfv:=uL_ hs.fr f;rw[hf] at hfv;generalize hF:a.eval f=fv at hfv;cases(show RA g c (.fn k caps) fv from hfv) with
 |fn _ _ us n hn hus=>
  obtain⟨hsz,hall⟩:=yD_ hs.fr args hn hus;refine⟨_,yC_ ho hp.1 hF c.w,?_⟩;generalize (args.map a.eval++Array.ofFn (n:=n) fun j=>us j)=vals at hsz hall;obtain⟨_,hp⟩:=hp;have hgo:∀(I:Nat->Prop),(∀k,Im g c b k->I k)->(∀i∈is,I (c.φ i))->vals.size=ds.length/\∀(j:Nat) (x:D),ds[j]? =some x->∃u,vals[j]? =some u/\RV1 c.w I x u:=by
   intro I h1 h2;obtain⟨g1,g2⟩:=yt_ hs.hr hs.hp I (fun j=>vals.getD j undef) hd (wJ_ hall) h1 h2;refine⟨by omega,fun j x hj=>⟨_,k1_ (by grind),(g2 j x hj).1⟩⟩
  have fin:∀(I:Nat->Prop) (u:Value) (w':World),Below c.w.heap.size c.w w'/\c.w.drawn<=w'.drawn->RV w' I d u->(∀k,I k->k<w'.heap.size/\(c.w.heap.size<=k\/Im g c (!fr&&b) k))->K u w':=by
   intro I u w' ⟨hb,hdr⟩ hv hI;have he:Ext c ⟨c.hp,c.φ,w',c.kn⟩:=⟨hb.os,hb.tape,hb.output,hb.size,fun _ h=>h,fun k hk _=>hb.block k hk,fun id o ho hf=>.inr ⟨o,ho,hf,rfl⟩,fun _ _ h=>⟨rfl,h⟩,
    fun id es _ v br fz hk hr=>⟨es,v,br,fz,hr,Nat.le_refl _,fun _=>⟨rfl,rfl,fun cur _ e=>⟨cur,(hb.block _ (hs.hr.dom id _ hr).2.2).trans e,rfl⟩⟩⟩,hdr⟩
   have hr':HR g ⟨c.hp,c.φ,w',c.kn⟩:=⟨Nat.le_trans hs.hr.le hb.size,fun k hk=>Nat.lt_of_lt_of_le (hs.hr.m0 k hk) hb.size,fun id o ho=>⟨(hs.hr.dom id o ho).1,(hs.hr.dom id o ho).2.1,Nat.lt_of_lt_of_le (hs.hr.dom id o ho).2.2 hb.size⟩,hs.hr.inj,fun id o ho=>(hs.hr.obj id o ho).ext he rfl (hb.block _ (hs.hr.dom id o ho).2.2)⟩;refine h u ⟨c.hp,c.φ,w',c.kn⟩ rfl rfl he hr' ?_
   have hv2:RV w' (Im g ⟨c.hp,c.φ,w',c.kn⟩ (!fr&&b)) d u:=hv.mono (fun _ _=>rfl) fun k hk=>by
    obtain⟨h1,h2⟩:=hI k hk;rcases h2 with h2 |h2
    ·refine⟨h1,fun hm=> ?_,fun id o ho _ e=> ?_,fun _=>Nat.le_trans hs.hr.le h2⟩
     ·have:=hs.hr.m0 k hm
      have:=hs.hr.le
      omega
     ·have:=(hs.hr.dom id o ho).2.2
      simp only at e;omega
    ·exact h2.ext he
   cases d with
   |v x=>exact(RC.toRA (c:=⟨c.hp,c.φ,w',c.kn⟩) hv2).toAt
   |sl es=>exact(RC.toRA (c:=⟨c.hp,c.φ,w',c.kn⟩) hv2).toAt
   |pt cs off=>exact(RC.toRA (c:=⟨c.hp,c.φ,w',c.kn⟩) hv2).toAt
   |mp es=>exact(RC.toRA (c:=⟨c.hp,c.φ,w',c.kn⟩) hv2).toAt
   |ag cs=>exact hv2
   |tu cs=>exact hv2
  by_cases hfr:fr=true
  ·subst hfr
   obtain⟨q1,q2⟩:=hgo (fun k=>k<c.w.heap.size/\¬False) (fun k hk=>⟨hk.1,fun h=>h⟩) (fun i hi=>by
    obtain⟨es,sz,v,br,fz,h1⟩:=vw_ hd i hi;exact⟨(hs.hr.dom i _ (hs.hp▸h1)).2.2,fun h=>h⟩)
   refine(hp c.w (fun _=>False) vals (fun _ h=>h.elim) q1 q2).mono fun e w' ⟨u,he,hb,hv⟩=>⟨u,he,fin _ u w' hb hv fun k hk=>⟨hk.1,.inl (hk.2.2 rfl)⟩⟩
  ·have h0:is= []:=by
    rcases hi with hi |hi
    ·exact hi
    ·exact absurd hi hfr
   subst h0;have hfr2:fr=false:=by simpa using hfr
   subst hfr2;obtain⟨q1,q2⟩:=hgo (fun k=>k<c.w.heap.size/\¬(k<c.w.heap.size/\¬Im g c b k)) (fun k hk=>⟨hk.1,fun h=>h.2 hk⟩) (fun i hi=>by simp at hi);refine(hp c.w (fun k=>k<c.w.heap.size/\¬Im g c b k) vals (fun _ h=>h.1) q1 q2).mono fun e w' ⟨u,he,hb,hv⟩=>⟨u,he,fin _ u w' hb hv fun k hk=>⟨hk.1,?_⟩⟩;grind
end
end
section
open Go.RowKit
section
variable {P:Program}{tab:Nat->TI}{g:Gh}{N:Nat}
theorem fP_ {ops:Array Oper}{o:Oper}{s:St}{c:Cf}{a:Act}{yes no:Prop}(hs:Sim g s c a N)(h:xC_ ops o s yes no):(Region.wanted o (yielded ops a.tmps)=true/\yes)\/(Region.wanted o (yielded ops a.tmps)=false/\no):=by
 unfold xC_ at h;unfold Region.wanted;split at h
 ·grind
 ·rename_i j t e
  rw[e];split at h
  ·rename_i e2
   refine .inr ⟨?_,h⟩;simp[yielded,e2]
  ·rename_i d e2
   split at h
   ·rename_i b e3
    have hv:=hs.fr d;rw[e3] at hv;have h1:=hv.v.1;have h2:a.tmps[d]? =some (.bool b):=by
     rw[Array.getD_eq_getD_getElem?] at h1;cases h3:a.tmps[d]? with
     |none=>rw[h3] at h1;cases h1
     |some x=>grind
    by_cases hb:b=t
    ·refine .inl ⟨?_,h.1 hb⟩
     simp[yielded,e2,h2,hb]
    ·refine .inr ⟨?_,h.2 (by cases b<;>cases t<;>simp_all)⟩
     simp[yielded,e2,h2,hb]
   ·rename_i e3
    have hv:=hs.fr d;rw[e3] at hv;obtain⟨vs,h1,_,_⟩:=hv;refine .inr ⟨?_,h⟩;have h2:∀b,a.tmps[d]? ≠some (.bool b):=fun b hb=>by
     simp_all
    grind [yielded,bool,absurd]
   ·exact h.elim
theorem k2_ (c:Cf):RAt g c (.tu []) undef:=⟨#[],rfl,rfl,fun j x h=>by simp at h⟩
theorem fQ_ (ht:TabOk P tab){ops:Array Oper}{nx0:Nat}{K:St->Prop}{Q:Exit->Act->World->Prop}(hd:∀(i:Nat) (o:Oper) (d:Nat),ops[i]? =some o->o.dst=some d->d<N):
  ∀(l:List Nat) (s:St) (c:Cf) (a:Act),l.Nodup->(∀i∈l,i<ops.size)->WL P tab ops nx0 K l s->Sim g s c a N->(∀j,c.kn j->∀i∈l,j≠nx0+i)->nx0+ops.size<=s.nx->
   (∀s' c' a',K s'->Sim g s' c' a' N->Ext c c'->s.nx<=s'.nx->(∀i,c'.kn i->c.kn i\/nx0<=i)->a'.defers=a.defers->Q .normal a' c'.w)->wpOps P ops Q l a c.w
 |[],s,c,a,_,_,h,hs,_,_,hQ=>hQ s c a h hs (Ext.refl c) (Nat.le_refl _) (fun _ h=>.inl h) rfl
 |i::l,s,c,a,hn,hb,h,hs,hkn,hnx,hQ=>by
  obtain⟨hni,hnl⟩:=List.nodup_cons.1 hn;unfold WL at h;unfold wpOps;cases ho:ops[i]? with
  |none=>
   grind
  |some o=>
   rw[ho] at h;have hlt:i<ops.size:=(Array.getElem?_eq_some_iff.1 ho).1;have hdst:∀t,o.dst=some t->t<a.tmps.size:=fun t e=>by rw[hs.size];exact hd i o t ho e
   have hid:¬c.kn (nx0+i):=fun hk=>hkn _ hk i (List.mem_cons_self ..) rfl;have next:∀(c':Cf) (v:AV) (u:Value) (hp':Hp) (nx':Nat),c'.hp=hp'->HR g c'->Ext c c'->RAt g c' v u->s.nx<=nx'->(∀j,c'.kn j->c.kn j\/j=nx0+i\/(s.nx<=j/\j<nx'))->WL P tab ops nx0 K l ⟨putS o.dst v s.fr,hp',nx'⟩->wpOps P ops Q l (a.put o.dst u) c'.w:=by
    intro c' v u hp' nx' h1 h2 h3 h4 h5 h6 h7;refine fQ_ ht hd l _ c' _ hnl (fun i hi=>hb i (List.mem_cons_of_mem _ hi)) h7 ⟨h1,h2,fun j hj=> ?_,sO_ hs.fr h3 hdst h4,by rw[fO_];exact hs.size,by rw[kj_];exact hs.dfs.ext hs.hr h3⟩ (fun j hj i' hi'=> ?_) (Nat.le_trans hnx h5) fun s' c'' a' k1 k2 k3 k4 k5 k6=>
     hQ s' c'' a' k1 k2 (h3.trans k3) (Nat.le_trans h5 k4) (fun j hj=> ?_) (by rw[k6,kj_])
    ·have:=hs.kn j
     grind
    ·grind
    ·grind
   rcases fP_ hs h with⟨hw,h⟩ |⟨hw,h⟩
   ·simp only[hw,if_true]
    left;unfold kT_ at h;split at h
    ·rename_i f args argTypes hop
     have hop':o.op= .call { callee:=.value f,args:=args,argTypes:=argTypes }:=hop;unfold bK_ at h;split at h
     ·rename_i k caps hf
      rcases h with⟨ds,b,is,d,fr,h1,h2,h3,h4⟩ |h
      ·obtain⟨vals,h5,h6⟩:=bL_ (K:=fun u w'=>wpOps P ops Q l (a.put o.dst u) w') hs hop' hf h1 h2 h3 fun u c' e1 e2 e3 e4 e5=>
        next c' _ u s.hp s.nx (e1.trans hs.hp) e4 e3 e5 (Nat.le_refl _) (fun j hj=>.inl (by rw[e2] at hj;exact hj)) h4
       unfold Oper.wp;rw[h5,Oper.upon_enter];exact h6.mono fun e w' ⟨u,he,hk⟩=>by rw[he];exact hk
      ·obtain⟨hen,hin⟩:=h
       have hfv:=uL_ hs.fr f;rw[hf] at hfv;generalize hF:a.eval f=fv at hfv;cases(show RA g c (.fn k caps) fv from hfv) with
       |fn _ _ us n hn' hus=>
        obtain⟨hsz,hall⟩:=yD_ hs.fr args hn' hus;unfold Oper.wp;rw[yC_ hop' hen hF c.w,Oper.upon_enter];refine(hin g c _ hs.hp hs.kn hs.hr hsz hall).mono fun e w' ⟨u,v,c',nx',he,hR,hw',h1,h2,h3,h4,h5⟩=> ?_;grind
     ·exact h.elim
    ·split at h
     ·rename_i v δ hv
      rw[<-hs.hp] at hv;obtain⟨φ',u,w',hrun,hext,hhr,hrv⟩:=kB_ (o:=o) (a:=a) hs.hr ht (fun x=>uL_ hs.fr x) hid hv;have hgo:=next ⟨upds δ c.hp,φ',w',fun k=>c.kn k\/k=nx0+i⟩ v u (upds δ s.hp) s.nx (by rw[hs.hp]) hhr hext hrv (Nat.le_refl _) (fun j hj=>hj.imp_right .inl) h;unfold Oper.wp;rcases hrun with hrun |⟨hrun,hu⟩
      ·rw[hrun];exact hgo
      ·rw[hrun,Oper.upon_skip,<-hu];exact hgo
     ·exact h.elim
   ·simp only[hw,Bool.false_eq_true,if_false]
    refine next c (.tu []) undef s.hp s.nx hs.hp hs.hr (Ext.refl c) (k2_ c) (Nat.le_refl _) (fun j hj=>.inl hj) h
theorem mV_ (md:Region.Mode)(ops:Array Oper):∀(fuel t:Nat) (listed:Array Bool),listed.size=ops.size->
  (Region.linearise.go md ops fuel t listed []).Nodup/\∀i∈Region.linearise.go md ops fuel t listed [],i<ops.size/\listed[i]? =some false:=by
 intro fuel;induction fuel with
 |zero=>intro t listed _;simp[Region.linearise.go]
 |succ fuel ih=>
  intro t listed hs;simp only[Region.linearise.go];split
  ·rename_i i hi
   rw[linearise_go_acc,List.reverse_singleton,List.singleton_append];have hmem:=List.mem_of_getElem? hi;simp only[List.mem_filter,List.mem_range,Bool.and_eq_true,Bool.not_eq_true'] at hmem;obtain⟨h1,h2,_⟩:=hmem;have h3:listed[i]? =some false:=by
    rw[Array.getD_eq_getD_getElem?] at h2;rw[Array.getElem?_eq_getElem (by omega)] at h2⊢;simpa using h2
   grind
  ·simp
theorem lin_ok (ops:Array Oper)(t:Nat):(Region.linearise .any ops t).Nodup/\∀i∈Region.linearise .any ops t,i<ops.size:=by
 obtain⟨h1,h2⟩:=mV_ .any ops ops.size t (Array.replicate ops.size false) (by simp);exact⟨h1,fun i hi=>(h2 i hi).1⟩
theorem Ext.world {c:Cf}(hr:HR g c){w':World}(hh:w'.heap=c.w.heap)(hos:w'.os=c.w.os)(ht:w'.tape=c.w.tape)(hou:w'.output=c.w.output)(hdr:c.w.drawn<=w'.drawn:=by first |exact Nat.le_refl _ |exact Nat.le_succ _):Ext c ⟨c.hp,c.φ,w',c.kn⟩/\HR g ⟨c.hp,c.φ,w',c.kn⟩:=by
 have he:Ext c ⟨c.hp,c.φ,w',c.kn⟩:=⟨hos,ht,hou,by simp only[hh];exact Nat.le_refl _,fun _ h=>h,fun k _ _=>by simp only[hh],fun id o ho hf=>.inr ⟨o,ho,hf,rfl⟩,fun _ _ h=>⟨rfl,h⟩,
  fun id es _ v br fz _ h=>⟨es,v,br,fz,h,Nat.le_refl _,fun _=>⟨rfl,rfl,fun cur _ e=>⟨cur,by simp only[hh];exact e,rfl⟩⟩⟩,hdr⟩
 exact⟨he,⟨by simp only[hh];exact hr.le,fun k hk=>by simp only[hh];exact hr.m0 k hk,fun id o ho=>⟨(hr.dom id o ho).1,(hr.dom id o ho).2.1,by simp only[hh];exact(hr.dom id o ho).2.2⟩,hr.inj,fun id o ho=>(hr.obj id o ho).ext he rfl (by simp only[hh])⟩⟩
theorem Ext.less {c:Cf}(hr:HR g c){hp':Hp}(hh:∀i,hp' i=none\/hp' i=c.hp i):Ext c ⟨hp',c.φ,c.w,c.kn⟩/\HR g ⟨hp',c.φ,c.w,c.kn⟩:=by
 have hsub:∀i o,hp' i=some o->c.hp i=some o:=fun i o h=>by
  grind
 have he:Ext c ⟨hp',c.φ,c.w,c.kn⟩:=⟨rfl,rfl,rfl,Nat.le_refl _,fun _ h=>h,fun _ _ _=>rfl,fun id o ho hf=>.inr ⟨o,hsub id o ho,hf,rfl⟩,fun id _ h=>⟨rfl,fun o ho=>h o (hsub id o ho)⟩,
  fun id es _ v br fz _ h=>⟨es,v,br,fz,hsub id _ h,Nat.le_refl _,fun _=>⟨rfl,rfl,fun cur _ e=>⟨cur,e,rfl⟩⟩⟩,Nat.le_refl _⟩
 exact⟨he,⟨hr.le,hr.m0,fun id o ho=>hr.dom id o (hsub id o ho),fun i j o p hi hj=>hr.inj i j o p (hsub i o hi) (hsub j p hj),fun id o ho=>(hr.obj id o (hsub id o ho)).ext he rfl rfl⟩⟩
theorem Sim.weak {s s':St}{c:Cf}{a:Act}(hs:Sim g s c a N)(hw:Weak s' s):∃c',Sim g s' c' a N/\c'.w=c.w/\Ext c c'/\c'.kn=c.kn:=by
 obtain⟨he,hr⟩:=Ext.less hs.hr (hp':=s'.hp) fun i=>by rw[hs.hp];exact hw.hp i
 refine⟨_,⟨rfl,hr,fun i hi=>Nat.lt_of_lt_of_le (hs.kn i hi) hw.nx,fun t=> ?_,hs.size,hs.dfs⟩,rfl,he,rfl⟩;rcases hw.fr t with h |h
 ·rw[h];trivial
 ·rw[h];exact(hs.fr t).ext he
def Post (g:Gh)(N:Nat)(Q:Ex->St->Prop)(nx:Nat)(c:Cf)(e:Exit)(a':Act)(w':World):Prop:=
 ∃ex s' c',e=ex.up/\Q ex s'/\Sim g s' c' a' N/\c'.w=w'/\Ext c c'/\nx<=s'.nx/\∀i,c'.kn i->c.kn i\/nx<=i
theorem Post.mono {Q Q':Ex->St->Prop}{nx:Nat}{c:Cf}{e:Exit}{a':Act}{w':World}(h:Post g N Q nx c e a' w')(hq:∀ex s,Q ex s->Q' ex s):Post g N Q' nx c e a' w':=by
 obtain⟨ex,s',c',h1,h2,h3⟩:=h;exact⟨ex,s',c',h1,hq ex s' h2,h3⟩
theorem Post.after {Q:Ex->St->Prop}{nx nx':Nat}{c c':Cf}{e:Exit}{a':Act}{w':World}(h:Post g N Q nx' c' e a' w')(he:Ext c c')(hn:nx<=nx')(hk:∀i,c'.kn i->c.kn i\/nx<=i):Post g N Q nx c e a' w':=by
 obtain⟨ex,s',c'',h1,h2,h3,h4,h5,h6,h7⟩:=h;refine⟨ex,s',c'',h1,h2,h3,h4,he.trans h5,Nat.le_trans hn h6,fun i hi=> ?_⟩;grind
structure ExtR (n:Nat) (c c':Cf):Prop where
 os:c'.w.os=c.w.os
 tape:c'.w.tape=c.w.tape
 output:c'.w.output=c.w.output
 size:c.w.heap.size<=c'.w.heap.size
 kn:∀id,id<n->c.kn id->c'.kn id
 block:∀k,k<c.w.heap.size->(∀id o,c.hp id=some o->o.fz=false->c.φ id≠k)->c'.w.heap[k]? =c.w.heap[k]?
 muts:∀id o',c'.hp id=some o'->o'.fz=false->c.w.heap.size<=c'.φ id\/∃id0 o,(id0=id\/(n<=id0/\n<=id))/\c.hp id0=some o/\o.fz=false/\c'.φ id=c.φ id0
 keep:∀id,id<n->c.kn id->(∀o,c.hp id=some o->o.isRw=false)->c'.φ id=c.φ id/\∀o',c'.hp id=some o'->o'.isRw=false
 rows:∀id es' sz v' br' fz',id<n->c.kn id->c'.hp id=some (.rw es' sz v' br' fz')->∃es v br fz,c.hp id=some (.rw es sz v br fz)/\v<=v'/\
  (v=v'->c'.φ id=c.φ id/\es.length=es'.length/\∀cur T,c.w.heap[c.φ id]? =some (.cells cur T (0,0))->∃cur',c'.w.heap[c.φ id]? =some (.cells cur' T (0,0))/\cur'.size=cur.size)
 drawn:c.w.drawn<=c'.w.drawn
theorem Ext.toR {n:Nat}{c c':Cf}(h:Ext c c'):ExtR n c c':=
 ⟨h.os,h.tape,h.output,h.size,fun i _ hi=>h.kn i hi,h.block,fun id o' h1 h2=>(h.muts id o' h1 h2).imp_right fun⟨o,e⟩=>⟨id,o,.inl rfl,e⟩,fun i _=>h.keep i,fun i es sz v br fz _=>h.rows i es sz v br fz,h.drawn⟩
theorem ExtR.toE {n:Nat}{c c':Cf}(h:ExtR n c c')(hr:HR g c)(hk:∀i,c.kn i->i<n):Ext c c':=by
 refine⟨h.os,h.tape,h.output,h.size,fun i hi=>h.kn i (hk i hi) hi,h.block,fun id o' h1 h2=>(h.muts id o' h1 h2).imp_right ?_,fun i hi=>h.keep i (hk i hi) hi,fun i es sz v br fz hi=>h.rows i es sz v br fz (hk i hi) hi,h.drawn⟩;rintro⟨id0,o,e |⟨e,_⟩,h3,h4⟩
 ·subst e;exact⟨o,h3,h4⟩
 ·have:=hk id0 (hr.dom id0 o h3).1
  omega
theorem ExtR.trans {n:Nat}{a b c:Cf}(h:ExtR n a b)(k:ExtR n b c):ExtR n a c:=by
 refine⟨k.os.trans h.os,k.tape.trans h.tape,k.output.trans h.output,Nat.le_trans h.size k.size,fun i hl hi=>k.kn i hl (h.kn i hl hi),?_,?_,?_,?_,Nat.le_trans h.drawn k.drawn⟩
 ·intro x hx hm
  refine(k.block x (Nat.lt_of_lt_of_le hx h.size) fun id o ho hf=> ?_).trans (h.block x hx hm);rcases h.muts id o ho hf with h1 |⟨id1,o1,_,h1,h2,h3⟩
  ·omega
  ·rw[h3];exact hm id1 o1 h1 h2
 ·intro id o' ho hf
  rcases k.muts id o' ho hf with h1 |⟨id1,o1,e1,h1,h2,h3⟩
  ·exact .inl (Nat.le_trans h.size h1)
  ·rcases h.muts id1 o1 h1 h2 with h4 |⟨id2,o2,e2,h4,h5,h6⟩
   ·exact .inl (by rw[h3];exact h4)
   grind
 ·intro id hl hn ho
  obtain⟨h1,h2⟩:=h.keep id hl hn ho;obtain⟨h3,h4⟩:=k.keep id hl (h.kn _ hl hn) h2;exact⟨h3.trans h1,h4⟩
 ·intro id es' sz v' br' fz' hl hn hr
  obtain⟨es1,v1,br1,fz1,h1,h2,h3⟩:=k.rows id es' sz v' br' fz' hl (h.kn _ hl hn) hr;obtain⟨es0,v0,br0,fz0,h4,h5,h6⟩:=h.rows id es1 sz v1 br1 fz1 hl hn h1;grind
theorem gL_ {ρ:Nat->Option Nat}{o o':AO}(h:renO ρ o=some o'):o'.fz=o.fz/\o'.isRw=o.isRw:=by
 cases o with
 |bx cs=>simp only[renO,Option.map_eq_some_iff] at h;obtain⟨_,_,rfl⟩:=h;exact⟨rfl,rfl⟩
 |rw es sz v br fz=>simp only[renO,Option.some.injEq] at h;subst h;exact⟨rfl,rfl⟩
 |mo es dl=>simp only[renO,Option.map_eq_some_iff] at h;obtain⟨_,_,rfl⟩:=h;exact⟨rfl,rfl⟩
theorem yE_ {ρ:Nat->Option Nat}:∀ {cs ds:List AV},renL ρ cs=some ds->cs.length=ds.length/\∀(j:Nat) (x:AV),cs[j]? =some x->∃y,ds[j]? =some y/\renA ρ x=some y
 |[],ds,h=>by simp only[renL,Option.some.injEq] at h;grind
 |c::r,ds,h=>by
  simp only[renL] at h;split at h
  ·rename_i d ds' h1 h2
   simp only[Option.some.injEq] at h;subst h;obtain⟨g1,g2⟩:=yE_ h2;grind
  ·cases h
theorem mW_ {ρ:Nat->Option Nat}:∀ {cs ds:List (Value × AV)},renM ρ cs=some ds->cs.length=ds.length/\∀(j:Nat) (k:Value) (x:AV),cs[j]? =some (k,x)->∃y,ds[j]? =some (k,y)/\renA ρ x=some y
 |[],ds,h=>by simp only[renM,Option.some.injEq] at h;grind
 |(k0,c)::r,ds,h=>by
  simp only[renM] at h;split at h
  ·rename_i d ds' h1 h2
   simp only[Option.some.injEq] at h;subst h;obtain⟨g1,g2⟩:=mW_ h2;grind
  ·cases h
section
variable {n:Nat}{ρ:Nat->Option Nat}{c c':Cf}{s s':St}
structure CfR (ρ:Nat->Option Nat) (c c':Cf):Prop where
 w:c'.w=c.w
 kn:∀i j,ρ i=some j->c.kn j->c'.kn i
 φ:∀i j,ρ i=some j->c'.φ i=c.φ j
 hp:∀i o,c'.hp i=some o->∃j o',ρ i=some j/\renO ρ o=some o'/\c.hp j=some o'
theorem Im.ren (h:CfR ρ c c'){b:Bool}{k:Nat}(hk:Im g c b k):Im g c' b k:=by
 obtain⟨h1,h2,h3,h4⟩:=hk;refine⟨by rw[h.w];exact h1,h2,fun id o ho hf=> ?_,h4⟩;obtain⟨j,o',e1,e2,e3⟩:=h.hp id o ho;rw[h.φ id j e1];exact h3 j o' e3 (by rw[(gL_ e2).1];exact hf)
theorem RC.ren (h:CfR ρ c c'){b:Bool}{d:D}{u:Value}(hr:RC c.w (Im g c b) d u):RC c'.w (Im g c' b) d u:=hr.mono (fun _ _=>by rw[h.w]) fun _ hk=>hk.ren h
theorem RA.ren (h:CfR ρ c c'){y:AV}{u:Value}(hr:RA g c y u):∀ {x:AV},renA ρ x=some y->RA g c' x u:=by
 have hrw:∀i j,ρ i=some j->(∀o,c.hp j=some o->o.isRw=false)->∀o,c'.hp i=some o->o.isRw=false:=fun i j e ho o h1=>by
  obtain⟨j',o',e1,e2,e3⟩:=h.hp i o h1;rw[e] at e1;cases e1;rw[<-(gL_ e2).2];exact ho o' e3
 have hrow:∀i j,ρ i=some j->∀es sz v br fz,c'.hp i=some (.rw es sz v br fz)->c.hp j=some (.rw es sz v br fz):=fun i j e es sz v br fz h1=>by
  obtain⟨j',o',e1,e2,e3⟩:=h.hp i _ h1;rw[e] at e1;cases e1;simp only[renO,Option.some.injEq] at e2;subst e2;exact e3
 induction hr with
 |v x hx=>
  intro y e;cases y<;>simp[renA,Option.map_eq_some_iff] at e;subst e;exact .v _ hx
 |d x b u h1=>
  intro y e;cases y<;>simp[renA,Option.map_eq_some_iff] at e;obtain⟨rfl,rfl⟩:=e;exact .d _ _ u (h1.ren h)
 |pt id off hn ho=>
  intro y e;cases y<;>simp[renA,Option.map_eq_some_iff] at e;rename_i i o;obtain⟨_,e1,rfl,rfl⟩:=e;rw[<-h.φ i _ e1];exact .pt i _ (h.kn i _ e1 hn) (hrw i _ e1 ho)
 |mo id hn ho=>
  intro y e;cases y<;>simp[renA,Option.map_eq_some_iff] at e;rename_i i;rw[<-h.φ i id e];exact .mo i (h.kn i id e hn) (hrw i id e ho)
 |pr id ver i off u hn hp h1=>
  intro y e;cases y<;>simp[renA,Option.map_eq_some_iff] at e;rename_i i' _ _ _;obtain⟨_,e1,rfl,rfl,rfl,rfl⟩:=e;refine .pr i' _ _ _ u (h.kn i' _ e1 hn) hp fun es sz v br fz hr=> ?_;rw[h.φ i' _ e1];grind
 |so id ver off len u hn hp h1=>
  intro y e;cases y<;>simp[renA,Option.map_eq_some_iff] at e;rename_i i' _ _ _;obtain⟨_,e1,rfl,rfl,rfl,rfl⟩:=e;refine .so i' _ _ _ u (h.kn i' _ e1 hn) hp fun es sz v br fz hr=> ?_;rw[h.φ i' _ e1,h.w];grind
 |fn f caps us n hn h1 ih=>
  intro y e;cases y<;>simp[renA,Option.map_eq_some_iff] at e;obtain⟨e1,rfl⟩:=e;obtain⟨g1,g2⟩:=yE_ e1;refine .fn _ _ us n (by omega) fun j x hj=> ?_;grind
theorem RA1.ren (h:CfR ρ c c'){x y:AV}{u:Value}(e:renA ρ x=some y)(hr:RA1 g c y u):RA1 g c' x u:=by
 unfold RA1;split
 ·trivial
 ·rename_i cs
  simp only[renA,Option.map_eq_some_iff] at e;obtain⟨ds,e1,rfl⟩:=e;obtain⟨vs,h1,h2,h3⟩:=hr;obtain⟨g1,g2⟩:=yE_ e1;refine⟨vs,h1,by omega,fun j x hj=> ?_⟩;obtain⟨y,k1,k2⟩:=g2 j x hj;obtain⟨z,k3,k4⟩:=h3 j y k1;exact⟨z,k3,k4.ren h k2⟩
 ·rename_i cs b
  simp only[renA,Option.some.injEq] at e;subst e;exact RV1.mono (fun _ _=>by rw[h.w]) (fun _ hk=>hk.ren h) hr
 ·rename_i h1 h2 h3
  unfold RA1 at hr;split at hr
  ·cases x<;>simp[renA,Option.map_eq_some_iff] at e
   exact absurd rfl h1
  ·cases x<;>simp[renA,Option.map_eq_some_iff] at e
   exact absurd rfl (h2 _)
  ·cases x<;>simp[renA,Option.map_eq_some_iff] at e
   simp_all
  ·exact hr.ren h e
theorem RAt.ren (h:CfR ρ c c'){x y:AV}{u:Value}(e:renA ρ x=some y)(hr:RAt g c y u):RAt g c' x u:=by
 unfold RAt;split
 ·rename_i cs
  simp only[renA,Option.map_eq_some_iff] at e;obtain⟨ds,e1,rfl⟩:=e;obtain⟨vs,h1,h2,h3⟩:=hr;obtain⟨g1,g2⟩:=yE_ e1;refine⟨vs,h1,by omega,fun j x hj=> ?_⟩;obtain⟨y,k1,k2⟩:=g2 j x hj;obtain⟨z,k3,k4⟩:=h3 j y k1;exact⟨z,k3,k4.ren h k2⟩
 ·rename_i cs b
  simp only[renA,Option.some.injEq] at e;subst e;exact RV.mono (fun _ _=>by rw[h.w]) (fun _ hk=>hk.ren h) hr
 ·rename_i h1 h2
  unfold RAt at hr;split at hr
  ·cases x<;>simp[renA,Option.map_eq_some_iff] at e
   exact absurd rfl (h1 _)
  ·cases x<;>simp[renA,Option.map_eq_some_iff] at e
   simp_all
  ·exact RA1.ren h e hr
theorem OK.ren (h:CfR ρ c c'){i j:Nat}(hij:ρ i=some j){o o':AO}(e:renO ρ o=some o')(hr:OK g c j o'):OK g c' i o:=by
 cases o with
 |bx cs=>
  simp only[renO,Option.map_eq_some_iff] at e;obtain⟨ds,e1,rfl⟩:=e;obtain⟨g1,g2⟩:=yE_ e1;obtain⟨T,vs,h1,h2,h3⟩:=hr;refine⟨T,vs,by rw[h.w,h.φ i j hij];exact h1,by omega,fun k x hk=> ?_⟩;obtain⟨y,k1,k2⟩:=g2 k x hk;obtain⟨z,k3,k4⟩:=h3 k y k1;exact⟨z,k3,k4.ren h k2⟩
 |rw es sz v br fz=>
  simp only[renO,Option.some.injEq] at e;subst e;obtain⟨h1,h2,T,vs,C,h3,h4,h5,h6,h7⟩:=hr;refine⟨h1,h2,T,vs,C,by rw[h.w,h.φ i j hij];exact h3,h4,h5,h6,fun a b cs d e1 e2=> ?_⟩;obtain⟨u,k1,k2⟩:=h7 a b cs d e1 e2;exact⟨u,k1,k2.ren h⟩
 |mo es dl=>
  simp only[renO,Option.map_eq_some_iff] at e;obtain⟨ds,e1,rfl⟩:=e;obtain⟨g1,g2⟩:=mW_ e1;obtain⟨en,k,h1,h2,h3,h4⟩:=hr;refine⟨en,k,by rw[h.w,h.φ i j hij];exact h1,by omega,h3,fun a x y hk=> ?_⟩;grind [RA1.ren]
theorem Sim.ren {n:Nat}{s s':St}{c:Cf}{a:Act}{ρ:Nat->Option Nat}(hs:Sim g s c a N)(hw:Ren n ρ s' s):∃c',Sim g s' c' a N/\c'.w=c.w/\ExtR n c c'/\∀i,c'.kn i->c.kn i\/n<=i:=by
 have hc:CfR ρ c ⟨s'.hp,fun i=>c.φ ((ρ i).getD 0),c.w,fun i=>∃j,ρ i=some j/\c.kn j⟩:=⟨rfl,fun i j h1 h2=>⟨j,h1,h2⟩,fun i j h=>by simp[h],fun i o h=>by rw[hs.hp];exact hw.hp i o h⟩;have hlow:∀i,i<n->∀o,s'.hp i=some o->∃o',renO ρ o=some o'/\c.hp i=some o':=fun i hi o h=>by
  obtain⟨j,o',e1,e2,e3⟩:=hc.hp i o h;rw[hw.old i hi] at e1;cases e1;exact⟨o',e2,e3⟩
 refine⟨⟨s'.hp,fun i=>c.φ ((ρ i).getD 0),c.w,fun i=>∃j,ρ i=some j/\c.kn j⟩,⟨rfl,⟨hs.hr.le,hs.hr.m0,?_,?_,?_⟩,?_,?_,hs.size,hs.dfs⟩,rfl,⟨rfl,rfl,rfl,Nat.le_refl _,?_,fun _ _ _=>rfl,?_,?_,?_,Nat.le_refl _⟩,?_⟩
 ·intro id o ho
  obtain⟨j,o',e1,e2,e3⟩:=hc.hp id o ho;obtain⟨h1,h2,h3⟩:=hs.hr.dom j o' e3;grind
 ·intro i k o p hi hk hne
  obtain⟨j,o',e1,e2,e3⟩:=hc.hp i o hi;obtain⟨j',p',f1,f2,f3⟩:=hc.hp k p hk;rw[hc.φ i j e1,hc.φ k j' f1];exact hs.hr.inj j j' o' p' e3 f3 fun e=>hne (hw.inj i k j e1 (e▸f1))
 ·intro id o ho
  obtain⟨j,o',e1,e2,e3⟩:=hc.hp id o ho;exact OK.ren hc e1 e2 (hs.hr.obj j o' e3)
 ·rintro i ⟨j,e1,e2⟩
  by_cases hi:i<n
  ·exact Nat.lt_of_lt_of_le hi hw.nx
  ·exact(hw.new i j (by omega) e1).2
 ·intro t
  rcases hw.fr t with h |h
  ·rw[h];trivial
  ·exact RAt.ren hc h (hs.fr t)
 ·intro id hi hk
  exact⟨id,hw.old id hi,hk⟩
 ·intro id o ho hf
  obtain⟨j,o',e1,e2,e3⟩:=hc.hp id o ho;refine .inr ⟨j,o',?_,e3,by rw[(gL_ e2).1];exact hf,hc.φ id j e1⟩;by_cases hi:id<n
  ·rw[hw.old id hi] at e1
   cases e1;exact .inl rfl
  ·exact .inr ⟨(hw.new id j (by omega) e1).1,by omega⟩
 ·intro id hi hk ho
  refine⟨hc.φ id id (hw.old id hi),fun o' h1=> ?_⟩;obtain⟨o2,e2,e3⟩:=hlow id hi o' h1;rw[<-(gL_ e2).2];exact ho o2 e3
 ·intro id es sz v br fz hi hk h1
  obtain⟨o2,e2,e3⟩:=hlow id hi _ h1;simp only[renO,Option.some.injEq] at e2;subst e2;rw[hc.φ id id (hw.old id hi)];grind
 ·rintro i ⟨j,e1,e2⟩
  by_cases hi:i<n
  ·rw[hw.old i hi] at e1
   cases e1;exact .inl e2
  ·exact .inr (by omega)
theorem Sim.dat {s s':St}{c:Cf}{a:Act}(hs:Sim g s c a N)(hw:Dat s' s):∃c',Sim g s' c' a N/\c'.w=c.w/\Ext c c'/\c'.kn=c.kn:=by
 have hold:∀i o',s'.hp i=some o'->∃o,c.hp i=some o/\DatO c.hp s'.hp o o':=fun i o' h=>by
  rw[hs.hp];exact hw.hp i o' h
 have he:Ext c ⟨s'.hp,c.φ,c.w,c.kn⟩:=by
  refine⟨rfl,rfl,rfl,Nat.le_refl _,fun _ h=>h,fun _ _ _=>rfl,?_,?_,?_,Nat.le_refl _⟩
  ·intro id o' ho hf
   obtain⟨o,h1,h2⟩:=hold id o' ho;refine .inr ⟨o,h1,?_,rfl⟩;cases h2 with
   |same=>exact hf
   |fz=>cases hf
   |bx _=>rfl
  ·intro id _ hk
   refine⟨rfl,fun o' ho=> ?_⟩;obtain⟨o,h1,h2⟩:=hold id o' ho
   have:=hk o h1
   cases h2 with
   |same=>exact this
   |fz=>exact this
   |bx _=>rfl
  ·intro id es' sz v' br' fz' _ hr
   obtain⟨o,h1,h2⟩:=hold id _ hr;cases h2 with
   |same=>grind
   |fz _ _ _ _ fz0=>grind
 have himm:∀ {i:Nat} {o:AO} (b:Bool),c.hp i=some o->(∀o',s'.hp i=some o'->o'.fz=true)->Im g ⟨s'.hp,c.φ,c.w,c.kn⟩ b (c.φ i):=by
  intro i o b hi hf;obtain⟨_,h2,h3⟩:=hs.hr.dom i o hi;refine⟨h3,fun hm=> ?_,fun j p hj hp e=> ?_,fun _=>h2.1⟩
  ·exact h2.2 hm
  ·by_cases e2:j=i
   ·grind
   ·obtain⟨q,h4,_⟩:=hold j p hj
    exact hs.hr.inj j i q o h4 hi e2 e
 have hflag:∀ {b b':Bool} {k:Nat},(b=true->b'=true)->Im g c b k->Im g ⟨s'.hp,c.φ,c.w,c.kn⟩ b' k:=by
  intro b b' k hb hk
  have:=hk.ext he
  cases b' with
  |true=>exact this.weak
  |false=>grind
 have hcell:∀ {x y:AV} {u:Value},DatC c.hp s'.hp x y->RA g c x u->RA g ⟨s'.hp,c.φ,c.w,c.kn⟩ y u:=by
  intro x y u h hx;cases h with
  |same=>exact hx.ext he
  |dat d b b' is h hb hi=>
   exact .d _ _ _ (yr_ hs.hr rfl hx h (Im g ⟨s'.hp,c.φ,c.w,c.kn⟩ b') (fun k hk=>hflag hb hk) fun i hm=>by
    obtain⟨es,sz,v,fz,h3⟩:=vv_ h i hm;exact himm b' h3 (hi i hm))
 have hcells:∀ {xs ys:List AV},DatL c.hp s'.hp xs ys->xs.length=ys.length/\∀(j:Nat) (y:AV),ys[j]? =some y->∃x,xs[j]? =some x/\DatC c.hp s'.hp x y:=by
  intro xs ys h;induction h with
  |nil=>simp
  |cons h _ ih=>
   grind
 refine⟨⟨s'.hp,c.φ,c.w,c.kn⟩,⟨rfl,⟨hs.hr.le,hs.hr.m0,?_,?_,?_⟩,fun i hi=>Nat.lt_of_lt_of_le (hs.kn i hi) hw.nx,?_,hs.size,hs.dfs⟩,rfl,he,rfl⟩
 ·intro id o' ho
  obtain⟨o,h1,_⟩:=hold id o' ho;exact hs.hr.dom id o h1
 ·intro i j o' p' hi hj hne
  obtain⟨o,h1,_⟩:=hold i o' hi;obtain⟨p,h2,_⟩:=hold j p' hj;exact hs.hr.inj i j o p h1 h2 hne
 ·intro id o' ho
  obtain⟨o,h1,h2⟩:=hold id o' ho;have hok:=hs.hr.obj id o h1;cases h2 with
  |same=>exact hok.ext he rfl rfl
  |fz es sz v br fz=>exact OK.ext (o:=.rw es sz v br fz) he hok rfl rfl
  |bx h=>
   obtain⟨h3,h4⟩:=hcells h;obtain⟨T,vs,k1,k2,k3⟩:=hok;refine⟨T,vs,k1,by omega,fun j y hj=> ?_⟩;grind
 ·intro t
  have hx:=hs.fr t;have hv:=hw.fr t;rw[<-hs.hp] at hv;generalize s.fr t=x at hx hv;generalize s'.fr t=y at hv;cases hv with
  |same=>exact hx.ext he
  |un=>trivial
  |ag h=>
   obtain⟨h3,h4⟩:=hcells h;obtain⟨vs,k1,k2,k3⟩:=hx;refine⟨vs,k1,by omega,fun j y hj=> ?_⟩;grind
  |dat _ d b b' is h hb hi=>
   have hd:=bC_ hs.hr rfl (Im g ⟨s'.hp,c.φ,c.w,c.kn⟩ b') h hx (fun k hk=>hflag hb hk) fun i hm=>by
    obtain⟨es,sz,v,br,fz,h3⟩:=wI_ h i hm;exact himm b' h3 (hi i hm)
   cases d with
   |v x=>exact RA.d _ _ _ hd.1
   |sl es=>exact RA.d _ _ _ hd.1
   |pt cs off=>exact RA.d _ _ _ hd.1
   |mp es=>exact RA.d _ _ _ hd.1
   |ag cs=>exact hd.1
   |tu cs=>exact absurd rfl (hd.2.1 cs)
theorem Sim.weakR {n:Nat}{s s':St}{c:Cf}{a:Act}(hs:Sim g s c a N)(hn:n<=s.nx)(hw:WeakR n s' s):∃c',Sim g s' c' a N/\c'.w=c.w/\ExtR n c c'/\n<=s'.nx/\∀i,c'.kn i->c.kn i\/n<=i:=by
 induction hw generalizing c with
 |weak hw=>
  obtain⟨c',h1,h2,h3,h4⟩:=hs.weak hw;exact⟨c',h1,h2,h3.toR,Nat.le_trans hn hw.nx,fun i hi=>.inl (h4▸hi)⟩
 |ren ρ hw=>
  obtain⟨c',h1,h2,h3,h4⟩:=hs.ren hw;exact⟨c',h1,h2,h3,hw.nx,h4⟩
 |dat hw=>
  obtain⟨c',h1,h2,h3,h4⟩:=hs.dat hw;exact⟨c',h1,h2,h3.toR,Nat.le_trans hn hw.nx,fun i hi=>.inl (h4▸hi)⟩
 |trans _ _ ih1 ih2=>
  obtain⟨c1,h1,h2,h3,h4,h5⟩:=ih2 hs hn;obtain⟨c2,k1,k2,k3,k4,k5⟩:=ih1 h1 h4;exact⟨c2,k1,k2.trans h2,h3.trans k3,k4,fun i hi=>(k5 i hi).elim (fun h=>h5 i h) .inr⟩
end
def PostR (g:Gh)(N:Nat)(Q:Ex->St->Prop)(n:Nat)(c:Cf)(e:Exit)(a':Act)(w':World):Prop:=
 ∃ex s' c',e=ex.up/\Q ex s'/\Sim g s' c' a' N/\c'.w=w'/\ExtR n c c'/\n<=s'.nx/\∀i,c'.kn i->c.kn i\/n<=i
theorem Post.toR {Q:Ex->St->Prop}{n nx:Nat}{c:Cf}{e:Exit}{a':Act}{w':World}(h:Post g N Q nx c e a' w')(hn:n<=nx):PostR g N Q n c e a' w':=by
 obtain⟨ex,s',c',h1,h2,h3,h4,h5,h6,h7⟩:=h;exact⟨ex,s',c',h1,h2,h3,h4,h5.toR,Nat.le_trans hn h6,fun i hi=>(h7 i hi).imp_right (Nat.le_trans hn)⟩
theorem PostR.after {Q:Ex->St->Prop}{n:Nat}{c c':Cf}{e:Exit}{a':Act}{w':World}(h:PostR g N Q n c' e a' w')(he:ExtR n c c')(hk:∀i,c'.kn i->c.kn i\/n<=i):PostR g N Q n c e a' w':=by
 obtain⟨ex,s',c'',h1,h2,h3,h4,h5,h6,h7⟩:=h;refine⟨ex,s',c'',h1,h2,h3,h4,he.trans h5,h6,fun i hi=> ?_⟩;grind
theorem PostR.toE {Q:Ex->St->Prop}{n:Nat}{c:Cf}{e:Exit}{a':Act}{w':World}(h:PostR g N Q n c e a' w')(hr:HR g c)(hk:∀i,c.kn i->i<n):Post g N Q n c e a' w':=by
 obtain⟨ex,s',c',h1,h2,h3,h4,h5,h6,h7⟩:=h;exact⟨ex,s',c',h1,h2,h3,h4,h5.toE hr hk,h6,h7⟩
theorem wK_ (ht:TabOk P tab){ops:Array Oper}{id:Nat}{Q:Ex->St->Prop}(hd:jK_ N (.region id ops false)=true){l:List Nat}(hl:l.Nodup/\∀i∈l,i<ops.size){s:St}{c c0:Cf}{a:Act}(hs:Sim g s c a N)(h0:Ext c0 c)(hk0:∀i,c.kn i->c0.kn i)
  (h:WL P tab ops s.nx (Q .normal) l ⟨s.fr,s.hp,s.nx+ops.size⟩):wpOps P ops (fun e a' w'=>Post g N Q s.nx c0 e a' w'/\a'.defers=a.defers) l a c.w:=by
 refine fQ_ ht (fun i o d ho hd'=> ?_) l ⟨s.fr,s.hp,s.nx+ops.size⟩ c a hl.1 hl.2 h ⟨hs.hp,hs.hr,fun i hi=>Nat.lt_of_lt_of_le (hs.kn i hi) (Nat.le_add_right _ _),hs.fr,hs.size,hs.dfs⟩ (fun j hj i _=> ?_) (Nat.le_refl _) fun s' c' a' h1 h2 h3 h4 h5 h6=>
  ⟨⟨.normal,s',c',rfl,h1,h2,rfl,h0.trans h3,Nat.le_trans (Nat.le_add_right _ _) h4,fun i hi=>(h5 i hi).imp_left (hk0 i)⟩,h6⟩
 ·grind [jK_,Array.all_eq_true',Array.mem_of_getElem?]
 ·have:=hs.kn j hj
  omega
theorem d7_ (ht:TabOk P tab)(hm:P.follows .mixedOrders=true):∀(code:Code) (Q:Ex->St->Prop) (s:St) (c:Cf) (a:Act),jK_ N code=true->W P tab code Q s->Sim g s c a N->code.wp P (Post g N Q s.nx c) a c.w:=by
 intro code;have here:∀ {Q:Ex->St->Prop} {s:St} {c:Cf} {a:Act} (ex:Ex),Q ex s->Sim g s c a N->Post g N Q s.nx c ex.up a c.w:=fun ex hq hs=>⟨ex,_,_,rfl,hq,hs,rfl,Ext.refl _,Nat.le_refl _,fun _ h=>.inl h⟩;induction code with
 |skip=>exact fun Q s c a _ h hs=>wp_skip (here .normal h hs)
 |label l=>exact fun Q s c a _ h hs=>wp_label (here .normal h hs)
 |ret=>exact fun Q s c a _ h hs=>wp_ret (here .ret h hs)
 |exit n=>exact fun Q s c a _ h hs=>wp_exit (here (.exit n) h hs)
 |region id ops draw=>
  intro Q s c a hd h hs;cases draw with
  |false=>exact Code.wp_mono (Q:=fun e a' w'=>Post g N Q s.nx c e a' w'/\a'.defers=a.defers) (fun _ _ _ h=>h.1) (wp_region (wK_ ht hd ⟨List.nodup_range,fun i hi=>List.mem_range.1 hi⟩ hs (Ext.refl c) (fun _ h=>h) h))
  |true=>
   refine Code.wp_mono (Q:=fun e a' w'=>Post g N Q s.nx c e a' w'/\a'.defers=a.defers) (fun _ _ _ h=>h.1) (wp_region_draw fun t=> ?_);simp only[Region.schedule,hm,Bool.true_or,if_true];obtain⟨he,hr⟩:=Ext.world hs.hr (w':={ c.w with drawn:=c.w.drawn+1 }) rfl rfl rfl rfl
   exact wK_ (id:=id) (c:=⟨c.hp,c.φ,{ c.w with drawn:=c.w.drawn+1 },c.kn⟩) ht hd (lin_ok ops t) ⟨hs.hp,hr,hs.kn,fun t=>(hs.fr t).ext he,hs.size,hs.dfs.ext hs.hr he⟩ he (fun _ h=>h) (h t)
 |seq x y ihx ihy=>
  intro Q s c a hd h hs;simp only[jK_,Bool.and_eq_true] at hd;refine wp_seq (Code.wp_mono (fun e a' w' hp=> ?_) (ihx _ s c a hd.1 h hs));obtain⟨ex,s',c',h1,h2,h3,h4,h5,h6,h7⟩:=hp;subst h1;subst h4;cases ex with
  |normal=>exact Code.wp_mono (fun e a' w' hp=>Post.after hp h5 h6 h7) (ihy _ s' c' a' hd.2 h2 h3)
  |ret=>exact⟨.ret,s',c',rfl,h2,h3,rfl,h5,h6,h7⟩
  |exit n=>exact⟨.exit n,s',c',rfl,h2,h3,rfl,h5,h6,h7⟩
 |cond x y z ihy ihz=>
  intro Q s c a hd h hs;simp only[jK_,Bool.and_eq_true] at hd;unfold W at h;split at h
  ·rename_i t e
   have hv:=(show RAt g c (.v (.bool t)) (a.eval x) by rw[<-e];exact uL_ hs.fr x).v.1;exact wp_cond_split hv (fun ht'=>ihy Q s c a hd.1 (h.1 ht') hs) fun ht'=>ihz Q s c a hd.2 (h.2 ht') hs
  ·exact h.elim
 |block n x ih=>
  intro Q s c a hd h hs;refine wp_block (Code.wp_mono (fun e a' w' hp=> ?_) (ih _ s c a hd h hs));obtain⟨ex,s',c',h1,h2,h3,h4,h5,h6,h7⟩:=hp;subst h1;cases ex with
  |normal=>exact⟨.normal,s',c',rfl,h2,h3,h4,h5,h6,h7⟩
  |ret=>exact⟨.ret,s',c',rfl,h2,h3,h4,h5,h6,h7⟩
  |exit m=>
   simp only[Ex.up,Exit.inBlock];by_cases e:m=n
   ·rw[if_pos e]
    simp only[if_pos e] at h2;exact⟨.normal,s',c',rfl,h2,h3,h4,h5,h6,h7⟩
   ·rw[if_neg e]
    simp only[if_neg e] at h2;exact⟨.exit m,s',c',rfl,h2,h3,h4,h5,h6,h7⟩
 |loop x ih=>
  intro Q s c a hd h hs;have key:=h (fun s0=>s.nx<=s0.nx->∀(c:Cf) (a:Act),Sim g s0 c a N->∀(b:Frame) (k:List Item) (cs:List Frame),∃e a' w',PostR g N Q s.nx c e a' w'/\Arrives P (lone (b.at a (.code x:: .inLoop x::k)) cs c.w) b k cs e a' w') ?_ ?_ (Nat.le_refl _) c a hs
  ·intro b k cs
   obtain⟨e,a',w',hq,harr⟩:=key b k cs;exact⟨e,a',w',hq.toE hs.hr hs.kn,.of_steps (.one step_loop) harr⟩
  ·intro s0 hW hn c a hs b k cs
   obtain⟨e,a₁,w₁,hq,harr⟩:=ih _ s0 c a hd hW hs b (.inLoop x::k) cs;obtain⟨ex,s',c',h1,h2,h3,h4,h5,h6,h7⟩:=hq;subst h1;subst h4;cases ex with
   |normal=>
    obtain⟨e₂,a₂,w₂,hq₂,harr₂⟩:=h2 (Nat.le_trans hn h6) c' a₁ h3 b k cs;exact⟨e₂,a₂,w₂,PostR.after hq₂ h5.toR fun i hi=>(h7 i hi).imp_right (Nat.le_trans hn),.of_steps (Steps.trans harr (.one step_inLoop)) harr₂⟩
   |ret=>exact⟨_,a₁,_,Post.toR ⟨.ret,s',c',rfl,h2,h3,rfl,h5,h6,h7⟩ hn,.pass (x:=.inLoop x) rfl (fun _ _=>.inl (by simp[Ex.up])) harr⟩
   |exit n=>exact⟨_,a₁,_,Post.toR ⟨.exit n,s',c',rfl,h2,h3,rfl,h5,h6,h7⟩ hn,.pass (x:=.inLoop x) rfl (fun _ _=>.inl (by simp[Ex.up])) harr⟩
  ·intro s1 s2 hw hX hn c a hs b k cs
   obtain⟨c',h1,h2,h3,h4,h5⟩:=hs.weakR hn hw;obtain⟨e,a',w',hq,harr⟩:=hX h4 c' a h1 b k cs;rw[h2] at harr;exact⟨e,a',w',PostR.after hq h3 h5,harr⟩
 |_=>exact fun Q s c a _ h hs=>h.elim
end
end
section
open Go.RowKit
def gM_:AV->Bool
 | .tu _ | .d (.tu _) _=>false
 |_=>true
def bM_ (tab:Nat->TI)(s:St):ResultVar->Option AV
 | .tmp t=>if gM_ (s.fr t) then some (s.fr t) else none
 | .cell x T=>if (tab T).ok then match s.fr x with
  | .pt i off=>match s.hp i with
   |some (.bx cs)=>if (tab T).agg then(sub off (tab T).size cs).map AV.ag else match cs[off]? with
    |some v=>if gM_ v then some v else none
    |none=>none
   |_=>none
  |_=>none else none
def u5_ (tab:Nat->TI)(s:St):List ResultVar->Option (List AV)
 |[]=>some []
 |r::rs=>match bM_ tab s r,u5_ tab s rs with
  |some v,some vs=>some (v::vs)
  |_,_=>none
def resA (tab:Nat->TI)(rs:Array ResultVar)(s:St):Option AV:=
 match u5_ tab s rs.toList with
 |some [v]=>some v
 |some vs=>some (.tu vs)
 |none=>none
def frOf (vs:List AV):Fr:=fun t=>vs.getD t (.tu [])
structure Less (hp' hp:Hp):Prop where
 h:∀i,hp' i=none\/hp' i=hp i
section
variable {P:Program}{tab:Nat->TI}{g:Gh}{N:Nat}
theorem sP_ {c:Cf}{x:AV}{u:Value}(h:gM_ x=true)(hx:RAt g c x u):RA1 g c x u:=by
 cases x with
 |tu cs=>cases h
 |d x b=>cases x with
  |tu cs=>cases h
  |_=>exact hx
 |_=>exact hx
theorem mX_ (ht:TabOk P tab){s:St}{c:Cf}{a:Act}(hs:Sim g s c a N){r:ResultVar}{v:AV}(h:bM_ tab s r=some v):
  ∃u,(match r with | .tmp t=>(pure (a.tmps.getD t undef):Sem Value) | .cell x T=>do loadVar T (<-asAddr (a.tmps.getD x undef))).run P c.w= .ok u c.w/\RA1 g c v u:=by
 cases r with
 |tmp t=>
  simp only[bM_] at h;split at h
  ·rename_i hv
   cases h;exact⟨_,rfl,sP_ hv (hs.fr t)⟩
  ·cases h
 |cell x T=>
  simp only[bM_] at h;split at h
  ·rename_i hok
   split at h
   ·rename_i i off e
    have hx:=(show RAt g c (.pt i off) (a.tmps.getD x undef) by rw[<-e];exact hs.fr x).pt.1;split at h
    ·rename_i cs hi
     rw[<-hs.hp] at hi;obtain⟨T',vs,h1,h2,h3⟩:=hs.hr.obj i _ hi;have hcell:∀k,c.w.cell? ⟨c.φ i,k,none⟩=vs[k]? :=fun k=>by simp[World.cell?,h1]
     simp only[hx,asAddr,Sem.run_bind,Sem.run_pure,Result.andThen_ok];split at h
     ·rename_i hg
      rw[Option.map_eq_some_iff] at h;obtain⟨ys,hs1,rfl⟩:=h;obtain⟨h4,h5,h6⟩:=kY_ hs1;have hrun:=ky_ ht hok hg c.w ⟨c.φ i,off,none⟩ ((vs.toList.drop off).take (tab T).size) (by grind) (fun j u hj=>by
       grind [wl_,zx_])
      refine⟨_,hrun,_,rfl,by simp;omega,fun j y hy=> ?_⟩;grind
     ·rename_i hg
      split at h
      ·rename_i v' hv'
       split at h
       ·rename_i hval
        cases h;obtain⟨u,e1,e2⟩:=h3 off v hv';exact⟨u,kz_ ht hok (by simpa using hg) c.w _ u ((hcell off).trans e1),sP_ hval e2.toAt⟩
       ·cases h
      ·cases h
    ·cases h
   ·cases h
  ·cases h
theorem yF_ (ht:TabOk P tab){s:St}{c:Cf}{a:Act}(hs:Sim g s c a N):∀ {rs:List ResultVar} {vs:List AV},u5_ tab s rs=some vs->
  ∃us:List Value,(rs.mapM fun(r:ResultVar)=>match r with | .tmp t=>(pure (a.tmps.getD t undef):Sem Value) | .cell x T=>do loadVar T (<-asAddr (a.tmps.getD x undef))).run P c.w= .ok us c.w/\us.length=vs.length/\∀(j:Nat) (v:AV),vs[j]? =some v->∃u,us[j]? =some u/\RA1 g c v u
 |[],vs,h=>by
  simp only[u5_,Option.some.injEq] at h;subst h;exact⟨[],rfl,rfl,fun j v h=>by simp at h⟩
 |r::rs,vs,h=>by
  simp only[u5_] at h;split at h
  ·rename_i v vs' h1 h2
   cases h;obtain⟨u,h3,h4⟩:=mX_ ht hs h1;obtain⟨us,h5,h6,h7⟩:=yF_ ht hs h2;refine⟨u::us,?_,by simp[h6],fun j v hj=> ?_⟩
   ·simp_all
   grind
  ·cases h
theorem tC_ (ht:TabOk P tab){s:St}{c:Cf}{a:Act}(hs:Sim g s c a N){fn:Func}{v:AV}(h:resA tab fn.results s=some v):∃u,(results fn a.tmps).run P c.w= .ok u c.w/\RAt g c v u:=by
 unfold resA at h;have hrun:∀us:List Value,(fn.results.toList.mapM fun(r:ResultVar)=>match r with | .tmp t=>(pure (a.tmps.getD t undef):Sem Value) | .cell x T=>do loadVar T (<-asAddr (a.tmps.getD x undef))).run P c.w= .ok us c.w->
   (results fn a.tmps).run P c.w= .ok (if h:us.toArray.size=1 then us.toArray[0] else .tuple us.toArray) c.w:=by
  intro us hu;unfold results;rw[Sem.run_bind,Array.mapM_eq_mapM_toList,Sem.run_map];refine(congrArg (fun r=>Result.andThen (Result.andThen r _) _) hu).trans ?_;simp only[Result.andThen_ok];split<;>simp_all
 split at h
 ·rename_i x hx
  cases h;obtain⟨us,h1,h2,h3⟩:=yF_ ht hs hx
  match us,h2 with
  |[u],_=>
   obtain⟨u',h4,h5⟩:=h3 0 v rfl;cases h4;exact⟨u,by rw[hrun _ h1];rfl,h5.toAt⟩
 ·rename_i vs hne hx
  cases h;obtain⟨us,h1,h2,h3⟩:=yF_ ht hs hx;refine⟨.tuple us.toArray,?_,us.toArray,rfl,by simpa using h2,fun j x hj=> ?_⟩
  ·rw[hrun _ h1,dif_neg]
   intro e;simp only[List.size_toArray] at e
   match vs,(show vs.length=1 by omega) with
   |[x],_=>exact hne x rfl
  grind
 ·cases h
end
end
section
open Go.RowKit
theorem RC.via {w w':World}{I I':Nat->Prop}(hb:∀b,I b->w'.heap[b]? =w.heap[b]? \/w.heap[b]? =some (.deferred (some [])))(hI:∀b,I b->I' b){d:D}{u:Value}(h:RC w I d u):RC w' I' d u:=by
 have hc:∀(a:Addr) (v:Value),I a.block->w.cell? a=some v->w'.cell? a=some v:=fun a v ha hv=>by
  grind [World.cell?_of_block,trans,World.cell?]
 induction h with
 |v x h=>exact .v x h
 |nl a c=>exact .nl a c
 |sl es b o c sz us h1 h2 h3 h4 h5 ih=>exact .sl es b o c sz us (hI b h1) h2 h3 (fun i j cs d e1 e2=>hc ⟨b,o+i*sz+j,none⟩ _ h1 (h4 i j cs d e1 e2)) ih
 |pt cs off b o us h1 h2 h3 ih=>exact .pt cs off b o us (hI b h1) (fun j d e=>hc ⟨b,o+j,none⟩ _ h1 (h2 j d e)) ih
 |mp es r en k h1 h2 h3 h4 h5 ih=>
  refine .mp es r en k (hI r h1) ?_ h3 h4 ih;grind
structure Trp (g g':Gh) (c c':Cf):Prop where
 im:∀b k,Im g c b k->Im g' c' b k
 mem:∀b k,Im g c b k->c'.w.heap[k]? =c.w.heap[k]? \/c.w.heap[k]? =some (.deferred (some []))
 kn:∀id,c.kn id->c'.kn id/\c'.φ id=c.φ id
 hp:∀id o,c'.hp id=some o->c.hp id=some o
 row:∀id o,c'.hp id=some o->c'.w.heap[c.φ id]? =c.w.heap[c.φ id]?
section
variable {g g':Gh}{c c':Cf}
theorem RC.tr (t:Trp g g' c c'){b:Bool}{d:D}{u:Value}(h:RC c.w (Im g c b) d u):RC c'.w (Im g' c' b) d u:=h.via (t.mem b) (t.im b)
theorem RV1.tr (t:Trp g g' c c'){b:Bool}{d:D}{u:Value}(h:RV1 c.w (Im g c b) d u):RV1 c'.w (Im g' c' b) d u:=by
 unfold RV1 at *;split at h
 ·obtain⟨vs,h1,h2,h3⟩:=h
  exact⟨vs,h1,h2,fun j d e=>let ⟨x,e1,e2⟩:=h3 j d e;⟨x,e1,e2.tr t⟩⟩
 ·exact h.tr t
theorem RV.tr (t:Trp g g' c c'){b:Bool}{d:D}{u:Value}(h:RV c.w (Im g c b) d u):RV c'.w (Im g' c' b) d u:=by
 unfold RV at *;split at h
 ·obtain⟨vs,h1,h2,h3⟩:=h
  exact⟨vs,h1,h2,fun j d e=>let ⟨x,e1,e2⟩:=h3 j d e;⟨x,e1,e2.tr t⟩⟩
 ·exact h.tr t
theorem RA.tr (t:Trp g g' c c'){x:AV}{u:Value}(h:RA g c x u):RA g' c' x u:=by
 induction h with
 |v x h=>exact .v x h
 |d x b u h1=>exact .d x b u (h1.tr t)
 |pt id off hn ho=>
  rw[<-(t.kn id hn).2];exact .pt id off (t.kn id hn).1 fun o h=>ho o (t.hp id o h)
 |mo id hn ho=>
  rw[<-(t.kn id hn).2];exact .mo id (t.kn id hn).1 fun o h=>ho o (t.hp id o h)
 |pr id ver i off u hn hp h1=>
  refine .pr id ver i off u (t.kn id hn).1 hp fun es sz v br fz hr=> ?_;rw[(t.kn id hn).2];exact h1 es sz v br fz (t.hp id _ hr)
 |so id ver off len u hn hp h1=>
  refine .so id ver off len u (t.kn id hn).1 hp fun es sz v br fz hr=> ?_;rw[(t.kn id hn).2,t.row id _ hr];exact h1 es sz v br fz (t.hp id _ hr)
 |fn f caps us n hn _ ih=>exact .fn f caps us n hn ih
theorem RA1.tr (t:Trp g g' c c'){x:AV}{u:Value}(h:RA1 g c x u):RA1 g' c' x u:=by
 unfold RA1 at *;grind [RV1.tr,RA.tr]
theorem RAt.tr (t:Trp g g' c c'){x:AV}{u:Value}(h:RAt g c x u):RAt g' c' x u:=by
 unfold RAt at *;grind [RV.tr,RA1.tr]
theorem OK.tr (t:Trp g g' c c'){id:Nat}{o:AO}(hi:c'.hp id=some o)(hk:c.kn id)(ho:OK g c id o):OK g' c' id o:=by
 have hφ:=(t.kn id hk).2;have hb:=t.row id o hi;cases o with
 |bx cs=>
  obtain⟨T,vs,h1,h2,h3⟩:=ho;exact⟨T,vs,by rw[hφ,hb];exact h1,h2,fun j x e=>let ⟨u,e1,e2⟩:=h3 j x e;⟨u,e1,e2.tr t⟩⟩
 |rw es sz v br fz=>
  obtain⟨h1,h2,T,vs,C,h3,h4,h5,h6,h7⟩:=ho;exact⟨h1,h2,T,vs,C,by rw[hφ,hb];exact h3,h4,h5,h6,fun i j cs d e1 e2=>let ⟨u,e3,e4⟩:=h7 i j cs d e1 e2;⟨u,e3,e4.tr t⟩⟩
 |mo es dl=>
  obtain⟨en,k,h1,h2,h0,h5⟩:=ho;exact⟨en,k,by rw[hφ,hb];exact h1,h2,h0,fun i x y e=>let ⟨e',e1,e2,e3⟩:=h5 i x y e;⟨e',e1,e2,e3.tr t⟩⟩
theorem HR.tr (t:Trp g g' c c')(h:HR g c)(hle:g'.base<=c'.w.heap.size)(hm:∀k,g'.M0 k->k<c'.w.heap.size)(ho:∀id o,c'.hp id=some o->Out g' (c.φ id))(hs:c.w.heap.size<=c'.w.heap.size):HR g' c' where
 le:=hle
 m0:=hm
 dom id o hi:=by
  obtain⟨h1,_,h3⟩:=h.dom id o (t.hp id o hi);rw[(t.kn id h1).2];exact⟨(t.kn id h1).1,ho id o hi,Nat.lt_of_lt_of_le h3 hs⟩
 inj i j o p hi hj hne:=by
  rw[(t.kn i (h.dom i o (t.hp i o hi)).1).2,(t.kn j (h.dom j p (t.hp j p hj)).1).2];exact h.inj i j o p (t.hp i o hi) (t.hp j p hj) hne
 obj id o hi:=(h.obj id o (t.hp id o hi)).tr t hi (h.dom id o (t.hp id o hi)).1
theorem Sim.tr {N:Nat}{s s':St}{a:Act}(t:Trp g g' c c')(h:Sim g s c a N)(hr:HR g' c')(h1:c'.hp=s'.hp)(h2:∀i,c'.kn i->i<s'.nx)(h3:s'.fr=s.fr)(h4:Dfs g'.fb a.defers c'.w):Sim g' s' c' a N:=
 ⟨h1,hr,h2,fun x=>by rw[h3];exact(h.fr x).tr t,h.size,h4⟩
theorem Trp.fb (g:Gh)(c:Cf)(B:Nat):Trp g ⟨g.base,g.M0,B⟩ c c:=⟨fun _ _ h=>h,fun _ _ _=>.inl rfl,fun _ h=>⟨h,rfl⟩,fun _ _ h=>h,fun _ _ _=>rfl⟩
theorem Trp.unfb (g:Gh)(c:Cf)(B:Nat):Trp ⟨g.base,g.M0,B⟩ g c c:=⟨fun _ _ h=>h,fun _ _ _=>.inl rfl,fun _ h=>⟨h,rfl⟩,fun _ _ h=>h,fun _ _ _=>rfl⟩
end
def q2_:List Deferred->World->World
 |[],w=>w
 |d::ds,w=>q2_ ds (match d.target with | .collected r=>w.putObj r (.deferred none) |_=>w)
theorem bN_ (ds:List Deferred)(w:World):(q2_ ds w).os=w.os/\(q2_ ds w).tape=w.tape/\(q2_ ds w).output=w.output/\(q2_ ds w).drawn=w.drawn/\(q2_ ds w).heap.size=w.heap.size:=by
 induction ds generalizing w with
 |nil=>exact⟨rfl,rfl,rfl,rfl,rfl⟩
 |cons d ds ih=>
  unfold q2_;split
  ·rename_i r _
   obtain⟨h1,h2,h3,h4,h5⟩:=ih (w.putObj r (.deferred none));exact⟨h1,h2,h3,h4,h5.trans (by simp)⟩
  ·exact ih w
theorem fR_ {B:Nat}:∀ {ds:List Deferred} {w:World},Marks B ds w->∀k:Nat,(q2_ ds w).heap[k]? =w.heap[k]? \/(B<=k/\w.heap[k]? =some (.deferred (some [])))
 |[],_,_,_=>.inl rfl
 |d::ds,w,⟨⟨r,h1,h2,h3,h4⟩,h5⟩,k=>by
  have hm:Marks B ds (w.putObj r (.deferred none)):=by
   clear h3;induction ds with
   |nil=>trivial
   |cons e ds ih=>
    obtain⟨⟨q,g1,g2,g3,g4⟩,g5⟩:=h5;have hne:q≠r:=fun e2=>h4 e (List.mem_cons_self ..) (e2▸g2);exact⟨⟨q,g1,g2,(World.putObj_heap_other hne).trans g3,g4⟩,ih (fun x hx=>h4 x (List.mem_cons_of_mem _ hx)) g5⟩
  unfold q2_;rw[h2];have ih:=fR_ hm k;grind [World.putObj_heap_other]
theorem vy_ {P:Program}{fn:Func}{tmps:Array Value}{R:Ending->World->Prop}{B:Nat}:∀ {ds:List Deferred} {w:World},Marks B ds w->(∃v,(results fn tmps).run P (q2_ ds w)= .ok v (q2_ ds w)/\R (.returned v) (q2_ ds w))->LeavesInM Fence.wide 0 P fn tmps R ds .returning w
 |[],_,_,h=>h
 |d::ds,w,⟨⟨r,h1,h2,h3,h4⟩,h5⟩,h=>by
  refine⟨by simp,.inl ⟨r,w.putObj r (.deferred none),h2,run_takeDeferred h3,vy_ (B:=B) ?_ ?_⟩⟩
  ·clear h h3
   induction ds with
   |nil=>trivial
   |cons e ds ih=>
    obtain⟨⟨q,g1,g2,g3,g4⟩,g5⟩:=h5;have hne:q≠r:=fun e2=>h4 e (List.mem_cons_self ..) (e2▸g2);exact⟨⟨q,g1,g2,(World.putObj_heap_other hne).trans g3,g4⟩,ih (fun x hx=>h4 x (List.mem_cons_of_mem _ hx)) g5⟩
  ·unfold q2_ at h
   rw[h2] at h;exact h
section
variable {P:Program}{tab:Nat->TI}{g:Gh}{N:Nat}
theorem Sim.taken {s:St}{c:Cf}{a:Act}(hs:Sim g s c a N):Sim g s ⟨c.hp,c.φ,q2_ a.defers c.w,c.kn⟩ { a with defers:=[] } N/\(∀x u,RAt g c x u->RAt g ⟨c.hp,c.φ,q2_ a.defers c.w,c.kn⟩ x u)/\
  ∀k,(q2_ a.defers c.w).heap[k]? =c.w.heap[k]? \/(g.fb<=k/\c.w.heap[k]? =some (.deferred (some []))):=by
 obtain⟨h1,h2,h3,h4,h5⟩:=bN_ a.defers c.w;have hm:=fR_ hs.dfs.2;have t:Trp g g c ⟨c.hp,c.φ,q2_ a.defers c.w,c.kn⟩:=⟨fun b k hk=>⟨by simp only[h5];exact hk.1,hk.2⟩,fun b k _=>(hm k).imp_right (·.2),fun id h=>⟨h,rfl⟩,fun _ _ h=>h,fun id o ho=>(hm _).resolve_right fun e=>hs.hr.not_mark ho e.2⟩
 have hr:HR g ⟨c.hp,c.φ,q2_ a.defers c.w,c.kn⟩:=hs.hr.tr t (by simp only[h5];exact hs.hr.le) (fun k hk=>by simp only[h5];exact hs.hr.m0 k hk) (fun id o ho=>(hs.hr.dom id o ho).2.1) (by simp only[h5];exact Nat.le_refl _);exact⟨⟨hs.hp,hr,hs.kn,fun x=>(hs.fr x).tr t,hs.size,by simp only[h5];exact hs.dfs.1,trivial⟩,fun _ _ h=>h.tr t,hm⟩
theorem wL_ {f:FuncId}{fn:Func}{code:Code}{args:Array Value}{w:World}{R:Ending->World->Prop}(hf:P.funcs[f]? =some fn)(hb:fn.body=some code)
  (h:code.wp P (fun e a' w'=>(e= .normal\/e= .ret)/\∃B,Marks B a'.defers w'/\∃v,(results fn a'.tmps).run P (q2_ a'.defers w')= .ok v (q2_ a'.defers w')/\R (.returned v) (q2_ a'.defers w')) { tmps:=args++Array.replicate (fn.ntmps-args.size) undef,defers:=[] } w):Calls P f args w R:=
 callsIn_wide.1 (callsIn_of_wp_marks (n:=0) (F:=Fence.wide) hf hb trivial (wpIn_mono (wpIn_wide.2 h) fun e a' w' ⟨he,B,h1,h2⟩=>by
  rcases he with rfl |rfl
  ·exact vy_ h1 h2
  ·exact vy_ h1 h2))
theorem mY_ (ht:TabOk P tab){fn:Func}{c c':Cf}{s':St}{a':Act}{R:AV->Hp->Nat->Prop}{nx:Nat}(h3:Sim ⟨g.base,g.M0,c.w.heap.size⟩ s' c' a' N)(h5:Ext c c')(h6:nx<=s'.nx)(h7:∀i,c'.kn i->c.kn i\/nx<=i):
  (∃v hp',resA tab fn.results s'=some v/\Less hp' s'.hp/\R v hp' s'.nx)->∃B,Marks B a'.defers c'.w/\∃v,(results fn a'.tmps).run P (q2_ a'.defers c'.w)= .ok v (q2_ a'.defers c'.w)/\∃u v' c'' nx',Ending.returned v= .returned u/\R v' c''.hp nx'/\c''.w=q2_ a'.defers c'.w/\Ext c c''/\HR g c''/\RAt g c'' v' u/\nx<=nx'/\∀i,c''.kn i->c.kn i\/(nx<=i/\i<nx'):=by
 rintro⟨v,hp',e1,e2,e3⟩;obtain⟨h8,_,h10⟩:=h3.taken;obtain⟨u,q1,q2⟩:=tC_ ht h8 e1;obtain⟨t1,t2,t3,t4,t5⟩:=bN_ a'.defers c'.w;have he2:Ext c ⟨c'.hp,c'.φ,q2_ a'.defers c'.w,c'.kn⟩:=by
  refine⟨t1.trans h5.os,t2.trans h5.tape,t3.trans h5.output,by simp only[t5];exact h5.size,h5.kn,fun k hk hm=> ?_,h5.muts,h5.keep,fun id es' sz v' br' fz' hn hr=> ?_,by simp only[t4];exact h5.drawn⟩
  ·rcases h10 k with h |⟨h,_⟩
   ·exact h.trans (h5.block k hk hm)
   ·exact absurd h (Nat.not_le.2 hk)
  ·obtain⟨es,v0,br,fz,k1,k2,k3⟩:=h5.rows id es' sz v' br' fz' hn hr
   grind
 obtain⟨he,hr'⟩:=Ext.less h8.hr (hp':=hp') fun i=>by
  have:c'.hp=s'.hp:=h3.hp
  rw[this];exact e2.h i
 have tu:=Trp.unfb g ⟨hp',c'.φ,q2_ a'.defers c'.w,c'.kn⟩ c.w.heap.size;exact⟨_,h3.dfs.2,u,q1,u,v,⟨hp',c'.φ,q2_ a'.defers c'.w,c'.kn⟩,s'.nx,rfl,e3,rfl,he2.trans he,hr'.tr tu hr'.le hr'.m0 (fun id o ho=>(hr'.dom id o ho).2.1) (Nat.le_refl _),(q2.ext he).tr tu,h6,fun i hi=>(h7 i hi).imp_right fun h8=>⟨h8,h3.kn i hi⟩⟩
theorem HR.fb {g:Gh}{c:Cf}(h:HR g c)(B:Nat):HR ⟨g.base,g.M0,B⟩ c:=h.tr (Trp.fb g c B) h.le h.m0 (fun id o ho=>(h.dom id o ho).2.1) (Nat.le_refl _)
end
end
section
open Go.RowKit
section
variable {P:Program}{tab:Nat->TI}
def EndW (tab:Nat->TI)(rs:Array ResultVar)(R:AV->Hp->Nat->Prop)(e:Ex)(s:St):Prop:=
 match e with
 | .exit _=>False
 |_=>∃v hp',resA tab rs s=some v/\Less hp' s.hp/\R v hp' s.nx
theorem rm_ (ht:TabOk P tab)(hm:P.follows .mixedOrders=true){f:FuncId}{fn:Func}{code:Code}(hf:P.funcs[f]? =some fn)(hb:fn.body=some code)(hname:(fn.name== "runtime.NumGoroutine")=false)(hd:jK_ fn.ntmps code=true){vs:List AV}{hp:Hp}{nx:Nat}{R:AV->Hp->Nat->Prop}
  (hlen:vs.length<=fn.ntmps) (h:W P tab code (EndW tab fn.results R) ⟨frOf vs,hp,nx⟩):InlOK P f vs hp nx R:=by
 refine⟨⟨fn,hf,hname,by rw[hb];rfl⟩,fun g c args hhp hkn hr hsz hargs=> ?_⟩;refine wL_ hf hb (Code.wp_mono (fun e a' w' hpost=> ?_) (d7_ (g:=⟨g.base,g.M0,c.w.heap.size⟩) (N:=fn.ntmps) ht hm code _ _ c _ hd h ⟨hhp,hr.fb _,hkn,fun t=> ?_,by simp;omega,Nat.le_refl _,trivial⟩))
 ·obtain⟨ex,s',c',h1,h2,h3,h4,h5,h6,h7⟩:=hpost
  subst h1;subst h4;have fin:=mY_ (fn:=fn) (R:=R) ht h3 h5 h6 h7;cases ex with
  |normal=>exact⟨.inl rfl,fin h2⟩
  |ret=>exact⟨.inr rfl,fin h2⟩
  |exit n=>exact h2.elim
 ·refine RAt.tr (Trp.fb g c _) ?_
  show RAt g c (vs.getD t (.tu [])) _;by_cases hlt:t<vs.length
  ·have e1:vs[t]? =some vs[t]:=List.getElem?_eq_getElem hlt
   obtain⟨u,h1,h2⟩:=hargs t _ e1;have e2:vs.getD t (.tu [])=vs[t]:=by simp[List.getD,e1]
   rw[e2,Array.getD_eq_getD_getElem?,Array.getElem?_append_left (by omega),h1];exact h2
  ·have e2:vs.getD t (.tu [])= .tu []:=by simp[List.getD,List.getElem?_eq_none (Nat.le_of_not_lt hlt)]
   rw[e2];have e3:(args++Array.replicate (fn.ntmps-args.size) undef).getD t undef=undef:=by
    rw[Array.getD_eq_getD_getElem?,Array.getElem?_append_right (by omega)];by_cases h1:t-args.size<fn.ntmps-args.size
    ·simp[h1]
    ·simp[h1]
   rw[e3];exact k2_ c
def EndP (d:D)(fr:Bool)(v:AV)(hp':Hp)(_nx:Nat):Prop:=∃b is,toR hp' v=some (d,b,is)/\(fr=true->b=false)
theorem wo_ {f:FuncId}{ds:List D}{d:D}{fr:Bool}(h:InlOK P f (ds.map (lift true)) noHp 0 (EndP d fr)):PureOK P f ds d fr:=by
 refine⟨h.1,fun w M0 args hM hsz hargs=> ?_⟩;have hr:HR ⟨w.heap.size,M0,w.heap.size⟩ ⟨noHp,fun _=>0,w,fun _=>False⟩:=⟨Nat.le_refl _,hM,fun _ _ h=>by simp[noHp] at h,fun _ _ _ _ h=>by simp[noHp] at h,fun _ _ h=>by simp[noHp] at h⟩
 refine(h.2 ⟨w.heap.size,M0,w.heap.size⟩ ⟨noHp,fun _=>0,w,fun _=>False⟩ args rfl (fun _ h=>h.elim) hr (by simpa using hsz) (fun j x hj=> ?_)).mono fun e w' ⟨u,v,c',nx',h1,⟨b,is,h2,h3⟩,h4,h5,h6,h7,_,_⟩=> ?_
 ·rw[List.getElem?_map,Option.map_eq_some_iff] at hj
  obtain⟨d,h1,rfl⟩:=hj;obtain⟨u,h2,h3⟩:=hargs j d h1;have h4:RV1 w (Im ⟨w.heap.size,M0,w.heap.size⟩ ⟨noHp,fun _=>0,w,fun _=>False⟩ true) d u:=h3.mono (fun _ _=>rfl) fun k hk=>⟨hk.1,hk.2,fun _ _ h=>by simp[noHp] at h,by simp⟩;refine⟨u,h2,?_⟩;cases d with
  |ag cs=>exact h4
  |tu cs=>cases h3
  |v x=>exact(RC.toRA (c:=⟨noHp,fun _=>0,w,fun _=>False⟩) h4).toAt
  |sl x=>exact(RC.toRA (c:=⟨noHp,fun _=>0,w,fun _=>False⟩) h4).toAt
  |pt x y=>exact(RC.toRA (c:=⟨noHp,fun _=>0,w,fun _=>False⟩) h4).toAt
  |mp x=>exact(RC.toRA (c:=⟨noHp,fun _=>0,w,fun _=>False⟩) h4).toAt
 ·subst h4
  refine⟨u,h1,⟨⟨h5.os,h5.tape,h5.output,h5.size,fun k hk=>h5.block k hk fun id o ho=>by simp[noHp] at ho⟩,h5.drawn⟩,?_⟩;have hI:∀k,Im ⟨w.heap.size,M0,w.heap.size⟩ c' b k->k<c'.w.heap.size/\¬M0 k/\(fr=true->w.heap.size<=k):=fun k hk=>⟨hk.1,hk.2.1,fun hf=>hk.2.2.2 (h3 hf)⟩
  have hrow:∀i,(∃es sz v br fz,c'.hp i=some (.rw es sz v br fz))->c'.φ i<c'.w.heap.size/\¬M0 (c'.φ i)/\(fr=true->w.heap.size<=c'.φ i):=fun i ⟨es,sz,v,br,fz,hi⟩=>by
   obtain⟨_,g1,g2⟩:=h6.dom i _ hi;exact⟨g2,g1.2,fun _=>g1.1⟩
  unfold toR at h2;split at h2
  ·rename_i cs
   rw[Option.map_eq_some_iff] at h2;obtain⟨⟨ds',b',is'⟩,e1,e2⟩:=h2;simp only[Prod.mk.injEq] at e2;obtain⟨rfl,rfl,rfl⟩:=e2;obtain⟨vs,hv,hn,hc⟩:=h7
   obtain⟨g1,g2⟩:=yt_ h6 rfl (fun k=>k<c'.w.heap.size/\¬M0 k/\(fr=true->w.heap.size<=k)) (fun j=>vs.getD j undef) e1 (wJ_ fun j x hj=>let ⟨y,k1,k2⟩:=hc j x hj;⟨y,k1,k2.toAt⟩) hI fun i hi=>hrow i (vw_ e1 i hi);refine⟨vs,hv,by omega,fun j x hj=>⟨_,k1_ (by grind),(g2 j x hj).1⟩⟩
  ·obtain⟨g1,g2,_⟩:=bC_ h6 rfl (fun k=>k<c'.w.heap.size/\¬M0 k/\(fr=true->w.heap.size<=k)) h2 h7 hI fun i hi=>hrow i (wI_ h2 i hi)
   cases d with
   |tu ds=>exact absurd rfl (g2 ds)
   |_=>exact g1
theorem InlOK.mono {f:FuncId}{vs:List AV}{hp:Hp}{nx:Nat}{R R':AV->Hp->Nat->Prop}(h:InlOK P f vs hp nx R)(hR:∀v hp nx,R v hp nx->R' v hp nx):InlOK P f vs hp nx R':=
 ⟨h.1,fun g c args h1 h2 h3 h4 h5=>(h.2 g c args h1 h2 h3 h4 h5).mono fun _ _ ⟨u,v,c',nx',e1,e2,e3⟩=>⟨u,v,c',nx',e1,hR _ _ _ e2,e3⟩⟩
theorem PureOK.old {f:FuncId}{ds:List D}{d:D}{fr:Bool}(h:PureOK P f ds d fr):PureOK P f ds d false:=
 ⟨h.1,fun w M0 args h1 h2 h3=>(h.2 w M0 args h1 h2 h3).mono fun _ _ ⟨u,e1,e2,e3⟩=>⟨u,e1,e2,e3.mono (fun _ _=>rfl) fun _ hk=>⟨hk.1,hk.2.1,by simp⟩⟩⟩
theorem hQ_ {f:AV}{vs:List AV}{hp:Hp}{nx:Nat}{K K':AV->Hp->Nat->Prop}(h:bK_ P f vs hp nx K)(hK:∀v hp nx,K v hp nx->K' v hp nx):bK_ P f vs hp nx K':=by
 unfold bK_ at *;split at h
 ·rcases h with⟨ds,b,is,d,fr,h1,h2,h3,h4⟩ |h
  ·grind
  ·exact .inr (h.mono hK)
 ·exact h.elim
theorem kk_ {op:Op}{id:Nat}{s:St}{K K':AV->Hp->Nat->Prop}(h:kT_ P tab op id s K)(hK:∀v hp nx,K v hp nx->K' v hp nx):kT_ P tab op id s K':=by
 unfold kT_ at *;split at h
 ·exact hQ_ h hK
 grind
theorem vd_ {ops:Array Oper}{o:Oper}{s:St}{y n y' n':Prop}(h:xC_ ops o s y n)(h1:y->y')(h2:n->n'):xC_ ops o s y' n':=by
 unfold xC_ at *;split at h
 ·exact h1 h
 grind
theorem gN_ {ops:Array Oper}{nx0:Nat}{K K':St->Prop}(hK:∀s,K s->K' s):∀(l:List Nat) (s:St),WL P tab ops nx0 K l s->WL P tab ops nx0 K' l s
 |[],s,h=>hK s h
 |i::l,s,h=>by
  unfold WL at *;split at h
  ·exact gN_ hK l s h
  ·exact vd_ h (fun h=>kk_ h fun _ _ _ h=>gN_ hK l _ h) fun h=>gN_ hK l _ h
theorem W_cond (x:Operand)(y z:Code)(Q:Ex->St->Prop)(s:St):W P tab (.cond x y z) Q s=(match ev s.fr x with
  | .v (.bool t)=>(t=true->W P tab y Q s)/\(t=false->W P tab z Q s)
  |_=>False):=rfl
end
end
section
open Go.RowKit
mutual
def idsA:AV->List Nat
 | .pt i _=>[i]
 | .pr i _ _ _=>[i]
 | .so i _ _ _=>[i]
 | .mo i=>[i]
 | .ag cs=>idsL cs
 | .tu cs=>idsL cs
 | .fn _ cs=>idsL cs
 |_=>[]
def idsL:List AV->List Nat
 |[]=>[]
 |x::r=>idsA x++idsL r
end
theorem yG_:∀(xs ys:List AV),idsL (xs++ys)=idsL xs++idsL ys
 |[],ys=>by simp[idsL]
 |x::xs,ys=>by simp[idsL,yG_ xs ys]
def vq_:Op->Bool
 | .move _ | .assign _ | .pick .. | .alloc _ | .box .. | .build .. | .nilCheck _ | .unOp .. | .fieldAddr .. | .extract .. | .makeFunc .. | .makeMap .. | .makeSlice .. | .index .. =>false
 |_=>true
def qG_ (ρ:Operand->AV)(op:Op):List Nat:=if vq_ op then idsL (op.operands.toList.map ρ) else[]
theorem rn_ {xs:List AV}{x:AV}(h:x∈xs){i:Nat}(hi:i∈idsA x):i∈idsL xs:=by
 induction xs with
 |nil=>cases h
 |cons y r ih=>
  simp only[idsL,List.mem_append];grind
theorem mZ_ {ρ:Operand->AV}{op:Op}(hl:vq_ op=true){x:Operand}(h:x∈op.operands.toList){i:Nat}(hi:i∈idsA (ρ x)):i∈qG_ ρ op:=by
 unfold qG_;rw[if_pos hl];exact rn_ (List.mem_map_of_mem h) hi
section
variable {tab:Nat->TI}{ρ ρ':Operand->AV}{hp hp':Hp}{id:Nat}
theorem kl_ {x:AV}(h:∀i∈idsA x,hp i=hp' i):toD1 hp x=toD1 hp' x:=by
 cases x with
 |so i v o n=>simp only[toD1,h i (by simp[idsA])]
 |v x=>cases x with
  |slice a n c=>cases a<;>cases n<;>cases c<;>rfl
  |_=>rfl
 |d x b=>cases x<;>rfl
 |_=>rfl
theorem km_:∀ {xs:List AV},(∀i∈idsL xs,hp i=hp' i)->toDs hp xs=toDs hp' xs
 |[],_=>rfl
 |x::r,h=>by
  simp only[toDs,kl_ (x:=x) fun i hi=>h i (by simp[idsL,hi]),km_ (xs:=r) fun i hi=>h i (by simp[idsL,hi])]
theorem m0_ {x:AV}(h:∀i∈idsA x,hp i=hp' i):toD hp x=toD hp' x:=by
 cases x with
 |ag cs=>simp only[toD,km_ (xs:=cs) fun i hi=>h i (by simpa [idsA] using hi)]
 |d y b=>cases y<;>rfl
 |v y=>exact kl_ h
 |so i v o n=>exact kl_ h
 |tu cs=>rfl
 |fn f cs=>rfl
 |pt i o=>rfl
 |pr i v k o=>rfl
 |mo i=>rfl
 |un=>rfl
theorem kn_:∀ {xs:List AV},(∀i∈idsL xs,hp i=hp' i)->toDl hp xs=toDl hp' xs
 |[],_=>rfl
 |x::r,h=>by
  simp only[toDl,m0_ (x:=x) fun i hi=>h i (by simp[idsL,hi]),kn_ (xs:=r) fun i hi=>h i (by simp[idsL,hi])]
theorem m1_ {x:AV}{d:D}{b:Bool}{is:List Nat}(h:toD1 hp x=some (d,b,is)):∀i∈is,i∈idsA x:=by
 unfold toD1 at h;grind [idsA]
theorem d8_:∀ {xs:List AV} {ds:List D} {b:Bool} {is:List Nat},toDs hp xs=some (ds,b,is)->∀i∈is,i∈idsL xs
 |[],ds,b,is,h=>by
  simp only[toDs,Option.some.injEq,Prod.mk.injEq] at h;obtain⟨_,_,rfl⟩:=h;simp
 |x::r,ds,b,is,h=>by
  unfold toDs at h;split at h
  ·rename_i d b1 i1 ds1 b2 i2 e1 e2
   cases h;intro i hi;simp only[idsL,List.mem_append];exact(List.mem_append.1 hi).imp (m1_ e1 i) (d8_ e2 i)
  ·cases h
theorem toD_is {x:AV}{d:D}{b:Bool}{is:List Nat}(h:toD hp x=some (d,b,is)):∀i∈is,i∈idsA x:=by
 unfold toD at h;split at h
 ·rw[Option.map_eq_some_iff] at h
  obtain⟨⟨ds,b',is'⟩,e1,e2⟩:=h;simp only[Prod.mk.injEq] at e2;obtain⟨_,_,rfl⟩:=e2;exact fun i hi=>by simpa [idsA] using d8_ e1 i hi
 ·cases h;simp
 ·exact m1_ h
theorem m2_:∀ {xs:List AV} {ds:List D} {b:Bool} {is:List Nat},toDl hp xs=some (ds,b,is)->∀i∈is,i∈idsL xs
 |[],ds,b,is,h=>by
  simp only[toDl,Option.some.injEq,Prod.mk.injEq] at h;obtain⟨_,_,rfl⟩:=h;simp
 |x::r,ds,b,is,h=>by
  unfold toDl at h;split at h
  ·rename_i d b1 i1 ds1 b2 i2 e1 e2
   cases h;intro i hi;simp only[idsL,List.mem_append];exact(List.mem_append.1 hi).imp (toD_is e1 i) (m2_ e2 i)
  ·cases h
theorem yH_:∀ {is:List Nat},(∀i∈is,hp i=hp' i)->frz hp is=frz hp' is
 |[],_=>rfl
 |i::r,h=>by simp only[frz,h i (by simp),yH_ (is:=r) fun i hi=>h i (by simp[hi])]
theorem d9_ {x:AV}(h:∀i∈idsA x,hp i=hp' i):v9_ hp x=v9_ hp' x:=by
 cases x with
 |so i v o n=>simp only[v9_,h i (by simp[idsA])]
 |d y b=>cases y<;>rfl
 |v y=>cases y with
  |slice a n c=>cases a<;>cases n<;>cases c<;>rfl
  |_=>rfl
 |_=>rfl
theorem m3_ {x:AV}{cs:List AV}(h:qP_ x=some cs):∀i∈idsL cs,i∈idsA x:=by
 have single:∀ {x:AV},∀i∈idsL [x],i∈idsA x:=fun i hi=>by simpa [idsL] using hi
 have lifts:∀(cs:List D) (b:Bool),idsL (cs.map (lift b))= []:=by
  intro cs b;induction cs with
  |nil=>rfl
  |cons d r ih=>cases d<;>simp[idsL,lift,idsA,ih]
 cases x with
 |ag xs=>simp only[qP_,Option.some.injEq] at h;subst h;exact fun i hi=>by simpa [idsA] using hi
 |d y b=>cases y with
  |ag ds=>simp only[qP_,Option.some.injEq] at h;subst h;rw[lifts];simp
  |tu ds=>simp[qP_] at h
  |_=>simp only[qP_,Option.some.injEq] at h;subst h;exact single
 |tu xs=>simp[qP_] at h
 |un=>simp[qP_] at h
 |_=>simp only[qP_,Option.some.injEq] at h;subst h;exact single
theorem yI_ (offs:List (Nat × Nat)):∀(ps:List (Nat × Operand)) (cs:List AV),(∀p∈ps,ρ p.2=ρ' p.2)->yn_ offs ρ cs ps=yn_ offs ρ' cs ps
 |[],cs,_=>rfl
 |(i,x)::r,cs,h=>by
  have h1:=h (i,x) (by simp);simp only[yn_,h1];split
  ·split
   ·exact yI_ offs r _ fun p hp=>h p (by simp[hp])
   ·rfl
  ·rfl
theorem bO_ {len:Nat}{lo hi:Option Operand}(h1:∀x∈lo,ρ x=ρ' x)(h2:∀x∈hi,ρ x=ρ' x):xB_ ρ len lo hi=xB_ ρ' len lo hi:=by
 unfold xB_;grind
theorem bP_ {op:Op}(hρ:∀x∈op.operands.toList,ρ x=ρ' x)(hh:∀i∈qG_ ρ op,hp i=hp' i):ql_ tab ρ hp id op=ql_ tab ρ' hp' id op:=by
 have key:vq_ op=true->∀x∈op.operands.toList,∀i∈idsA (ρ x),hp i=hp' i:=fun hl x hx i hi=>hh i (mZ_ hl hx hi);have one1:∀x∈op.operands.toList,ρ x=ρ' x:=fun x hx=>hρ x hx;have one:vq_ op=true->∀x∈op.operands.toList,ρ x=ρ' x/\∀i∈idsA (ρ' x),hp i=hp' i:=fun hl x hx=>⟨hρ x hx,fun i hi=>key hl x hx i (by rw[hρ x hx];exact hi)⟩;clear key hh hρ
 cases op with
 |move x=>simp only[ql_,(one1 x (by simp[Op.operands]))]
 |assign x=>simp only[ql_,(one1 x (by simp[Op.operands]))]
 |pick x y z=>simp_all [ql_,Op.operands]
 |alloc T=>rfl
 |box T x=>simp only[ql_,(one1 x (by simp[Op.operands]))]
 |build T ps=>
  simp only[ql_];rw[yI_ (ρ:=ρ) (ρ':=ρ') (tab T).offs ps.toList _ fun p hp=>(one1 p.2 (by simp only[Op.operands,List.toList_toArray];exact List.mem_map_of_mem hp))]
 |load T x=>
  obtain⟨h1,h2⟩:=one rfl x (by simp[Op.operands]);simp only[ql_,h1];grind [idsA]
 |store T x y=>
  obtain⟨h1,h2⟩:=one rfl x (by simp[Op.operands]);obtain⟨h3,h4⟩:=one rfl y (by simp[Op.operands]);simp only[ql_,h1,h3];cases hx:ρ' x with
  |pt i off=>
   grind [qP_,idsA]
  |pr i v k off=>
   cases hc:qP_ (ρ' y) with
   |none=>rfl
   |some xs=>
    have hl:∀i∈idsL xs,hp i=hp' i:=fun i hi=>h4 i (m3_ hc i hi);simp only[h2 i (by simp[hx,idsA]),km_ (xs:=xs) hl];cases hd:toDs hp' xs with
    |none=>
     simp
    |some p=>
     obtain⟨ds,b,is⟩:=p;have hfr:=yH_ (hp:=hp) (hp':=hp') (is:=is) fun i hi=>hl i (d8_ hd i hi);cases hp' i with
     |none=>rfl
     |some o=>cases o with
      |rw es sz v br fz=>
       grind
      |_=>rfl
  |_=>rfl
 |nilCheck x=>simp only[ql_,(one1 x (by simp[Op.operands]))]
 |binOp op T x y T'=>
  obtain⟨h1,h2⟩:=one rfl x (by simp[Op.operands]);simp only[ql_,h1,(one1 y (by simp[Op.operands]))];congr 1
  unfold binH;split
  ·rename_i i v o n e _
   rw[h2 i (by simp[e,idsA])]
  ·rfl
 |unOp op T x=>simp only[ql_,(one1 x (by simp[Op.operands]))]
 |convert s t x=>
  obtain⟨h1,h2⟩:=one rfl x (by simp[Op.operands]);simp only[ql_,h1];grind [idsA]
 |fieldAddr T x f=>simp only[ql_,(one1 x (by simp[Op.operands]))]
 |indexAddr T x i=>
  obtain⟨h1,h2⟩:=one rfl x (by simp[Op.operands]);simp only[ql_,h1,(one1 i (by simp[Op.operands]))];grind [qT_,idsA]
 |index T x i=>simp only[ql_,(one1 x (by simp[Op.operands])),(one1 i (by simp[Op.operands]))]
 |slice T x lo hi mx=>
  cases mx with
  |some m=>rfl
  |none=>
   obtain⟨h1,h2⟩:=one rfl x (by simp[Op.operands]);have hb:∀len,xB_ ρ len lo hi=xB_ ρ' len lo hi:=fun len=>bO_ (fun y hy=>(one1 y (by simp only[Option.mem_def] at hy;subst hy;simp[Op.operands]))) fun y hy=>(one1 y (by simp only[Option.mem_def] at hy;subst hy;simp[Op.operands]));simp only[ql_,h1,hb];grind [idsA]
 |extract x i=>simp only[ql_,(one1 x (by simp[Op.operands]))]
 |makeFunc f first caps=>
  cases f with
  |func f=>
   have e:caps.toList.map ρ=caps.toList.map ρ':=List.map_congr_left fun x hx=>(one1 x (by simp only[Op.operands,Array.toList_append,List.mem_append];exact .inr hx));simp only[ql_,e]
  |_=>rfl
 |buildSlice T n ps=>
  have e:(ps.toList.map fun p=>ρ p.2)=ps.toList.map fun p=>ρ' p.2:=List.map_congr_left fun p hp=>(one1 p.2 (by simp only[Op.operands,List.toList_toArray];exact List.mem_map_of_mem hp));have hl:∀i∈idsL (ps.toList.map fun p=>ρ' p.2),hp i=hp' i:=by
   intro i hi
   have:∀(l:List (Nat × Operand)),(∀p∈l,p∈ps.toList)->i∈idsL (l.map fun p=>ρ' p.2)->hp i=hp' i:=by
    intro l;induction l with
    |nil=>intro _ h;simp[idsL] at h
    |cons p r ih=>
     intro hl h;simp only[List.map_cons,idsL,List.mem_append] at h;rcases h with h |h
     ·exact(one rfl p.2 (by simp only[Op.operands,List.toList_toArray];grind)).2 i h
     grind
   exact this ps.toList (fun _ h=>h) hi
  simp only[ql_,e,kn_ hl];grind [toDl,yH_,m2_]
 |makeMap T r=>cases r<;>rfl
 |lookup T x k ok=>
  obtain⟨h1,h2⟩:=one rfl x (by simp[Op.operands]);simp only[ql_,h1,(one1 k (by simp[Op.operands]))];grind [idsA]
 |mapUpdate T m k x=>
  obtain⟨h1,h2⟩:=one rfl m (by simp[Op.operands]);simp only[ql_,h1,(one1 k (by simp[Op.operands])),(one1 x (by simp[Op.operands]))];cases hx:ρ' m with
  |mo i=>simp only[h2 i (by simp[hx,idsA])]
  |_=>rfl
 |insert T m k x=>
  obtain⟨h1,h2⟩:=one rfl m (by simp[Op.operands]);simp only[ql_,h1,(one1 k (by simp[Op.operands])),(one1 x (by simp[Op.operands]))];cases hx:ρ' m with
  |mo i=>simp only[h2 i (by simp[hx,idsA])]
  |_=>rfl
 |mapEntry T m k=>
  obtain⟨h1,h2⟩:=one rfl m (by simp[Op.operands]);simp only[ql_,h1,(one1 k (by simp[Op.operands]))];cases hx:ρ' m with
  |mo i=>simp only[h2 i (by simp[hx,idsA])]
  |_=>rfl
 |entryStore T m st x=>
  obtain⟨h1,h2⟩:=one rfl m (by simp[Op.operands]);simp only[ql_,h1,(one1 st (by simp[Op.operands])),(one1 x (by simp[Op.operands]))];grind [qT_,idsA]
 |makeSlice T l c=>simp only[ql_,(one1 l (by simp[Op.operands])),(one1 c (by simp[Op.operands]))]
 |call c=>
  obtain⟨callee,args,ty⟩:=c;cases callee with
  |builtin b=>
   have ha:∀x∈args.toList,ρ x=ρ' x/\∀i∈idsA (ρ' x),hp i=hp' i:=fun x hx=>one rfl x (by simp[Op.operands,Call.operands] at hx⊢;exact hx);cases b with
   |min=>
    simp only[ql_];grind
   |max=>
    simp only[ql_];grind
   |clear=>
    simp only[ql_];grind [idsA]
   |delete=>
    simp only[ql_];split
    ·grind [idsA]
    ·rfl
   |len=>
    simp only[ql_];grind
   |cap=>
    simp only[ql_];grind
   |append=>
    simp only[ql_];grind [d9_,v9_,idsA]
   |_=>rfl
  |_=>rfl
 |_=>rfl
end
end
end Go.Proofs.YtnmkbmefohakmaaGreat.Ab
