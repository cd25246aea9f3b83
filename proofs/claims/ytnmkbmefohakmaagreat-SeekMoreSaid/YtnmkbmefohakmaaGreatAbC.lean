/-
 Regions, calls and code of the machine are the true ones.
-/
import Derived.Orders
import Derived.RangeFuncLeaves
import Derived.RangeFuncRecord
import Derived.Test.YtnmkbmefohakmaaGreatAbB
set_option linter.all false
namespace Go.Proofs.YtnmkbmefohakmaaGreat.Ab
section
open Go.RowKit
inductive Ex where
 |normal |ret |exit (n:Nat)
def Ex.up:Ex->Exit
 | .normal=>.normal
 | .ret=>.ret
 | .exit n=>.exit n
def Ks (P:Program)(f:FuncId):Prop:=∃fn,P.funcs[f]? =some fn/\(fn.name== "runtime.NumGoroutine")=false/\fn.body.isSome=true
def AI (P:Program)(f:FuncId)(ds:List D)(d:D)(fr:Bool):Prop:=Ks P f/\∀(w:World) (M0:Nat->Prop) (args:Array Value),(∀k,M0 k->k<w.heap.size)->args.size=ds.length->(∀(j:Nat) (x:D),ds[j]? =some x->∃u,args[j]? =some u/\DJ w (fun k=>k<w.heap.size/\¬M0 k) x u)->Calls P f args w fun e w'=>∃u,e= .returned u/\(Below w.heap.size w w'/\w.drawn<=w'.drawn)/\RV w' (fun k=>k<w'.heap.size/\¬M0 k/\(fr=true->w.heap.size<=k)) d u
def AK (P:Program)(f:FuncId)(vs:List AV)(hp:Hp)(nx:Nat)(R:AV->Hp->Nat->Prop):Prop:=Ks P f/\∀(g:Gh) (c:Cf) (args:Array Value),c.hp=hp->(∀i,c.kn i->i<nx)->HR g c->args.size=vs.length->(∀(j:Nat) (x:AV),vs[j]? =some x->∃u,args[j]? =some u/\Am g c x u)->Calls P f args c.w fun e w'=>∃u v c' nx',e= .returned u/\R v c'.hp nx'/\c'.w=w'/\CF c c'/\HR g c'/\Am g c' v u/\nx<=nx'/\∀i,c'.kn i->c.kn i\/(nx<=i/\i<nx')
def KN (P:Program)(f:AV)(vs:List AV)(hp:Hp)(nx:Nat)(K:AV->Hp->Nat->Prop):Prop:=
 match f with
 | .fn g caps=>(∃ds b is d fr,CT hp (vs++caps)=some (ds,b,is)/\AI P g ds d fr/\(is= []\/fr=true)/\K (Aw (!fr&&b) d) hp nx)\/AK P g (vs++caps) hp nx K
 |_=>False
def HQ (P:Program)(tab:Nat->TI)(op:Op)(id:Nat)(s:St)(K:AV->Hp->Nat->Prop):Prop:=
 match op with
 | .call { callee:=.value f,args, .. }=>KN P (ev s.fr f) (args.toList.map (ev s.fr)) s.hp s.nx K
 |op=>match CB tab (ev s.fr) s.hp id op with
  |some (v,δ)=>K v (Av δ s.hp) s.nx
  |none=>False
def Fx (ops:Array Oper)(o:Oper)(s:St)(yes no:Prop):Prop:=
 match o.guard with
 |none=>yes
 |some (j,t)=>match (ops[j]?).bind (·.dst) with
  |none=>no
  |some d=>match s.fr d with
   | .v (.bool b)=>(b=t->yes)/\(b= !t->no)
   | .tu []=>no
   |_=>False
def A7 (d:Option Nat)(v:AV)(fr:Fr):Fr:=match d with
 |some t=>upd t v fr
 |none=>fr
def WL (P:Program)(tab:Nat->TI)(ops:Array Oper)(nx0:Nat)(K:St->Prop):List Nat->St->Prop
 |[],s=>K s
 |i::r,s=>match ops[i]? with
  |none=>WL P tab ops nx0 K r s
  |some o=>Fx ops o s (HQ P tab o.op (nx0+i) s fun v hp nx=>WL P tab ops nx0 K r ⟨A7 o.dst v s.fr,hp,nx⟩) (WL P tab ops nx0 K r ⟨A7 o.dst (.tu []) s.fr,s.hp,s.nx⟩)
structure ID (s' s:St):Prop where
 fr:∀t,s'.fr t= .un\/s'.fr t=s.fr t
 hp:∀i,s'.hp i=none\/s'.hp i=s.hp i
 nx:s.nx<=s'.nx
mutual
def CK (ρ:Nat->Option Nat):AV->Option AV
 | .pt i o=>(ρ i).map fun j=>.pt j o
 | .pr i v k o=>(ρ i).map fun j=>.pr j v k o
 | .so i v o n=>(ρ i).map fun j=>.so j v o n
 | .mo i=>(ρ i).map .mo
 | .ag cs=>(Dv ρ cs).map .ag
 | .tu cs=>(Dv ρ cs).map .tu
 | .fn f cs=>(Dv ρ cs).map (.fn f)
 | .v x=>some (.v x)
 | .d x b=>some (.d x b)
 | .un=>some .un
def Dv (ρ:Nat->Option Nat):List AV->Option (List AV)
 |[]=>some []
 |c::r=>match CK ρ c,Dv ρ r with
  |some d,some ds=>some (d::ds)
  |_,_=>none
end
def ER (ρ:Nat->Option Nat):List (Value × AV)->Option (List (Value × AV))
 |[]=>some []
 |(x,c)::r=>match CK ρ c,ER ρ r with
  |some d,some ds=>some ((x,d)::ds)
  |_,_=>none
def CP (ρ:Nat->Option Nat):AO->Option AO
 | .bx cs=>(Dv ρ cs).map .bx
 | .rw es sz v br fz=>some (.rw es sz v br fz)
 | .mo es dl=>(ER ρ es).map fun es=>.mo es dl
structure Ren (n:Nat) (ρ:Nat->Option Nat) (s' s:St):Prop where
 old:∀i,i<n->ρ i=some i
 new:∀i j,n<=i->ρ i=some j->n<=j/\i<s'.nx
 inj:∀i i' j,ρ i=some j->ρ i'=some j->i=i'
 fr:∀t,s'.fr t= .un\/CK ρ (s'.fr t)=some (s.fr t)
 hp:∀i o,s'.hp i=some o->∃j o',ρ i=some j/\CP ρ o=some o'/\s.hp j=some o'
 nx:n<=s'.nx
inductive JT (hp hp':Hp):AV->AV->Prop
 |same (x:AV):JT hp hp' x x
 |dat (x:AV) (d:D) (b b':Bool) (is:List Nat) (h:CS hp x=some (d,b,is)) (hb:b=true->b'=true) (hi:∀i∈is,∀o,hp' i=some o->o.fz=true):JT hp hp' x (.d d b')
inductive IE (hp hp':Hp):List AV->List AV->Prop
 |nil:IE hp hp' [] []
 |cons {x y:AV} {xs ys:List AV} (h:JT hp hp' x y) (hs:IE hp hp' xs ys):IE hp hp' (x::xs) (y::ys)
inductive JU (hp hp':Hp):AV->AV->Prop
 |same (x:AV):JU hp hp' x x
 |un (x:AV):JU hp hp' x .un
 |ag {cs ds:List AV} (h:IE hp hp' cs ds):JU hp hp' (.ag cs) (.ag ds)
 |dat (x:AV) (d:D) (b b':Bool) (is:List Nat) (h:EP hp x=some (d,b,is)) (hb:b=true->b'=true) (hi:∀i∈is,∀o,hp' i=some o->o.fz=true):JU hp hp' x (.d d b')
inductive JV (hp hp':Hp):AO->AO->Prop
 |same (o:AO):JV hp hp' o o
 |fz (es:List (List D)) (sz v:Nat) (br fz:Bool):JV hp hp' (.rw es sz v br fz) (.rw es sz v br true)
 |bx {cs ds:List AV} (h:IE hp hp' cs ds):JV hp hp' (.bx cs) (.bx ds)
structure fJ (s' s:St):Prop where
 fr:∀t,JU s.hp s'.hp (s.fr t) (s'.fr t)
 hp:∀i o',s'.hp i=some o'->∃o,s.hp i=some o/\JV s.hp s'.hp o o'
 nx:s.nx<=s'.nx
inductive A6 (n:Nat):St->St->Prop
 |weak {s' s:St} (h:ID s' s):A6 n s' s
 |ren {s' s:St} (ρ:Nat->Option Nat) (h:Ren n ρ s' s):A6 n s' s
 |dat {s' s:St} (h:fJ s' s):A6 n s' s
 |trans {s' m s:St} (h:A6 n s' m) (h2:A6 n m s):A6 n s' s
def W (P:Program)(tab:Nat->TI):Code->(Ex->St->Prop)->St->Prop
 | .skip,Q,s=>Q .normal s
 | .label _,Q,s=>Q .normal s
 | .ret,Q,s=>Q .ret s
 | .exit n,Q,s=>Q (.exit n) s
 | .seq a b,Q,s=>W P tab a (fun e s'=>match e with | .normal=>W P tab b Q s' |e=>Q e s') s
 | .cond c a b,Q,s=>match ev s.fr c with
  | .v (.bool t)=>(t=true->W P tab a Q s)/\(t=false->W P tab b Q s)
  |_=>False
 | .block n a,Q,s=>W P tab a (fun e s'=>match e with | .exit m=>if m=n then Q .normal s' else Q (.exit m) s' |e=>Q e s') s
 | .region _ ops draw,Q,s=>match draw with
  |false=>WL P tab ops s.nx (Q .normal) (List.range ops.size) ⟨s.fr,s.hp,s.nx+ops.size⟩
  |true=>∀t,WL P tab ops s.nx (Q .normal) (Region.linearise .any ops t) ⟨s.fr,s.hp,s.nx+ops.size⟩
 | .loop a,Q,s=>∀X:St->Prop,(∀s0,W P tab a (fun e s'=>match e with | .normal=>X s' |e=>Q e s') s0->X s0)->(∀s1 s2,A6 s.nx s1 s2->X s1->X s2)->X s
 |_,_,_=>False
def DY (N:Nat):Code->Bool
 | .region _ ops _=>ops.all fun o=>match o.dst with |some d=>decide (d<N) |none=>true
 | .seq a b=>DY N a&&DY N b
 | .cond _ a b=>DY N a&&DY N b
 | .block _ a=>DY N a
 | .loop a=>DY N a
 | .rangeFunc _ ps a b=>(ps.all fun p=>decide (p<N))&&DY N a&&DY N b
 |_=>true
def DC (B:Nat):List Deferred->World->Prop
 |[],_=>True
 |d::ds,w=>(∃r,B<=r/\d.target= .collected r/\w.heap[r]? =some (.deferred (some []))/\∀e∈ds,e.target≠ .collected r)/\DC B ds w
theorem DC.to {B:Nat}{w w':World}:∀ {ds:List Deferred},(∀d∈ds,∀r:Nat,d.target= .collected r->w.heap[r]? =some (.deferred (some []))->w'.heap[r]? =w.heap[r]?)->DC B ds w->DC B ds w'
 |[],_,_=>trivial
 |d::_,h,⟨⟨r,h1,h2,h3,h4⟩,h5⟩=>⟨⟨r,h1,h2,(h d (Lo ..) r h2 h3).trans h3,h4⟩,DC.to (fun e he=>h e (Lh _ he)) h5⟩
theorem HR.not_mark {g:Gh}{c:Cf}(h:HR g c){id:Nat}{o:AO}(ho:c.hp id=some o):c.w.heap[c.φ id]? ≠some (.deferred (some [])):=fun e=>by
 have:=h.obj id o ho;cases o with
 |bx cs=>obtain⟨T,vs,h1,_⟩:=this;rw[h1] at e;cases e
 |rw es sz v br fz=>obtain⟨_,_,T,vs,C,h1,_⟩:=this;rw[h1] at e;cases e
 |mo es dl=>obtain⟨en,k,h1,_⟩:=this;rw[h1] at e;cases e
theorem DC.ext {g:Gh}{c c':Cf}{B:Nat}{ds:List Deferred}(h:DC B ds c.w)(hr:HR g c)(he:CF c c'):DC B ds c'.w:=
 h.to fun _ _ k _ hk=>he.block k (LN.1 hk).1 fun _ _ ho _ e=>hr.not_mark ho (e▸hk)
def WE (B:Nat)(ds:List Deferred)(w:World):Prop:=B<=w.heap.size/\DC B ds w
theorem WE.ext {g:Gh}{c c':Cf}{B:Nat}{ds:List Deferred}(h:WE B ds c.w)(hr:HR g c)(he:CF c c'):WE B ds c'.w:=⟨Lp h.1 he.size,h.2.ext hr he⟩
structure Dx (g:Gh) (s:St) (c:Cf) (a:Act) (N:Nat):Prop where
 hp:c.hp=s.hp
 hr:HR g c
 kn:∀i,c.kn i->i<s.nx
 fr:∀t,Am g c (s.fr t) (a.tmps.getD t undef)
 size:a.tmps.size=N
 dfs:WE g.fb a.defers c.w
section
variable {P:Program}{tab:Nat->TI}{g:Gh}{N:Nat}
theorem Po (c:Cf)(x:Value):Am g c (KK x) x:=by
 unfold KK;split
 ·rename_i cs;split
  ·rename_i h;refine⟨cs,rfl,by simp,fun j y hy=> ?_⟩;rw[Lj,La] at hy;obtain⟨z,h1,rfl⟩:=hy;exact⟨z,by simpa using h1,RA.v z (LL.1 h z (Lt h1))⟩
  trivial
 ·trivial
 rename_i h1 h2;refine RA.v x ?_;cases x<;>first |rfl |(exact absurd rfl (h1 _)) |(exact absurd rfl (h2 _))
theorem KO {s:St}{c:Cf}{a:Act}(h:∀t,Am g c (s.fr t) (a.tmps.getD t undef))(x:Operand):Am g c (ev s.fr x) (a.eval x):=by
 cases x with
 |tmp t=>exact h t
 |const v=>exact Po c v
 |func f=>
  have:=RA.fn (g:=g) (c:=c) f [] (fun _=>undef) 0 rfl (fun j x h=>by simp at h);exact this
 |global n=>trivial
theorem fK {s:St}{c c':Cf}{a:Act}(h:∀t,Am g c (s.fr t) (a.tmps.getD t undef))(he:CF c c'){d:Option Nat}(hd:∀t,d=some t->t<a.tmps.size){v:AV}{u:Value}(hv:Am g c' v u):
  ∀t,Am g c' (A7 d v s.fr t) ((a.put d u).tmps.getD t undef):=by
 intro t;cases d with
 |none=>exact(h t).ext he
 |some k=>
  simp only[A7,Act.put];by_cases e:t=k
  ·subst e
   have:=hd t rfl;rw[Ah];simpa [Array.getD,this] using hv
  rw[Ad _ _ e]
  have:(a.tmps.setIfInBounds k u).getD t undef=a.tmps.getD t undef:=by
   simp only[LG];rw[By (fun e'=>e e'.symm)]
  rw[this];exact(h t).ext he
theorem fL (a:Act)(d:Option Nat)(u:Value):(a.put d u).tmps.size=a.tmps.size:=by cases d<;>simp[Act.put]
theorem Yo (a:Act)(d:Option Nat)(u:Value):(a.put d u).defers=a.defers:=by cases d<;>rfl
theorem Yp {o:Oper}{a:Act}{f:Operand}{args:Array Operand}{ty:Array TypeId}(ho:o.op= .call { callee:=.value f,args:=args,argTypes:=ty }){k:FuncId}(he:Ks P k){caps:Array Value}(hf:a.eval f= .func (.func k) #[] caps)(w:World):
  (execOp a.eval o).run P w= .ok (.enter k (args.map a.eval++caps)) w:=by
 obtain⟨fn,h1,h2,h3⟩:=he;obtain⟨b,hb⟩:=NH.1 h3;have hn:¬fn.name= "runtime.NumGoroutine" :=by simpa using h2
 unfold execOp;simp[ho,resolve,hf,Deferred.ofValue,invoke,callFunc,program,Sem.run,h1,hn,hb]
theorem TT {vals:Array Value}{xs:List AV}{R:AV->Value->Prop}(h:∀(j:Nat) (x:AV),xs[j]? =some x->∃u,vals[j]? =some u/\R x u):∀(j:Nat) (x:AV),xs[j]? =some x->R x (vals.getD j undef):=by
 intro j x hj;obtain⟨u,h1,h2⟩:=h j x hj;rw[LG,h1];exact h2
theorem Yq {s:St}{c:Cf}{a:Act}(h:∀t,Am g c (s.fr t) (a.tmps.getD t undef))(args:Array Operand){caps:List AV}{us:Nat->Value}{n:Nat}(hn:caps.length=n)(hus:∀(j:Nat) (x:AV),caps[j]? =some x->RA g c x (us j)):
  (args.map a.eval++Array.ofFn (n:=n) fun j=>us j).size=(args.toList.map (ev s.fr)++caps).length/\∀(j:Nat) (x:AV),(args.toList.map (ev s.fr)++caps)[j]? =some x->∃u,(args.map a.eval++Array.ofFn (n:=n) fun j=>us j)[j]? =some u/\Am g c x u:=by
 refine⟨by simp[hn],fun j x hj=> ?_⟩;by_cases hl:j<args.size
 ·rw[Nq (by simpa using hl),Lj,La] at hj;obtain⟨y,h1,rfl⟩:=hj;refine⟨a.eval y,?_,KO h y⟩;rw[NB (by simpa using hl),BD];rw[NN] at h1;rw[h1];rfl
 rw[L8 (by simp;omega)] at hj;simp only[LC,Nr] at hj;have hlt:=(Lb.1 hj).1;refine⟨us (j-args.size),?_,(hus _ _ hj).toAt⟩;rw[Bl (by simp;omega),LA (by simp;omega)];simp
theorem TU {vals:Array Value}{j:Nat}(h:j<vals.size):vals[j]? =some (vals.getD j undef):=by simp[Array.getD,h]
theorem fM {o:Oper}{a:Act}{c:Cf}{s:St}(hs:Dx g s c a N){f:Operand}{args:Array Operand}{ty:Array TypeId}(ho:o.op= .call { callee:=.value f,args:=args,argTypes:=ty }){k:FuncId}{caps:List AV}(hf:ev s.fr f= .fn k caps)
  {ds:List D} {b:Bool} {is:List Nat} {d:D} {fr:Bool} (hd:CT s.hp (args.toList.map (ev s.fr)++caps)=some (ds,b,is)) (hp:AI P k ds d fr) (hi:is= []\/fr=true) {K:Value->World->Prop}
  (h:∀u c',c'.hp=c.hp->c'.kn=c.kn->CF c c'->HR g c'->Am g c' (Aw (!fr&&b) d) u->K u c'.w):
  ∃vals,(execOp a.eval o).run P c.w= .ok (.enter k vals) c.w/\Calls P k vals c.w fun e w'=>∃u,e= .returned u/\K u w':=by
 have hfv:=KO hs.fr f;rw[hf] at hfv;generalize hF:a.eval f=fv at hfv;cases(show RA g c (.fn k caps) fv from hfv) with
 |fn _ _ us n hn hus=>
  obtain⟨hsz,hall⟩:=Yq hs.fr args hn hus;refine⟨_,Yp ho hp.1 hF c.w,?_⟩;generalize (args.map a.eval++Array.ofFn (n:=n) fun j=>us j)=vals at hsz hall;obtain⟨_,hp⟩:=hp;have hgo:∀(I:Nat->Prop),(∀k,Im g c b k->I k)->(∀i∈is,I (c.φ i))->vals.size=ds.length/\∀(j:Nat) (x:D),ds[j]? =some x->∃u,vals[j]? =some u/\DJ c.w I x u:=by
   intro I h1 h2;obtain⟨g1,g2⟩:=Ra hs.hr hs.hp I (fun j=>vals.getD j undef) hd (TT hall) h1 h2;refine⟨by omega,fun j x hj=>⟨_,TU (by have:=(Lb.1 hj).1;omega),(g2 j x hj).1⟩⟩
  have fin:∀(I:Nat->Prop) (u:Value) (w':World),Below c.w.heap.size c.w w'/\c.w.drawn<=w'.drawn->RV w' I d u->(∀k,I k->k<w'.heap.size/\(c.w.heap.size<=k\/Im g c (!fr&&b) k))->K u w':=by
   intro I u w' ⟨hb,hdr⟩ hv hI;have he:CF c ⟨c.hp,c.φ,w',c.kn⟩:=⟨hb.os,hb.tape,hb.output,hb.size,fun _ h=>h,fun k hk _=>hb.block k hk,fun id o ho hf=>.inr ⟨o,ho,hf,rfl⟩,fun _ _ h=>⟨rfl,h⟩,
    fun id es _ v br fz hk hr=>⟨es,v,br,fz,hr,Lc _,fun _=>⟨rfl,rfl,fun cur _ e=>⟨cur,(hb.block _ (hs.hr.dom id _ hr).2.2).trans e,rfl⟩⟩⟩,hdr⟩
   have hr':HR g ⟨c.hp,c.φ,w',c.kn⟩:=⟨Lp hs.hr.le hb.size,fun k hk=>Lz (hs.hr.m0 k hk) hb.size,fun id o ho=>⟨(hs.hr.dom id o ho).1,(hs.hr.dom id o ho).2.1,Lz (hs.hr.dom id o ho).2.2 hb.size⟩,hs.hr.inj,fun id o ho=>(hs.hr.obj id o ho).ext he rfl (hb.block _ (hs.hr.dom id o ho).2.2)⟩;refine h u ⟨c.hp,c.φ,w',c.kn⟩ rfl rfl he hr' ?_;have hv2:RV w' (Im g ⟨c.hp,c.φ,w',c.kn⟩ (!fr&&b)) d u:=hv.mono (fun _ _=>rfl) fun k hk=>by
    obtain⟨h1,h2⟩:=hI k hk;rcases h2 with h2 |h2
    ·refine⟨h1,fun hm=> ?_,fun id o ho _ e=> ?_,fun _=>Lp hs.hr.le h2⟩
     ·have:=hs.hr.m0 k hm
      have:=hs.hr.le;omega
     have:=(hs.hr.dom id o ho).2.2;simp only at e;omega
    exact h2.ext he
   cases d with |v x=>exact(RC.toRA (c:=⟨c.hp,c.φ,w',c.kn⟩) hv2).toAt |sl es=>exact(RC.toRA (c:=⟨c.hp,c.φ,w',c.kn⟩) hv2).toAt |pt cs off=>exact(RC.toRA (c:=⟨c.hp,c.φ,w',c.kn⟩) hv2).toAt |mp es=>exact(RC.toRA (c:=⟨c.hp,c.φ,w',c.kn⟩) hv2).toAt |ag cs=>exact hv2 |tu cs=>exact hv2
  by_cases hfr:fr=true
  ·subst hfr;obtain⟨q1,q2⟩:=hgo (fun k=>k<c.w.heap.size/\¬False) (fun k hk=>⟨hk.1,fun h=>h⟩) (fun i hi=>by
    obtain⟨es,sz,v,br,fz,h1⟩:=Pi hd i hi;exact⟨(hs.hr.dom i _ (hs.hp▸h1)).2.2,fun h=>h⟩)
   refine(hp c.w (fun _=>False) vals (fun _ h=>h.elim) q1 q2).mono fun e w' ⟨u,he,hb,hv⟩=>⟨u,he,fin _ u w' hb hv fun k hk=>⟨hk.1,.inl (hk.2.2 rfl)⟩⟩
  have h0:is= []:=by
   rcases hi with hi |hi
   ·exact hi
   exact absurd hi hfr
  subst h0;have hfr2:fr=false:=by simpa using hfr
  subst hfr2;obtain⟨q1,q2⟩:=hgo (fun k=>k<c.w.heap.size/\¬(k<c.w.heap.size/\¬Im g c b k)) (fun k hk=>⟨hk.1,fun h=>h.2 hk⟩) (fun i hi=>by simp at hi);refine(hp c.w (fun k=>k<c.w.heap.size/\¬Im g c b k) vals (fun _ h=>h.1) q1 q2).mono fun e w' ⟨u,he,hb,hv⟩=>⟨u,he,fin _ u w' hb hv fun k hk=>⟨hk.1,?_⟩⟩;by_cases hlt:k<c.w.heap.size
  ·refine .inr ?_
   have:Im g c b k:=Bp fun hn=>hk.2.1 ⟨hlt,hn⟩
   simpa using this
  exact .inl (by omega)
end
end
section
open Go.RowKit
section
variable {P:Program}{tab:Nat->TI}{g:Gh}{N:Nat}
theorem fN {ops:Array Oper}{o:Oper}{s:St}{c:Cf}{a:Act}{yes no:Prop}(hs:Dx g s c a N)(h:Fx ops o s yes no):(Region.wanted o (yielded ops a.tmps)=true/\yes)\/(Region.wanted o (yielded ops a.tmps)=false/\no):=by
 unfold Fx at h;unfold Region.wanted;split at h
 ·rename_i e;rw[e];exact .inl ⟨rfl,h⟩
 rename_i j t e;rw[e];split at h
 ·rename_i e2;refine .inr ⟨?_,h⟩;simp[yielded,e2]
 rename_i d e2;split at h
 ·rename_i b e3;have hv:=hs.fr d;rw[e3] at hv;have h1:=hv.v.1;have h2:a.tmps[d]? =some (.bool b):=by
   rw[LG] at h1;cases h3:a.tmps[d]? with |none=>rw[h3] at h1;cases h1 |some x=>rw[h3] at h1;simp only[Nw] at h1;rw[h1]
  by_cases hb:b=t
  ·refine .inl ⟨?_,h.1 hb⟩;simp[yielded,e2,h2,hb]
  refine .inr ⟨?_,h.2 (by cases b<;>cases t<;>simp_all)⟩;simp[yielded,e2,h2,hb]
 ·rename_i e3;have hv:=hs.fr d;rw[e3] at hv;obtain⟨vs,h1,_,_⟩:=hv;refine .inr ⟨?_,h⟩;have h2:∀b,a.tmps[d]? ≠some (.bool b):=fun b hb=>by
   rw[LG,hb] at h1;cases h1
  simp only[yielded,e2,NR];cases h3:a.tmps[d]? with
  |none=>rfl
  |some x=>
   cases x with |bool b=>exact absurd h3 (h2 b) |_=>rfl
 exact h.elim
theorem WF (c:Cf):Am g c (.tu []) undef:=⟨#[],rfl,rfl,fun j x h=>by simp at h⟩
theorem Yr (ht:AU P tab){ops:Array Oper}{nx0:Nat}{K:St->Prop}{Q:Exit->Act->World->Prop}(hd:∀(i:Nat) (o:Oper) (d:Nat),ops[i]? =some o->o.dst=some d->d<N):
  ∀(l:List Nat) (s:St) (c:Cf) (a:Act),l.Nodup->(∀i∈l,i<ops.size)->WL P tab ops nx0 K l s->Dx g s c a N->(∀j,c.kn j->∀i∈l,j≠nx0+i)->nx0+ops.size<=s.nx->
   (∀s' c' a',K s'->Dx g s' c' a' N->CF c c'->s.nx<=s'.nx->(∀i,c'.kn i->c.kn i\/nx0<=i)->a'.defers=a.defers->Q .normal a' c'.w)->wpOps P ops Q l a c.w
 |[],s,c,a,_,_,h,hs,_,_,hQ=>hQ s c a h hs (CF.refl c) (Lc _) (fun _ h=>.inl h) rfl
 |i::l,s,c,a,hn,hb,h,hs,hkn,hnx,hQ=>by
  obtain⟨hni,hnl⟩:=Ng.1 hn;unfold WL at h;unfold wpOps;cases ho:ops[i]? with
  |none=>
   rw[ho] at h;exact Yr ht hd l s c a hnl (fun i hi=>hb i (Lh _ hi)) h hs (fun j hj i hi=>hkn j hj i (Lh _ hi)) hnx hQ
  |some o=>
   rw[ho] at h;have hlt:i<ops.size:=(LN.1 ho).1;have hdst:∀t,o.dst=some t->t<a.tmps.size:=fun t e=>(by rw[hs.size];exact hd i o t ho e);have hid:¬c.kn (nx0+i):=fun hk=>hkn _ hk i (Lo ..) rfl;have next:∀(c':Cf) (v:AV) (u:Value) (hp':Hp) (nx':Nat),c'.hp=hp'->HR g c'->CF c c'->Am g c' v u->s.nx<=nx'->(∀j,c'.kn j->c.kn j\/j=nx0+i\/(s.nx<=j/\j<nx'))->WL P tab ops nx0 K l ⟨A7 o.dst v s.fr,hp',nx'⟩->wpOps P ops Q l (a.put o.dst u) c'.w:=by
    intro c' v u hp' nx' h1 h2 h3 h4 h5 h6 h7;refine Yr ht hd l _ c' _ hnl (fun i hi=>hb i (Lh _ hi)) h7 ⟨h1,h2,fun j hj=> ?_,fK hs.fr h3 hdst h4,by rw[fL];exact hs.size,by rw[Yo];exact hs.dfs.ext hs.hr h3⟩ (fun j hj i' hi'=> ?_) (Lp hnx h5) fun s' c'' a' k1 k2 k3 k4 k5 k6=>
     hQ s' c'' a' k1 k2 (h3.trans k3) (Lp h5 k4) (fun j hj=> ?_) (by rw[k6,Yo])
    ·have:=hs.kn j;rcases h6 j hj with h8 |h8 |h8
     ·exact Lz (hs.kn j h8) h5
     ·simp only;omega
     exact h8.2
    ·rcases h6 j hj with h8 |h8 |h8
     ·exact hkn j h8 i' (Lh _ hi')
     ·intro e
      have:i'=i:=(by omega);subst this;exact hni hi'
     intro e
     have:=hb i' (Lh _ hi');omega
    rcases k5 j hj with h8 |h8
    ·rcases h6 j h8 with h9 |h9 |h9
     ·exact .inl h9
     ·exact .inr (by omega)
     exact .inr (by omega)
    exact .inr h8
   rcases fN hs h with⟨hw,h⟩ |⟨hw,h⟩;rotate_left
   ·simp only[hw,Nl,if_false];refine next c (.tu []) undef s.hp s.nx hs.hp hs.hr (CF.refl c) (WF c) (Lc _) (fun j hj=>.inl hj) h
   simp only[hw,if_true];left;unfold HQ at h;split at h
   ·rename_i f args argTypes hop;have hop':o.op= .call { callee:=.value f,args:=args,argTypes:=argTypes }:=hop;unfold KN at h;split at h
    ·rename_i k caps hf;rcases h with⟨ds,b,is,d,fr,h1,h2,h3,h4⟩ |h
     ·obtain⟨vals,h5,h6⟩:=fM (K:=fun u w'=>wpOps P ops Q l (a.put o.dst u) w') hs hop' hf h1 h2 h3 fun u c' e1 e2 e3 e4 e5=>
       next c' _ u s.hp s.nx (e1.trans hs.hp) e4 e3 e5 (Lc _) (fun j hj=>.inl (by rw[e2] at hj;exact hj)) h4
      unfold Oper.wp;rw[h5,Oper.upon_enter];exact h6.mono fun e w' ⟨u,he,hk⟩=>by rw[he];exact hk
     obtain⟨hen,hin⟩:=h;have hfv:=KO hs.fr f;rw[hf] at hfv;generalize hF:a.eval f=fv at hfv;cases(show RA g c (.fn k caps) fv from hfv) with
     |fn _ _ us n hn' hus=>
      obtain⟨hsz,hall⟩:=Yq hs.fr args hn' hus;unfold Oper.wp;rw[Yp hop' hen hF c.w,Oper.upon_enter];refine(hin g c _ hs.hp hs.kn hs.hr hsz hall).mono fun e w' ⟨u,v,c',nx',he,hR,hw',h1,h2,h3,h4,h5⟩=> ?_;rw[he,<-hw'];exact next c' v u c'.hp nx' rfl h2 h1 h3 h4 (fun j hj=>(h5 j hj).imp_right .inr) hR
    exact h.elim
   split at h
   ·rename_i v δ hv;rw[<-hs.hp] at hv;obtain⟨φ',u,w',hrun,hext,hhr,hrv⟩:=fI (o:=o) (a:=a) hs.hr ht (fun x=>KO hs.fr x) hid hv;have hgo:=next ⟨Av δ c.hp,φ',w',fun k=>c.kn k\/k=nx0+i⟩ v u (Av δ s.hp) s.nx (by rw[hs.hp]) hhr hext hrv (Lc _) (fun j hj=>hj.imp_right .inl) h;unfold Oper.wp;rcases hrun with hrun |⟨hrun,hu⟩
    ·rw[hrun];exact hgo
    rw[hrun,Oper.upon_skip,<-hu];exact hgo
   exact h.elim
theorem om (md:Region.Mode)(ops:Array Oper):∀(fuel t:Nat) (listed:Array Bool),listed.size=ops.size->
  (Region.linearise.go md ops fuel t listed []).Nodup/\∀i∈Region.linearise.go md ops fuel t listed [],i<ops.size/\listed[i]? =some false:=by
 intro fuel;induction fuel with
 |zero=>intro t listed _;simp[Region.linearise.go]
 |succ fuel ih=>
  intro t listed hs;simp only[Region.linearise.go];split
  ·rename_i i hi;rw[linearise_go_acc,OH,OM];have hmem:=Lt hi;simp only[Nh,NY,Li,NJ] at hmem;obtain⟨h1,h2,_⟩:=hmem;have h3:listed[i]? =some false:=by
    rw[LG] at h2;rw[LA (by omega)] at h2⊢;simpa using h2
   obtain⟨n1,n2⟩:=ih (t / _) (listed.setIfInBounds i true) (by simpa using hs);refine⟨Ng.2 ⟨fun hm=> ?_,n1⟩,fun j hj=> ?_⟩
   ·obtain⟨_,h4⟩:=n2 i hm;rw[BS (by omega)] at h4;cases h4
   rcases Lm.1 hj with rfl |hj
   ·exact⟨h1,h3⟩
   obtain⟨h4,h5⟩:=n2 j hj;refine⟨h4,?_⟩;by_cases e:i=j
   ·subst e;exact h3
   rwa [By e] at h5
  simp
theorem Pp (ops:Array Oper)(t:Nat):(Region.linearise .any ops t).Nodup/\∀i∈Region.linearise .any ops t,i<ops.size:=by
 obtain⟨h1,h2⟩:=om .any ops ops.size t (Array.replicate ops.size false) (by simp);exact⟨h1,fun i hi=>(h2 i hi).1⟩
theorem CF.world {c:Cf}(hr:HR g c){w':World}(hh:w'.heap=c.w.heap)(hos:w'.os=c.w.os)(ht:w'.tape=c.w.tape)(hou:w'.output=c.w.output)(hdr:c.w.drawn<=w'.drawn:=by first |exact Lc _ |exact Bj _):CF c ⟨c.hp,c.φ,w',c.kn⟩/\HR g ⟨c.hp,c.φ,w',c.kn⟩:=by
 have he:CF c ⟨c.hp,c.φ,w',c.kn⟩:=⟨hos,ht,hou,by simp only[hh];exact Lc _,fun _ h=>h,fun k _ _=>by simp only[hh],fun id o ho hf=>.inr ⟨o,ho,hf,rfl⟩,fun _ _ h=>⟨rfl,h⟩,
  fun id es _ v br fz _ h=>⟨es,v,br,fz,h,Lc _,fun _=>⟨rfl,rfl,fun cur _ e=>⟨cur,by simp only[hh];exact e,rfl⟩⟩⟩,hdr⟩
 exact⟨he,⟨by simp only[hh];exact hr.le,fun k hk=>by simp only[hh];exact hr.m0 k hk,fun id o ho=>⟨(hr.dom id o ho).1,(hr.dom id o ho).2.1,by simp only[hh];exact(hr.dom id o ho).2.2⟩,hr.inj,fun id o ho=>(hr.obj id o ho).ext he rfl (by simp only[hh])⟩⟩
theorem CF.less {c:Cf}(hr:HR g c){hp':Hp}(hh:∀i,hp' i=none\/hp' i=c.hp i):CF c ⟨hp',c.φ,c.w,c.kn⟩/\HR g ⟨hp',c.φ,c.w,c.kn⟩:=by
 have hsub:∀i o,hp' i=some o->c.hp i=some o:=fun i o h=>by
  rcases hh i with h1 |h1
  ·rw[h1] at h;cases h
  rw[<-h1];exact h
 have he:CF c ⟨hp',c.φ,c.w,c.kn⟩:=⟨rfl,rfl,rfl,Lc _,fun _ h=>h,fun _ _ _=>rfl,fun id o ho hf=>.inr ⟨o,hsub id o ho,hf,rfl⟩,fun id _ h=>⟨rfl,fun o ho=>h o (hsub id o ho)⟩,
  fun id es _ v br fz _ h=>⟨es,v,br,fz,hsub id _ h,Lc _,fun _=>⟨rfl,rfl,fun cur _ e=>⟨cur,e,rfl⟩⟩⟩,Lc _⟩
 exact⟨he,⟨hr.le,hr.m0,fun id o ho=>hr.dom id o (hsub id o ho),fun i j o p hi hj=>hr.inj i j o p (hsub i o hi) (hsub j p hj),fun id o ho=>(hr.obj id o (hsub id o ho)).ext he rfl rfl⟩⟩
theorem Dx.weak {s s':St}{c:Cf}{a:Act}(hs:Dx g s c a N)(hw:ID s' s):∃c',Dx g s' c' a N/\c'.w=c.w/\CF c c'/\c'.kn=c.kn:=by
 obtain⟨he,hr⟩:=CF.less hs.hr (hp':=s'.hp) fun i=>by rw[hs.hp];exact hw.hp i
 refine⟨_,⟨rfl,hr,fun i hi=>Lz (hs.kn i hi) hw.nx,fun t=> ?_,hs.size,hs.dfs⟩,rfl,he,rfl⟩;rcases hw.fr t with h |h
 ·rw[h];trivial
 rw[h];exact(hs.fr t).ext he
def DT (g:Gh)(N:Nat)(Q:Ex->St->Prop)(nx:Nat)(c:Cf)(e:Exit)(a':Act)(w':World):Prop:=∃ex s' c',e=ex.up/\Q ex s'/\Dx g s' c' a' N/\c'.w=w'/\CF c c'/\nx<=s'.nx/\∀i,c'.kn i->c.kn i\/nx<=i
theorem DT.mono {Q Q':Ex->St->Prop}{nx:Nat}{c:Cf}{e:Exit}{a':Act}{w':World}(h:DT g N Q nx c e a' w')(hq:∀ex s,Q ex s->Q' ex s):DT g N Q' nx c e a' w':=by
 obtain⟨ex,s',c',h1,h2,h3⟩:=h;exact⟨ex,s',c',h1,hq ex s' h2,h3⟩
theorem DT.after {Q:Ex->St->Prop}{nx nx':Nat}{c c':Cf}{e:Exit}{a':Act}{w':World}(h:DT g N Q nx' c' e a' w')(he:CF c c')(hn:nx<=nx')(hk:∀i,c'.kn i->c.kn i\/nx<=i):DT g N Q nx c e a' w':=by
 obtain⟨ex,s',c'',h1,h2,h3,h4,h5,h6,h7⟩:=h;refine⟨ex,s',c'',h1,h2,h3,h4,he.trans h5,Lp hn h6,fun i hi=> ?_⟩;rcases h7 i hi with h8 |h8
 ·exact hk i h8
 exact .inr (Lp hn h8)
structure FK (n:Nat) (c c':Cf):Prop where
 os:c'.w.os=c.w.os
 tape:c'.w.tape=c.w.tape
 output:c'.w.output=c.w.output
 size:c.w.heap.size<=c'.w.heap.size
 kn:∀id,id<n->c.kn id->c'.kn id
 block:∀k,k<c.w.heap.size->(∀id o,c.hp id=some o->o.fz=false->c.φ id≠k)->c'.w.heap[k]? =c.w.heap[k]?
 muts:∀id o',c'.hp id=some o'->o'.fz=false->c.w.heap.size<=c'.φ id\/∃id0 o,(id0=id\/(n<=id0/\n<=id))/\c.hp id0=some o/\o.fz=false/\c'.φ id=c.φ id0
 keep:∀id,id<n->c.kn id->(∀o,c.hp id=some o->o.isRw=false)->c'.φ id=c.φ id/\∀o',c'.hp id=some o'->o'.isRw=false
 rows:∀id es' sz v' br' fz',id<n->c.kn id->c'.hp id=some (.rw es' sz v' br' fz')->∃es v br fz,c.hp id=some (.rw es sz v br fz)/\v<=v'/\
  (v=v'->c'.φ id=c.φ id/\es.length=es'.length/\∀cur T,c.w.heap[c.φ id]? =some (.cells cur T (0,0))->∃cur',c'.w.heap[c.φ id]? =some (.cells cur' T (0,0))/\cur'.size=cur.size)
 drawn:c.w.drawn<=c'.w.drawn
theorem CF.toR {n:Nat}{c c':Cf}(h:CF c c'):FK n c c':=
 ⟨h.os,h.tape,h.output,h.size,fun i _ hi=>h.kn i hi,h.block,fun id o' h1 h2=>(h.muts id o' h1 h2).imp_right fun⟨o,e⟩=>⟨id,o,.inl rfl,e⟩,fun i _=>h.keep i,fun i es sz v br fz _=>h.rows i es sz v br fz,h.drawn⟩
theorem FK.toE {n:Nat}{c c':Cf}(h:FK n c c')(hr:HR g c)(hk:∀i,c.kn i->i<n):CF c c':=by
 refine⟨h.os,h.tape,h.output,h.size,fun i hi=>h.kn i (hk i hi) hi,h.block,fun id o' h1 h2=>(h.muts id o' h1 h2).imp_right ?_,fun i hi=>h.keep i (hk i hi) hi,fun i es sz v br fz hi=>h.rows i es sz v br fz (hk i hi) hi,h.drawn⟩;rintro⟨id0,o,e |⟨e,_⟩,h3,h4⟩
 ·subst e;exact⟨o,h3,h4⟩
 have:=hk id0 (hr.dom id0 o h3).1;omega
theorem FK.trans {n:Nat}{a b c:Cf}(h:FK n a b)(k:FK n b c):FK n a c:=by
 refine⟨k.os.trans h.os,k.tape.trans h.tape,k.output.trans h.output,Lp h.size k.size,fun i hl hi=>k.kn i hl (h.kn i hl hi),?_,?_,?_,?_,Lp h.drawn k.drawn⟩
 ·intro x hx hm;refine(k.block x (Lz hx h.size) fun id o ho hf=> ?_).trans (h.block x hx hm);rcases h.muts id o ho hf with h1 |⟨id1,o1,_,h1,h2,h3⟩
  ·omega
  rw[h3];exact hm id1 o1 h1 h2
 ·intro id o' ho hf;rcases k.muts id o' ho hf with h1 |⟨id1,o1,e1,h1,h2,h3⟩
  ·exact .inl (Lp h.size h1)
  rcases h.muts id1 o1 h1 h2 with h4 |⟨id2,o2,e2,h4,h5,h6⟩
  ·exact .inl (by rw[h3];exact h4)
  refine .inr ⟨id2,o2,?_,h4,h5,h3.trans h6⟩;rcases e1 with e1 |e1<;>rcases e2 with e2 |e2
  ·exact .inl (e2.trans e1)
  ·exact .inr ⟨e2.1,e1▸e2.2⟩
  ·exact .inr ⟨e2▸e1.1,e1.2⟩
  exact .inr ⟨e2.1,e1.2⟩
 ·intro id hl hn ho;obtain⟨h1,h2⟩:=h.keep id hl hn ho;obtain⟨h3,h4⟩:=k.keep id hl (h.kn _ hl hn) h2;exact⟨h3.trans h1,h4⟩
 intro id es' sz v' br' fz' hl hn hr;obtain⟨es1,v1,br1,fz1,h1,h2,h3⟩:=k.rows id es' sz v' br' fz' hl (h.kn _ hl hn) hr;obtain⟨es0,v0,br0,fz0,h4,h5,h6⟩:=h.rows id es1 sz v1 br1 fz1 hl hn h1;refine⟨es0,v0,br0,fz0,h4,Lp h5 h2,fun e=> ?_⟩;obtain⟨g1,g2,g3⟩:=h3 (by omega);obtain⟨g4,g5,g6⟩:=h6 (by omega);refine⟨g1.trans g4,g5.trans g2,fun cur T hc=> ?_⟩;obtain⟨cur1,e1,e2⟩:=g6 cur T hc;rw[<-g4] at e1;obtain⟨cur2,e3,e4⟩:=g3 cur1 T e1;rw[g4] at e3;exact⟨cur2,e3,e4.trans e2⟩
theorem WG {ρ:Nat->Option Nat}{o o':AO}(h:CP ρ o=some o'):o'.fz=o.fz/\o'.isRw=o.isRw:=by
 cases o with
 |bx cs=>simp only[CP,La] at h;obtain⟨_,_,rfl⟩:=h;exact⟨rfl,rfl⟩
 |rw es sz v br fz=>simp only[CP,Le] at h;subst h;exact⟨rfl,rfl⟩
 |mo es dl=>simp only[CP,La] at h;obtain⟨_,_,rfl⟩:=h;exact⟨rfl,rfl⟩
theorem TV {ρ:Nat->Option Nat}:∀ {cs ds:List AV},Dv ρ cs=some ds->cs.length=ds.length/\∀(j:Nat) (x:AV),cs[j]? =some x->∃y,ds[j]? =some y/\CK ρ x=some y
 |[],ds,h=>by simp only[Dv,Le] at h;subst h;exact⟨rfl,fun j x h=>by simp at h⟩
 |c::r,ds,h=>by
  simp only[Dv] at h;split at h
  ·rename_i d ds' h1 h2;simp only[Le] at h;subst h;obtain⟨g1,g2⟩:=TV h2;refine⟨by simp[g1],fun j x hj=> ?_⟩;cases j with |zero=>simp only[LV,Le] at hj;subst hj;exact⟨d,rfl,h1⟩ |succ j=>exact g2 j x (by simpa using hj)
  cases h
theorem fO {ρ:Nat->Option Nat}:∀ {cs ds:List (Value × AV)},ER ρ cs=some ds->cs.length=ds.length/\∀(j:Nat) (k:Value) (x:AV),cs[j]? =some (k,x)->∃y,ds[j]? =some (k,y)/\CK ρ x=some y
 |[],ds,h=>by simp only[ER,Le] at h;subst h;exact⟨rfl,fun j k x h=>by simp at h⟩
 |(k0,c)::r,ds,h=>by
  simp only[ER] at h;split at h
  ·rename_i d ds' h1 h2;simp only[Le] at h;subst h;obtain⟨g1,g2⟩:=fO h2;refine⟨by simp[g1],fun j k x hj=> ?_⟩;cases j with
   |zero=>simp only[LV,Le,Lu] at hj;obtain⟨rfl,rfl⟩:=hj;exact⟨d,rfl,h1⟩
   |succ j=>exact g2 j k x (by simpa using hj)
  cases h
section
variable {n:Nat}{ρ:Nat->Option Nat}{c c':Cf}{s s':St}
structure Pq (ρ:Nat->Option Nat) (c c':Cf):Prop where
 w:c'.w=c.w
 kn:∀i j,ρ i=some j->c.kn j->c'.kn i
 φ:∀i j,ρ i=some j->c'.φ i=c.φ j
 hp:∀i o,c'.hp i=some o->∃j o',ρ i=some j/\CP ρ o=some o'/\c.hp j=some o'
theorem Im.ren (h:Pq ρ c c'){b:Bool}{k:Nat}(hk:Im g c b k):Im g c' b k:=by
 obtain⟨h1,h2,h3,h4⟩:=hk;refine⟨by rw[h.w];exact h1,h2,fun id o ho hf=> ?_,h4⟩;obtain⟨j,o',e1,e2,e3⟩:=h.hp id o ho;rw[h.φ id j e1];exact h3 j o' e3 (by rw[(WG e2).1];exact hf)
theorem RC.ren (h:Pq ρ c c'){b:Bool}{d:D}{u:Value}(hr:RC c.w (Im g c b) d u):RC c'.w (Im g c' b) d u:=hr.mono (fun _ _=>by rw[h.w]) fun _ hk=>hk.ren h
theorem RA.ren (h:Pq ρ c c'){y:AV}{u:Value}(hr:RA g c y u):∀ {x:AV},CK ρ x=some y->RA g c' x u:=by
 have hrw:∀i j,ρ i=some j->(∀o,c.hp j=some o->o.isRw=false)->∀o,c'.hp i=some o->o.isRw=false:=fun i j e ho o h1=>by
  obtain⟨j',o',e1,e2,e3⟩:=h.hp i o h1;rw[e] at e1;cases e1;rw[<-(WG e2).2];exact ho o' e3
 have hrow:∀i j,ρ i=some j->∀es sz v br fz,c'.hp i=some (.rw es sz v br fz)->c.hp j=some (.rw es sz v br fz):=fun i j e es sz v br fz h1=>by
  obtain⟨j',o',e1,e2,e3⟩:=h.hp i _ h1;rw[e] at e1;cases e1;simp only[CP,Le] at e2;subst e2;exact e3
 induction hr with
 |v x hx=>
  intro y e;cases y<;>simp[CK,La] at e;subst e;exact .v _ hx
 |d x b u h1=>
  intro y e;cases y<;>simp[CK,La] at e;obtain⟨rfl,rfl⟩:=e;exact .d _ _ u (h1.ren h)
 |pt id off hn ho=>
  intro y e;cases y<;>simp[CK,La] at e;rename_i i o;obtain⟨_,e1,rfl,rfl⟩:=e;rw[<-h.φ i _ e1];exact .pt i _ (h.kn i _ e1 hn) (hrw i _ e1 ho)
 |mo id hn ho=>
  intro y e;cases y<;>simp[CK,La] at e;rename_i i;rw[<-h.φ i id e];exact .mo i (h.kn i id e hn) (hrw i id e ho)
 |pr id ver i off u hn hp h1=>
  intro y e;cases y<;>simp[CK,La] at e;rename_i i' _ _ _;obtain⟨_,e1,rfl,rfl,rfl,rfl⟩:=e;refine .pr i' _ _ _ u (h.kn i' _ e1 hn) hp fun es sz v br fz hr=> ?_;rw[h.φ i' _ e1];exact h1 es sz v br fz (hrow i' _ e1 es sz v br fz hr)
 |so id ver off len u hn hp h1=>
  intro y e;cases y<;>simp[CK,La] at e;rename_i i' _ _ _;obtain⟨_,e1,rfl,rfl,rfl,rfl⟩:=e;refine .so i' _ _ _ u (h.kn i' _ e1 hn) hp fun es sz v br fz hr=> ?_;rw[h.φ i' _ e1,h.w];exact h1 es sz v br fz (hrow i' _ e1 es sz v br fz hr)
 |fn f caps us n hn h1 ih=>
  intro y e;cases y<;>simp[CK,La] at e;obtain⟨e1,rfl⟩:=e;obtain⟨g1,g2⟩:=TV e1;refine .fn _ _ us n (by omega) fun j x hj=> ?_;obtain⟨y,k1,k2⟩:=g2 j x hj;exact ih j y k1 k2
theorem DQ.ren (h:Pq ρ c c'){x y:AV}{u:Value}(e:CK ρ x=some y)(hr:DQ g c y u):DQ g c' x u:=by
 unfold DQ;split
 ·trivial
 ·rename_i cs;simp only[CK,La] at e;obtain⟨ds,e1,rfl⟩:=e;obtain⟨vs,h1,h2,h3⟩:=hr;obtain⟨g1,g2⟩:=TV e1;refine⟨vs,h1,by omega,fun j x hj=> ?_⟩;obtain⟨y,k1,k2⟩:=g2 j x hj;obtain⟨z,k3,k4⟩:=h3 j y k1;exact⟨z,k3,k4.ren h k2⟩
 ·rename_i cs b;simp only[CK,Le] at e;subst e;exact DJ.mono (fun _ _=>by rw[h.w]) (fun _ hk=>hk.ren h) hr
 rename_i h1 h2 h3;unfold DQ at hr;split at hr
 ·cases x<;>simp[CK,La] at e;exact absurd rfl h1
 ·cases x<;>simp[CK,La] at e;exact absurd rfl (h2 _)
 ·cases x<;>simp[CK,La] at e;obtain⟨rfl,rfl⟩:=e;exact absurd rfl (h3 _ _)
 exact hr.ren h e
theorem Am.ren (h:Pq ρ c c'){x y:AV}{u:Value}(e:CK ρ x=some y)(hr:Am g c y u):Am g c' x u:=by
 unfold Am;split
 ·rename_i cs;simp only[CK,La] at e;obtain⟨ds,e1,rfl⟩:=e;obtain⟨vs,h1,h2,h3⟩:=hr;obtain⟨g1,g2⟩:=TV e1;refine⟨vs,h1,by omega,fun j x hj=> ?_⟩;obtain⟨y,k1,k2⟩:=g2 j x hj;obtain⟨z,k3,k4⟩:=h3 j y k1;exact⟨z,k3,k4.ren h k2⟩
 ·rename_i cs b;simp only[CK,Le] at e;subst e;exact RV.mono (fun _ _=>by rw[h.w]) (fun _ hk=>hk.ren h) hr
 rename_i h1 h2;unfold Am at hr;split at hr
 ·cases x<;>simp[CK,La] at e;exact absurd rfl (h1 _)
 ·cases x<;>simp[CK,La] at e;obtain⟨rfl,rfl⟩:=e;exact absurd rfl (h2 _ _)
 exact DQ.ren h e hr
theorem OK.ren (h:Pq ρ c c'){i j:Nat}(hij:ρ i=some j){o o':AO}(e:CP ρ o=some o')(hr:OK g c j o'):OK g c' i o:=by
 cases o with
 |bx cs=>
  simp only[CP,La] at e;obtain⟨ds,e1,rfl⟩:=e;obtain⟨g1,g2⟩:=TV e1;obtain⟨T,vs,h1,h2,h3⟩:=hr;refine⟨T,vs,by rw[h.w,h.φ i j hij];exact h1,by omega,fun k x hk=> ?_⟩;obtain⟨y,k1,k2⟩:=g2 k x hk;obtain⟨z,k3,k4⟩:=h3 k y k1;exact⟨z,k3,k4.ren h k2⟩
 |rw es sz v br fz=>
  simp only[CP,Le] at e;subst e;obtain⟨h1,h2,T,vs,C,h3,h4,h5,h6,h7⟩:=hr;refine⟨h1,h2,T,vs,C,by rw[h.w,h.φ i j hij];exact h3,h4,h5,h6,fun a b cs d e1 e2=> ?_⟩;obtain⟨u,k1,k2⟩:=h7 a b cs d e1 e2;exact⟨u,k1,k2.ren h⟩
 |mo es dl=>
  simp only[CP,La] at e;obtain⟨ds,e1,rfl⟩:=e;obtain⟨g1,g2⟩:=fO e1;obtain⟨en,k,h1,h2,h3,h4⟩:=hr;refine⟨en,k,by rw[h.w,h.φ i j hij];exact h1,by omega,h3,fun a x y hk=> ?_⟩;obtain⟨z,k1,k2⟩:=g2 a x y hk;obtain⟨e,k3,k4,k5⟩:=h4 a x z k1;exact⟨e,k3,k4,DQ.ren h k2 k5⟩
theorem Dx.ren {n:Nat}{s s':St}{c:Cf}{a:Act}{ρ:Nat->Option Nat}(hs:Dx g s c a N)(hw:Ren n ρ s' s):∃c',Dx g s' c' a N/\c'.w=c.w/\FK n c c'/\∀i,c'.kn i->c.kn i\/n<=i:=by
 have hc:Pq ρ c ⟨s'.hp,fun i=>c.φ ((ρ i).getD 0),c.w,fun i=>∃j,ρ i=some j/\c.kn j⟩:=⟨rfl,fun i j h1 h2=>⟨j,h1,h2⟩,fun i j h=>by simp[h],fun i o h=>by rw[hs.hp];exact hw.hp i o h⟩;have hlow:∀i,i<n->∀o,s'.hp i=some o->∃o',CP ρ o=some o'/\c.hp i=some o':=fun i hi o h=>by
  obtain⟨j,o',e1,e2,e3⟩:=hc.hp i o h;rw[hw.old i hi] at e1;cases e1;exact⟨o',e2,e3⟩
 refine⟨⟨s'.hp,fun i=>c.φ ((ρ i).getD 0),c.w,fun i=>∃j,ρ i=some j/\c.kn j⟩,⟨rfl,⟨hs.hr.le,hs.hr.m0,?_,?_,?_⟩,?_,?_,hs.size,hs.dfs⟩,rfl,⟨rfl,rfl,rfl,Lc _,?_,fun _ _ _=>rfl,?_,?_,?_,Lc _⟩,?_⟩
 ·intro id o ho;obtain⟨j,o',e1,e2,e3⟩:=hc.hp id o ho;obtain⟨h1,h2,h3⟩:=hs.hr.dom j o' e3;rw[hc.φ id j e1];exact⟨⟨j,e1,h1⟩,h2,h3⟩
 ·intro i k o p hi hk hne;obtain⟨j,o',e1,e2,e3⟩:=hc.hp i o hi;obtain⟨j',p',f1,f2,f3⟩:=hc.hp k p hk;rw[hc.φ i j e1,hc.φ k j' f1];exact hs.hr.inj j j' o' p' e3 f3 fun e=>hne (hw.inj i k j e1 (e▸f1))
 ·intro id o ho;obtain⟨j,o',e1,e2,e3⟩:=hc.hp id o ho;exact OK.ren hc e1 e2 (hs.hr.obj j o' e3)
 ·rintro i ⟨j,e1,e2⟩;by_cases hi:i<n
  ·exact Lz hi hw.nx
  exact(hw.new i j (by omega) e1).2
 ·intro t;rcases hw.fr t with h |h
  ·rw[h];trivial
  exact Am.ren hc h (hs.fr t)
 ·intro id hi hk;exact⟨id,hw.old id hi,hk⟩
 ·intro id o ho hf;obtain⟨j,o',e1,e2,e3⟩:=hc.hp id o ho;refine .inr ⟨j,o',?_,e3,by rw[(WG e2).1];exact hf,hc.φ id j e1⟩;by_cases hi:id<n
  ·rw[hw.old id hi] at e1;cases e1;exact .inl rfl
  exact .inr ⟨(hw.new id j (by omega) e1).1,by omega⟩
 ·intro id hi hk ho;refine⟨hc.φ id id (hw.old id hi),fun o' h1=> ?_⟩;obtain⟨o2,e2,e3⟩:=hlow id hi o' h1;rw[<-(WG e2).2];exact ho o2 e3
 ·intro id es sz v br fz hi hk h1;obtain⟨o2,e2,e3⟩:=hlow id hi _ h1;simp only[CP,Le] at e2;subst e2;rw[hc.φ id id (hw.old id hi)];exact⟨es,v,br,fz,e3,Lc _,fun _=>⟨rfl,rfl,fun cur _ e=>⟨cur,e,rfl⟩⟩⟩
 rintro i ⟨j,e1,e2⟩;by_cases hi:i<n
 ·rw[hw.old i hi] at e1;cases e1;exact .inl e2
 exact .inr (by omega)
theorem Dx.dat {s s':St}{c:Cf}{a:Act}(hs:Dx g s c a N)(hw:fJ s' s):∃c',Dx g s' c' a N/\c'.w=c.w/\CF c c'/\c'.kn=c.kn:=by
 have hold:∀i o',s'.hp i=some o'->∃o,c.hp i=some o/\JV c.hp s'.hp o o':=fun i o' h=>by
  rw[hs.hp];exact hw.hp i o' h
 have he:CF c ⟨s'.hp,c.φ,c.w,c.kn⟩:=by
  refine⟨rfl,rfl,rfl,Lc _,fun _ h=>h,fun _ _ _=>rfl,?_,?_,?_,Lc _⟩
  ·intro id o' ho hf;obtain⟨o,h1,h2⟩:=hold id o' ho;refine .inr ⟨o,h1,?_,rfl⟩;cases h2 with |same=>exact hf |fz=>cases hf |bx _=>rfl
  ·intro id _ hk;refine⟨rfl,fun o' ho=> ?_⟩;obtain⟨o,h1,h2⟩:=hold id o' ho
   have:=hk o h1;cases h2 with |same=>exact this |fz=>exact this |bx _=>rfl
  intro id es' sz v' br' fz' _ hr;obtain⟨o,h1,h2⟩:=hold id _ hr;cases h2 with
  |same=>exact⟨es',v',br',fz',h1,Lc _,fun _=>⟨rfl,rfl,fun cur _ e=>⟨cur,e,rfl⟩⟩⟩
  |fz _ _ _ _ fz0=>exact⟨es',v',br',fz0,h1,Lc _,fun _=>⟨rfl,rfl,fun cur _ e=>⟨cur,e,rfl⟩⟩⟩
 have himm:∀ {i:Nat} {o:AO} (b:Bool),c.hp i=some o->(∀o',s'.hp i=some o'->o'.fz=true)->Im g ⟨s'.hp,c.φ,c.w,c.kn⟩ b (c.φ i):=by
  intro i o b hi hf;obtain⟨_,h2,h3⟩:=hs.hr.dom i o hi;refine⟨h3,fun hm=> ?_,fun j p hj hp e=> ?_,fun _=>h2.1⟩
  ·exact h2.2 hm
  by_cases e2:j=i
  ·subst e2;rw[hf p hj] at hp;cases hp
  obtain⟨q,h4,_⟩:=hold j p hj;exact hs.hr.inj j i q o h4 hi e2 e
 have hflag:∀ {b b':Bool} {k:Nat},(b=true->b'=true)->Im g c b k->Im g ⟨s'.hp,c.φ,c.w,c.kn⟩ b' k:=by
  intro b b' k hb hk
  have:=hk.ext he;cases b' with
  |true=>exact this.weak
  |false=>cases b with |true=>exact absurd (hb rfl) (by decide) |false=>exact this
 have hcell:∀ {x y:AV} {u:Value},JT c.hp s'.hp x y->RA g c x u->RA g ⟨s'.hp,c.φ,c.w,c.kn⟩ y u:=by
  intro x y u h hx;cases h with
  |same=>exact hx.ext he
  |dat d b b' is h hb hi=>
   exact .d _ _ _ (TF hs.hr rfl hx h (Im g ⟨s'.hp,c.φ,c.w,c.kn⟩ b') (fun k hk=>hflag hb hk) fun i hm=>by
    obtain⟨es,sz,v,fz,h3⟩:=TH h i hm;exact himm b' h3 (hi i hm))
 have hcells:∀ {xs ys:List AV},IE c.hp s'.hp xs ys->xs.length=ys.length/\∀(j:Nat) (y:AV),ys[j]? =some y->∃x,xs[j]? =some x/\JT c.hp s'.hp x y:=by
  intro xs ys h;induction h with
  |nil=>exact⟨rfl,fun j y h=>by simp at h⟩
  |cons h _ ih=>
   refine⟨by simp[ih.1],fun j y hj=> ?_⟩;cases j with |zero=>simp at hj;subst hj;exact⟨_,rfl,h⟩ |succ j=>exact ih.2 j y (by simpa using hj)
 refine⟨⟨s'.hp,c.φ,c.w,c.kn⟩,⟨rfl,⟨hs.hr.le,hs.hr.m0,?_,?_,?_⟩,fun i hi=>Lz (hs.kn i hi) hw.nx,?_,hs.size,hs.dfs⟩,rfl,he,rfl⟩
 ·intro id o' ho;obtain⟨o,h1,_⟩:=hold id o' ho;exact hs.hr.dom id o h1
 ·intro i j o' p' hi hj hne;obtain⟨o,h1,_⟩:=hold i o' hi;obtain⟨p,h2,_⟩:=hold j p' hj;exact hs.hr.inj i j o p h1 h2 hne
 ·intro id o' ho;obtain⟨o,h1,h2⟩:=hold id o' ho;have hok:=hs.hr.obj id o h1;cases h2 with
  |same=>exact hok.ext he rfl rfl
  |fz es sz v br fz=>exact OK.ext (o:=.rw es sz v br fz) he hok rfl rfl
  |bx h=>
   obtain⟨h3,h4⟩:=hcells h;obtain⟨T,vs,k1,k2,k3⟩:=hok;refine⟨T,vs,k1,by omega,fun j y hj=> ?_⟩;obtain⟨x,h5,h6⟩:=h4 j y hj;obtain⟨u,h7,h8⟩:=k3 j x h5;exact⟨u,h7,hcell h6 h8⟩
 intro t;have hx:=hs.fr t;have hv:=hw.fr t;rw[<-hs.hp] at hv;generalize s.fr t=x at hx hv;generalize s'.fr t=y at hv;cases hv with
 |same=>exact hx.ext he
 |un=>trivial
 |ag h=>
  obtain⟨h3,h4⟩:=hcells h;obtain⟨vs,k1,k2,k3⟩:=hx;refine⟨vs,k1,by omega,fun j y hj=> ?_⟩;obtain⟨x,h5,h6⟩:=h4 j y hj;obtain⟨u,h7,h8⟩:=k3 j x h5;exact⟨u,h7,hcell h6 h8⟩
 |dat _ d b b' is h hb hi=>
  have hd:=TL hs.hr rfl (Im g ⟨s'.hp,c.φ,c.w,c.kn⟩ b') h hx (fun k hk=>hflag hb hk) fun i hm=>by
   obtain⟨es,sz,v,br,fz,h3⟩:=TM h i hm;exact himm b' h3 (hi i hm)
  cases d with |v x=>exact RA.d _ _ _ hd.1 |sl es=>exact RA.d _ _ _ hd.1 |pt cs off=>exact RA.d _ _ _ hd.1 |mp es=>exact RA.d _ _ _ hd.1 |ag cs=>exact hd.1 |tu cs=>exact absurd rfl (hd.2.1 cs)
theorem Dx.weakR {n:Nat}{s s':St}{c:Cf}{a:Act}(hs:Dx g s c a N)(hn:n<=s.nx)(hw:A6 n s' s):∃c',Dx g s' c' a N/\c'.w=c.w/\FK n c c'/\n<=s'.nx/\∀i,c'.kn i->c.kn i\/n<=i:=by
 induction hw generalizing c with
 |weak hw=>
  obtain⟨c',h1,h2,h3,h4⟩:=hs.weak hw;exact⟨c',h1,h2,h3.toR,Lp hn hw.nx,fun i hi=>.inl (h4▸hi)⟩
 |ren ρ hw=>
  obtain⟨c',h1,h2,h3,h4⟩:=hs.ren hw;exact⟨c',h1,h2,h3,hw.nx,h4⟩
 |dat hw=>
  obtain⟨c',h1,h2,h3,h4⟩:=hs.dat hw;exact⟨c',h1,h2,h3.toR,Lp hn hw.nx,fun i hi=>.inl (h4▸hi)⟩
 |trans _ _ ih1 ih2=>
  obtain⟨c1,h1,h2,h3,h4,h5⟩:=ih2 hs hn;obtain⟨c2,k1,k2,k3,k4,k5⟩:=ih1 h1 h4;exact⟨c2,k1,k2.trans h2,h3.trans k3,k4,fun i hi=>(k5 i hi).elim (fun h=>h5 i h) .inr⟩
end
def Cj (g:Gh)(N:Nat)(Q:Ex->St->Prop)(n:Nat)(c:Cf)(e:Exit)(a':Act)(w':World):Prop:=∃ex s' c',e=ex.up/\Q ex s'/\Dx g s' c' a' N/\c'.w=w'/\FK n c c'/\n<=s'.nx/\∀i,c'.kn i->c.kn i\/n<=i
theorem DT.toR {Q:Ex->St->Prop}{n nx:Nat}{c:Cf}{e:Exit}{a':Act}{w':World}(h:DT g N Q nx c e a' w')(hn:n<=nx):Cj g N Q n c e a' w':=by
 obtain⟨ex,s',c',h1,h2,h3,h4,h5,h6,h7⟩:=h;exact⟨ex,s',c',h1,h2,h3,h4,h5.toR,Lp hn h6,fun i hi=>(h7 i hi).imp_right (Lp hn)⟩
theorem Cj.after {Q:Ex->St->Prop}{n:Nat}{c c':Cf}{e:Exit}{a':Act}{w':World}(h:Cj g N Q n c' e a' w')(he:FK n c c')(hk:∀i,c'.kn i->c.kn i\/n<=i):Cj g N Q n c e a' w':=by
 obtain⟨ex,s',c'',h1,h2,h3,h4,h5,h6,h7⟩:=h;refine⟨ex,s',c'',h1,h2,h3,h4,he.trans h5,h6,fun i hi=> ?_⟩;rcases h7 i hi with h8 |h8
 ·exact hk i h8
 exact .inr h8
theorem Cj.toE {Q:Ex->St->Prop}{n:Nat}{c:Cf}{e:Exit}{a':Act}{w':World}(h:Cj g N Q n c e a' w')(hr:HR g c)(hk:∀i,c.kn i->i<n):DT g N Q n c e a' w':=by
 obtain⟨ex,s',c',h1,h2,h3,h4,h5,h6,h7⟩:=h;exact⟨ex,s',c',h1,h2,h3,h4,h5.toE hr hk,h6,h7⟩
theorem fP (ht:AU P tab){ops:Array Oper}{id:Nat}{Q:Ex->St->Prop}(hd:DY N (.region id ops false)=true){l:List Nat}(hl:l.Nodup/\∀i∈l,i<ops.size){s:St}{c c0:Cf}{a:Act}(hs:Dx g s c a N)(h0:CF c0 c)(hk0:∀i,c.kn i->c0.kn i)
  (h:WL P tab ops s.nx (Q .normal) l ⟨s.fr,s.hp,s.nx+ops.size⟩):wpOps P ops (fun e a' w'=>DT g N Q s.nx c0 e a' w'/\a'.defers=a.defers) l a c.w:=by
 refine Yr ht (fun i o d ho hd'=> ?_) l ⟨s.fr,s.hp,s.nx+ops.size⟩ c a hl.1 hl.2 h ⟨hs.hp,hs.hr,fun i hi=>Lz (hs.kn i hi) (NW _ _),hs.fr,hs.size,hs.dfs⟩ (fun j hj i _=> ?_) (Lc _) fun s' c' a' h1 h2 h3 h4 h5 h6=>
  ⟨⟨.normal,s',c',rfl,h1,h2,rfl,h0.trans h3,Lp (NW _ _) h4,fun i hi=>(h5 i hi).imp_left (hk0 i)⟩,h6⟩
 ·simp only[DY,O5] at hd
  have:=hd o (Oe ho);rw[hd'] at this;simpa using this
 have:=hs.kn j hj;omega
theorem Ys (ht:AU P tab)(hm:P.follows .mixedOrders=true):∀(code:Code) (Q:Ex->St->Prop) (s:St) (c:Cf) (a:Act),DY N code=true->W P tab code Q s->Dx g s c a N->code.wp P (DT g N Q s.nx c) a c.w:=by
 intro code;have here:∀ {Q:Ex->St->Prop} {s:St} {c:Cf} {a:Act} (ex:Ex),Q ex s->Dx g s c a N->DT g N Q s.nx c ex.up a c.w:=fun ex hq hs=>⟨ex,_,_,rfl,hq,hs,rfl,CF.refl _,Lc _,fun _ h=>.inl h⟩;induction code with
 |skip=>exact fun Q s c a _ h hs=>wp_skip (here .normal h hs)
 |label l=>exact fun Q s c a _ h hs=>wp_label (here .normal h hs)
 |ret=>exact fun Q s c a _ h hs=>wp_ret (here .ret h hs)
 |exit n=>exact fun Q s c a _ h hs=>wp_exit (here (.exit n) h hs)
 |region id ops draw=>
  intro Q s c a hd h hs;cases draw with
  |false=>exact Code.wp_mono (Q:=fun e a' w'=>DT g N Q s.nx c e a' w'/\a'.defers=a.defers) (fun _ _ _ h=>h.1) (wp_region (fP ht hd ⟨Il,fun i hi=>NY.1 hi⟩ hs (CF.refl c) (fun _ h=>h) h))
  |true=>
   refine Code.wp_mono (Q:=fun e a' w'=>DT g N Q s.nx c e a' w'/\a'.defers=a.defers) (fun _ _ _ h=>h.1) (wp_region_draw fun t=> ?_);simp only[Region.schedule,hm,Ox,if_true];obtain⟨he,hr⟩:=CF.world hs.hr (w':={ c.w with drawn:=c.w.drawn+1 }) rfl rfl rfl rfl;exact fP (id:=id) (c:=⟨c.hp,c.φ,{ c.w with drawn:=c.w.drawn+1 },c.kn⟩) ht hd (Pp ops t) ⟨hs.hp,hr,hs.kn,fun t=>(hs.fr t).ext he,hs.size,hs.dfs.ext hs.hr he⟩ he (fun _ h=>h) (h t)
 |seq x y ihx ihy=>
  intro Q s c a hd h hs;simp only[DY,Li] at hd;refine wp_seq (Code.wp_mono (fun e a' w' hp=> ?_) (ihx _ s c a hd.1 h hs));obtain⟨ex,s',c',h1,h2,h3,h4,h5,h6,h7⟩:=hp;subst h1;subst h4;cases ex with
  |normal=>exact Code.wp_mono (fun e a' w' hp=>DT.after hp h5 h6 h7) (ihy _ s' c' a' hd.2 h2 h3)
  |ret=>exact⟨.ret,s',c',rfl,h2,h3,rfl,h5,h6,h7⟩
  |exit n=>exact⟨.exit n,s',c',rfl,h2,h3,rfl,h5,h6,h7⟩
 |cond x y z ihy ihz=>
  intro Q s c a hd h hs;simp only[DY,Li] at hd;unfold W at h;split at h
  ·rename_i t e;have hv:=(show Am g c (.v (.bool t)) (a.eval x) by rw[<-e];exact KO hs.fr x).v.1;exact wp_cond_split hv (fun ht'=>ihy Q s c a hd.1 (h.1 ht') hs) fun ht'=>ihz Q s c a hd.2 (h.2 ht') hs
  ·exact h.elim
 |block n x ih=>
  intro Q s c a hd h hs;refine wp_block (Code.wp_mono (fun e a' w' hp=> ?_) (ih _ s c a hd h hs));obtain⟨ex,s',c',h1,h2,h3,h4,h5,h6,h7⟩:=hp;subst h1;cases ex with
  |normal=>exact⟨.normal,s',c',rfl,h2,h3,h4,h5,h6,h7⟩
  |ret=>exact⟨.ret,s',c',rfl,h2,h3,h4,h5,h6,h7⟩
  |exit m=>
   simp only[Ex.up,Exit.inBlock];by_cases e:m=n
   ·rw[if_pos e];simp only[if_pos e] at h2;exact⟨.normal,s',c',rfl,h2,h3,h4,h5,h6,h7⟩
   ·rw[if_neg e];simp only[if_neg e] at h2;exact⟨.exit m,s',c',rfl,h2,h3,h4,h5,h6,h7⟩
 |loop x ih=>
  intro Q s c a hd h hs;have key:=h (fun s0=>s.nx<=s0.nx->∀(c:Cf) (a:Act),Dx g s0 c a N->∀(b:Frame) (k:List Item) (cs:List Frame),∃e a' w',Cj g N Q s.nx c e a' w'/\Arrives P (lone (b.at a (.code x:: .inLoop x::k)) cs c.w) b k cs e a' w') ?_ ?_ (Lc _) c a hs
  ·intro b k cs;obtain⟨e,a',w',hq,harr⟩:=key b k cs;exact⟨e,a',w',hq.toE hs.hr hs.kn,.of_steps (.one step_loop) harr⟩
  ·intro s0 hW hn c a hs b k cs;obtain⟨e,a₁,w₁,hq,harr⟩:=ih _ s0 c a hd hW hs b (.inLoop x::k) cs;obtain⟨ex,s',c',h1,h2,h3,h4,h5,h6,h7⟩:=hq;subst h1;subst h4;cases ex with
   |normal=>
    obtain⟨e₂,a₂,w₂,hq₂,harr₂⟩:=h2 (Lp hn h6) c' a₁ h3 b k cs;exact⟨e₂,a₂,w₂,Cj.after hq₂ h5.toR fun i hi=>(h7 i hi).imp_right (Lp hn),.of_steps (Steps.trans harr (.one step_inLoop)) harr₂⟩
   |ret=>exact⟨_,a₁,_,DT.toR ⟨.ret,s',c',rfl,h2,h3,rfl,h5,h6,h7⟩ hn,.pass (x:=.inLoop x) rfl (fun _ _=>.inl (by simp[Ex.up])) harr⟩
   |exit n=>exact⟨_,a₁,_,DT.toR ⟨.exit n,s',c',rfl,h2,h3,rfl,h5,h6,h7⟩ hn,.pass (x:=.inLoop x) rfl (fun _ _=>.inl (by simp[Ex.up])) harr⟩
  ·intro s1 s2 hw hX hn c a hs b k cs;obtain⟨c',h1,h2,h3,h4,h5⟩:=hs.weakR hn hw;obtain⟨e,a',w',hq,harr⟩:=hX h4 c' a h1 b k cs;rw[h2] at harr;exact⟨e,a',w',Cj.after hq h3 h5,harr⟩
 |_=>exact fun Q s c a _ h hs=>h.elim
end
end
section
open Go.RowKit
def Mc:AV->Bool
 | .tu _ | .d (.tu _) _=>false
 |_=>true
def Md (tab:Nat->TI)(s:St):ResultVar->Option AV
 | .tmp t=>if Mc (s.fr t) then some (s.fr t) else none
 | .cell x T=>if (tab T).ok then match s.fr x with
  | .pt i off=>match s.hp i with
   |some (.bx cs)=>if (tab T).agg then(sub off (tab T).size cs).map AV.ag else match cs[off]? with
    |some v=>if Mc v then some v else none
    |none=>none
   |_=>none
  |_=>none else none
def Kt (tab:Nat->TI)(s:St):List ResultVar->Option (List AV)
 |[]=>some []
 |r::rs=>match Md tab s r,Kt tab s rs with
  |some v,some vs=>some (v::vs)
  |_,_=>none
def Dw (tab:Nat->TI)(rs:Array ResultVar)(s:St):Option AV:=
 match Kt tab s rs.toList with
 |some [v]=>some v
 |some vs=>some (.tu vs)
 |none=>none
def Df (vs:List AV):Fr:=fun t=>vs.getD t (.tu [])
structure Fj (hp' hp:Hp):Prop where
 h:∀i,hp' i=none\/hp' i=hp i
section
variable {P:Program}{tab:Nat->TI}{g:Gh}{N:Nat}
theorem fQ {c:Cf}{x:AV}{u:Value}(h:Mc x=true)(hx:Am g c x u):DQ g c x u:=by
 cases x with
 |tu cs=>cases h
 |d x b=>cases x with |tu cs=>cases h |_=>exact hx
 |_=>exact hx
theorem oo (ht:AU P tab){s:St}{c:Cf}{a:Act}(hs:Dx g s c a N){r:ResultVar}{v:AV}(h:Md tab s r=some v):
  ∃u,(match r with | .tmp t=>(pure (a.tmps.getD t undef):Sem Value) | .cell x T=>do loadVar T (<-asAddr (a.tmps.getD x undef))).run P c.w= .ok u c.w/\DQ g c v u:=by
 cases r with
 |tmp t=>
  simp only[Md] at h;split at h
  ·rename_i hv;cases h;exact⟨_,rfl,fQ hv (hs.fr t)⟩
  ·cases h
 |cell x T=>
  simp only[Md] at h;split at h;rotate_left
  ·cases h
  rename_i hok;split at h;rotate_left
  ·cases h
  rename_i i off e;have hx:=(show Am g c (.pt i off) (a.tmps.getD x undef) by rw[<-e];exact hs.fr x).pt.1;split at h;rotate_left
  ·cases h
  rename_i cs hi;rw[<-hs.hp] at hi;obtain⟨T',vs,h1,h2,h3⟩:=hs.hr.obj i _ hi;have hcell:∀k,c.w.cell? ⟨c.φ i,k,none⟩=vs[k]? :=fun k=>by simp[World.cell?,h1]
  simp only[hx,asAddr,Sem.run_bind,Sem.run_pure,Result.andThen_ok];split at h
  ·rename_i hg;obtain⟨ys,hs1,rfl⟩:=La.1 h;obtain⟨h4,h5,h6⟩:=V4 hs1;have hrun:=dZ ht hok hg c.w ⟨c.φ i,off,none⟩ ((vs.toList.drop off).take (tab T).size) (by rw[Lw,Nv];simp;omega) (fun j u hj=>by
    obtain⟨_,hj2⟩:=KM _ _ _ _ _ hj;rw[HO,hcell];simpa using hj2)
   refine⟨_,hrun,_,rfl,by simp;omega,fun j y hy=> ?_⟩;rw[h5] at hy;obtain⟨hj,hy2⟩:=KM _ _ _ _ _ hy;obtain⟨u,e1,e2⟩:=h3 _ _ hy2;refine⟨u,?_,e2⟩;rw[Np,Nn,if_pos hj,NQ];simpa using e1
  rename_i hg;split at h
  ·rename_i v' hv';split at h
   ·rename_i hval;cases h;obtain⟨u,e1,e2⟩:=h3 off v hv';exact⟨u,db ht hok (by simpa using hg) c.w _ u ((hcell off).trans e1),fQ hval e2.toAt⟩
   cases h
  cases h
theorem Yt (ht:AU P tab){s:St}{c:Cf}{a:Act}(hs:Dx g s c a N):∀ {rs:List ResultVar} {vs:List AV},Kt tab s rs=some vs->
  ∃us:List Value,(rs.mapM fun(r:ResultVar)=>match r with | .tmp t=>(pure (a.tmps.getD t undef):Sem Value) | .cell x T=>do loadVar T (<-asAddr (a.tmps.getD x undef))).run P c.w= .ok us c.w/\us.length=vs.length/\∀(j:Nat) (v:AV),vs[j]? =some v->∃u,us[j]? =some u/\DQ g c v u
 |[],vs,h=>by
  simp only[Kt,Le] at h;subst h;exact⟨[],rfl,rfl,fun j v h=>by simp at h⟩
 |r::rs,vs,h=>by
  simp only[Kt] at h;split at h
  ·rename_i v vs' h1 h2;cases h;obtain⟨u,h3,h4⟩:=oo ht hs h1;obtain⟨us,h5,h6,h7⟩:=Yt ht hs h2;refine⟨u::us,?_,by simp[h6],fun j v hj=> ?_⟩
   ·rw[List.mapM_cons,Sem.run_bind,h3,Result.andThen_ok,Sem.run_bind,h5,Result.andThen_ok];rfl
   cases j with |zero=>simp at hj;subst hj;exact⟨u,rfl,h4⟩ |succ j=>exact h7 j v (by simpa using hj)
  cases h
theorem ot (ht:AU P tab){s:St}{c:Cf}{a:Act}(hs:Dx g s c a N){fn:Func}{v:AV}(h:Dw tab fn.results s=some v):∃u,(results fn a.tmps).run P c.w= .ok u c.w/\Am g c v u:=by
 unfold Dw at h;have hrun:∀us:List Value,(fn.results.toList.mapM fun(r:ResultVar)=>match r with | .tmp t=>(pure (a.tmps.getD t undef):Sem Value) | .cell x T=>do loadVar T (<-asAddr (a.tmps.getD x undef))).run P c.w= .ok us c.w->
   (results fn a.tmps).run P c.w= .ok (if h:us.toArray.size=1 then us.toArray[0] else .tuple us.toArray) c.w:=by
  intro us hu;unfold results;rw[Sem.run_bind,Array.mapM_eq_mapM_toList,Sem.run_map];refine(congrArg (fun r=>Result.andThen (Result.andThen r _) _) hu).trans ?_;simp only[Result.andThen_ok];split<;>simp_all
 split at h
 ·rename_i x hx;cases h;obtain⟨us,h1,h2,h3⟩:=Yt ht hs hx
  match us,h2 with
  |[u],_=>
   obtain⟨u',h4,h5⟩:=h3 0 v rfl;cases h4;exact⟨u,by rw[hrun _ h1];rfl,h5.toAt⟩
 ·rename_i vs hne hx;cases h;obtain⟨us,h1,h2,h3⟩:=Yt ht hs hx;refine⟨.tuple us.toArray,?_,us.toArray,rfl,by simpa using h2,fun j x hj=> ?_⟩
  ·rw[hrun _ h1,dif_neg];intro e;simp only[LU] at e
   match vs,(show vs.length=1 by omega) with |[x],_=>exact hne x rfl
  obtain⟨u,e1,e2⟩:=h3 j x hj;exact⟨u,by simpa using e1,e2⟩
 cases h
end
end
section
open Go.RowKit
theorem RC.via {w w':World}{I I':Nat->Prop}(hb:∀b,I b->w'.heap[b]? =w.heap[b]? \/w.heap[b]? =some (.deferred (some [])))(hI:∀b,I b->I' b){d:D}{u:Value}(h:RC w I d u):RC w' I' d u:=by
 have hc:∀(a:Addr) (v:Value),I a.block->w.cell? a=some v->w'.cell? a=some v:=fun a v ha hv=>by
  rcases hb a.block ha with h |h
  ·exact(World.cell?_of_block h).trans hv
  unfold World.cell? at hv;rw[h] at hv;cases hv
 induction h with
 |v x h=>exact .v x h
 |nl a c=>exact .nl a c
 |sl es b o c sz us h1 h2 h3 h4 h5 ih=>exact .sl es b o c sz us (hI b h1) h2 h3 (fun i j cs d e1 e2=>hc ⟨b,o+i*sz+j,none⟩ _ h1 (h4 i j cs d e1 e2)) ih
 |pt cs off b o us h1 h2 h3 ih=>exact .pt cs off b o us (hI b h1) (fun j d e=>hc ⟨b,o+j,none⟩ _ h1 (h2 j d e)) ih
 |mp es r en k h1 h2 h3 h4 h5 ih=>
  refine .mp es r en k (hI r h1) ?_ h3 h4 ih;rcases hb r h1 with h |h
  ·exact h.trans h2
  rw[h] at h2;cases h2
structure F4 (g g':Gh) (c c':Cf):Prop where
 im:∀b k,Im g c b k->Im g' c' b k
 mem:∀b k,Im g c b k->c'.w.heap[k]? =c.w.heap[k]? \/c.w.heap[k]? =some (.deferred (some []))
 kn:∀id,c.kn id->c'.kn id/\c'.φ id=c.φ id
 hp:∀id o,c'.hp id=some o->c.hp id=some o
 row:∀id o,c'.hp id=some o->c'.w.heap[c.φ id]? =c.w.heap[c.φ id]?
section
variable {g g':Gh}{c c':Cf}
theorem RC.tr (t:F4 g g' c c'){b:Bool}{d:D}{u:Value}(h:RC c.w (Im g c b) d u):RC c'.w (Im g' c' b) d u:=h.via (t.mem b) (t.im b)
theorem DJ.tr (t:F4 g g' c c'){b:Bool}{d:D}{u:Value}(h:DJ c.w (Im g c b) d u):DJ c'.w (Im g' c' b) d u:=by
 unfold DJ at *;split at h
 ·obtain⟨vs,h1,h2,h3⟩:=h;exact⟨vs,h1,h2,fun j d e=>let ⟨x,e1,e2⟩:=h3 j d e;⟨x,e1,e2.tr t⟩⟩
 exact h.tr t
theorem RV.tr (t:F4 g g' c c'){b:Bool}{d:D}{u:Value}(h:RV c.w (Im g c b) d u):RV c'.w (Im g' c' b) d u:=by
 unfold RV at *;split at h
 ·obtain⟨vs,h1,h2,h3⟩:=h;exact⟨vs,h1,h2,fun j d e=>let ⟨x,e1,e2⟩:=h3 j d e;⟨x,e1,e2.tr t⟩⟩
 exact h.tr t
theorem RA.tr (t:F4 g g' c c'){x:AV}{u:Value}(h:RA g c x u):RA g' c' x u:=by
 induction h with
 |v x h=>exact .v x h
 |d x b u h1=>exact .d x b u (h1.tr t)
 |pt id off hn ho=>
  rw[<-(t.kn id hn).2];exact .pt id off (t.kn id hn).1 fun o h=>ho o (t.hp id o h)
 |mo id hn ho=>
  rw[<-(t.kn id hn).2];exact .mo id (t.kn id hn).1 fun o h=>ho o (t.hp id o h)
 |pr id ver i off u hn hp h1=>
  refine .pr id ver i off u (t.kn id hn).1 hp fun es sz v br fz hr=> ?_;rw[(t.kn id hn).2];exact h1 es sz v br fz (t.hp id _ hr)
 |so id ver off len u hn hp h1=>
  refine .so id ver off len u (t.kn id hn).1 hp fun es sz v br fz hr=> ?_;rw[(t.kn id hn).2,t.row id _ hr];exact h1 es sz v br fz (t.hp id _ hr)
 |fn f caps us n hn _ ih=>exact .fn f caps us n hn ih
theorem DQ.tr (t:F4 g g' c c'){x:AV}{u:Value}(h:DQ g c x u):DQ g' c' x u:=by
 unfold DQ at *;split at h
 ·trivial
 ·obtain⟨vs,h1,h2,h3⟩:=h;exact⟨vs,h1,h2,fun j x e=>let ⟨y,e1,e2⟩:=h3 j x e;⟨y,e1,e2.tr t⟩⟩
 ·exact DJ.tr t h
 exact RA.tr t h
theorem Am.tr (t:F4 g g' c c'){x:AV}{u:Value}(h:Am g c x u):Am g' c' x u:=by
 unfold Am at *;split at h
 ·obtain⟨vs,h1,h2,h3⟩:=h;exact⟨vs,h1,h2,fun j x e=>let ⟨y,e1,e2⟩:=h3 j x e;⟨y,e1,e2.tr t⟩⟩
 ·exact RV.tr t h
 exact DQ.tr t h
theorem OK.tr (t:F4 g g' c c'){id:Nat}{o:AO}(hi:c'.hp id=some o)(hk:c.kn id)(ho:OK g c id o):OK g' c' id o:=by
 have hφ:=(t.kn id hk).2;have hb:=t.row id o hi;cases o with
 |bx cs=>
  obtain⟨T,vs,h1,h2,h3⟩:=ho;exact⟨T,vs,by rw[hφ,hb];exact h1,h2,fun j x e=>let ⟨u,e1,e2⟩:=h3 j x e;⟨u,e1,e2.tr t⟩⟩
 |rw es sz v br fz=>
  obtain⟨h1,h2,T,vs,C,h3,h4,h5,h6,h7⟩:=ho;exact⟨h1,h2,T,vs,C,by rw[hφ,hb];exact h3,h4,h5,h6,fun i j cs d e1 e2=>let ⟨u,e3,e4⟩:=h7 i j cs d e1 e2;⟨u,e3,e4.tr t⟩⟩
 |mo es dl=>
  obtain⟨en,k,h1,h2,h0,h5⟩:=ho;exact⟨en,k,by rw[hφ,hb];exact h1,h2,h0,fun i x y e=>let ⟨e',e1,e2,e3⟩:=h5 i x y e;⟨e',e1,e2,e3.tr t⟩⟩
theorem HR.tr (t:F4 g g' c c')(h:HR g c)(hle:g'.base<=c'.w.heap.size)(hm:∀k,g'.M0 k->k<c'.w.heap.size)(ho:∀id o,c'.hp id=some o->YY g' (c.φ id))(hs:c.w.heap.size<=c'.w.heap.size):HR g' c' where
 le:=hle
 m0:=hm
 dom id o hi:=by
  obtain⟨h1,_,h3⟩:=h.dom id o (t.hp id o hi);rw[(t.kn id h1).2];exact⟨(t.kn id h1).1,ho id o hi,Lz h3 hs⟩
 inj i j o p hi hj hne:=by
  rw[(t.kn i (h.dom i o (t.hp i o hi)).1).2,(t.kn j (h.dom j p (t.hp j p hj)).1).2];exact h.inj i j o p (t.hp i o hi) (t.hp j p hj) hne
 obj id o hi:=(h.obj id o (t.hp id o hi)).tr t hi (h.dom id o (t.hp id o hi)).1
theorem F4.fb (g:Gh)(c:Cf)(B:Nat):F4 g ⟨g.base,g.M0,B⟩ c c:=⟨fun _ _ h=>h,fun _ _ _=>.inl rfl,fun _ h=>⟨h,rfl⟩,fun _ _ h=>h,fun _ _ _=>rfl⟩
theorem F4.unfb (g:Gh)(c:Cf)(B:Nat):F4 ⟨g.base,g.M0,B⟩ g c c:=⟨fun _ _ h=>h,fun _ _ _=>.inl rfl,fun _ h=>⟨h,rfl⟩,fun _ _ h=>h,fun _ _ _=>rfl⟩
end
def Dn:List Deferred->World->World
 |[],w=>w
 |d::ds,w=>Dn ds (match d.target with | .collected r=>w.putObj r (.deferred none) |_=>w)
theorem fR (ds:List Deferred)(w:World):(Dn ds w).os=w.os/\(Dn ds w).tape=w.tape/\(Dn ds w).output=w.output/\(Dn ds w).drawn=w.drawn/\(Dn ds w).heap.size=w.heap.size:=by
 induction ds generalizing w with
 |nil=>exact⟨rfl,rfl,rfl,rfl,rfl⟩
 |cons d ds ih=>
  unfold Dn;split
  ·rename_i r _;obtain⟨h1,h2,h3,h4,h5⟩:=ih (w.putObj r (.deferred none));exact⟨h1,h2,h3,h4,h5.trans (by simp)⟩
  exact ih w
theorem fS {B:Nat}:∀ {ds:List Deferred} {w:World},DC B ds w->∀k:Nat,(Dn ds w).heap[k]? =w.heap[k]? \/(B<=k/\w.heap[k]? =some (.deferred (some [])))
 |[],_,_,_=>.inl rfl
 |d::ds,w,⟨⟨r,h1,h2,h3,h4⟩,h5⟩,k=>by
  have hm:DC B ds (w.putObj r (.deferred none)):=by
   clear h3;induction ds with
   |nil=>trivial
   |cons e ds ih=>
    obtain⟨⟨q,g1,g2,g3,g4⟩,g5⟩:=h5;have hne:q≠r:=fun e2=>h4 e (Lo ..) (e2▸g2);exact⟨⟨q,g1,g2,(World.putObj_heap_other hne).trans g3,g4⟩,ih (fun x hx=>h4 x (Lh _ hx)) g5⟩
  unfold Dn;rw[h2];have ih:=fS hm k;by_cases e:k=r
  ·subst e;exact .inr ⟨h1,h3⟩
  rw[World.putObj_heap_other e] at ih;exact ih
theorem Yu {P:Program}{fn:Func}{tmps:Array Value}{R:Ending->World->Prop}{B:Nat}:∀ {ds:List Deferred} {w:World},DC B ds w->(∃v,(results fn tmps).run P (Dn ds w)= .ok v (Dn ds w)/\R (.returned v) (Dn ds w))->LeavesInM Fence.wide 0 P fn tmps R ds .returning w
 |[],_,_,h=>h
 |d::ds,w,⟨⟨r,h1,h2,h3,h4⟩,h5⟩,h=>by
  refine⟨by simp,.inl ⟨r,w.putObj r (.deferred none),h2,run_takeDeferred h3,Yu (B:=B) ?_ ?_⟩⟩
  ·clear h h3
   induction ds with
   |nil=>trivial
   |cons e ds ih=>
    obtain⟨⟨q,g1,g2,g3,g4⟩,g5⟩:=h5;have hne:q≠r:=fun e2=>h4 e (Lo ..) (e2▸g2);exact⟨⟨q,g1,g2,(World.putObj_heap_other hne).trans g3,g4⟩,ih (fun x hx=>h4 x (Lh _ hx)) g5⟩
  unfold Dn at h;rw[h2] at h;exact h
section
variable {P:Program}{tab:Nat->TI}{g:Gh}{N:Nat}
theorem Dx.taken {s:St}{c:Cf}{a:Act}(hs:Dx g s c a N):Dx g s ⟨c.hp,c.φ,Dn a.defers c.w,c.kn⟩ { a with defers:=[] } N/\(∀x u,Am g c x u->Am g ⟨c.hp,c.φ,Dn a.defers c.w,c.kn⟩ x u)/\
  ∀k,(Dn a.defers c.w).heap[k]? =c.w.heap[k]? \/(g.fb<=k/\c.w.heap[k]? =some (.deferred (some []))):=by
 obtain⟨h1,h2,h3,h4,h5⟩:=fR a.defers c.w;have hm:=fS hs.dfs.2;have t:F4 g g c ⟨c.hp,c.φ,Dn a.defers c.w,c.kn⟩:=⟨fun b k hk=>⟨by simp only[h5];exact hk.1,hk.2⟩,fun b k _=>(hm k).imp_right (·.2),fun id h=>⟨h,rfl⟩,fun _ _ h=>h,fun id o ho=>(hm _).resolve_right fun e=>hs.hr.not_mark ho e.2⟩;have hr:HR g ⟨c.hp,c.φ,Dn a.defers c.w,c.kn⟩:=hs.hr.tr t (by simp only[h5];exact hs.hr.le) (fun k hk=>by simp only[h5];exact hs.hr.m0 k hk) (fun id o ho=>(hs.hr.dom id o ho).2.1) (by simp only[h5];exact Lc _);exact⟨⟨hs.hp,hr,hs.kn,fun x=>(hs.fr x).tr t,hs.size,by simp only[h5];exact hs.dfs.1,trivial⟩,fun _ _ h=>h.tr t,hm⟩
theorem Yv {f:FuncId}{fn:Func}{code:Code}{args:Array Value}{w:World}{R:Ending->World->Prop}(hf:P.funcs[f]? =some fn)(hb:fn.body=some code)
  (h:code.wp P (fun e a' w'=>(e= .normal\/e= .ret)/\∃B,DC B a'.defers w'/\∃v,(results fn a'.tmps).run P (Dn a'.defers w')= .ok v (Dn a'.defers w')/\R (.returned v) (Dn a'.defers w')) { tmps:=args++Array.replicate (fn.ntmps-args.size) undef,defers:=[] } w):Calls P f args w R:=
 callsIn_wide.1 (callsIn_of_wp_marks (n:=0) (F:=Fence.wide) hf hb trivial (wpIn_mono (wpIn_wide.2 h) fun e a' w' ⟨he,B,h1,h2⟩=>by
  rcases he with rfl |rfl
  ·exact Yu h1 h2
  exact Yu h1 h2))
theorem Yw (ht:AU P tab){fn:Func}{c c':Cf}{s':St}{a':Act}{R:AV->Hp->Nat->Prop}{nx:Nat}(h3:Dx ⟨g.base,g.M0,c.w.heap.size⟩ s' c' a' N)(h5:CF c c')(h6:nx<=s'.nx)(h7:∀i,c'.kn i->c.kn i\/nx<=i):
  (∃v hp',Dw tab fn.results s'=some v/\Fj hp' s'.hp/\R v hp' s'.nx)->∃B,DC B a'.defers c'.w/\∃v,(results fn a'.tmps).run P (Dn a'.defers c'.w)= .ok v (Dn a'.defers c'.w)/\∃u v' c'' nx',Ending.returned v= .returned u/\R v' c''.hp nx'/\c''.w=Dn a'.defers c'.w/\CF c c''/\HR g c''/\Am g c'' v' u/\nx<=nx'/\∀i,c''.kn i->c.kn i\/(nx<=i/\i<nx'):=by
 rintro⟨v,hp',e1,e2,e3⟩;obtain⟨h8,_,h10⟩:=h3.taken;obtain⟨u,q1,q2⟩:=ot ht h8 e1;obtain⟨t1,t2,t3,t4,t5⟩:=fR a'.defers c'.w;have he2:CF c ⟨c'.hp,c'.φ,Dn a'.defers c'.w,c'.kn⟩:=by
  refine⟨t1.trans h5.os,t2.trans h5.tape,t3.trans h5.output,by simp only[t5];exact h5.size,h5.kn,fun k hk hm=> ?_,h5.muts,h5.keep,fun id es' sz v' br' fz' hn hr=> ?_,by simp only[t4];exact h5.drawn⟩
  ·rcases h10 k with h |⟨h,_⟩
   ·exact h.trans (h5.block k hk hm)
   exact absurd h (Nat.not_le.2 hk)
  obtain⟨es,v0,br,fz,k1,k2,k3⟩:=h5.rows id es' sz v' br' fz' hn hr;refine⟨es,v0,br,fz,k1,k2,fun e=> ?_⟩;obtain⟨k4,k5,k6⟩:=k3 e;refine⟨k4,k5,fun cur T hc=> ?_⟩;obtain⟨cur',k7,k8⟩:=k6 cur T hc;rcases h10 (c.φ id) with h |⟨_,h⟩
  ·exact⟨cur',h.trans k7,k8⟩
  rw[h] at k7;cases k7
 obtain⟨he,hr'⟩:=CF.less h8.hr (hp':=hp') fun i=>by
  have:c'.hp=s'.hp:=h3.hp;rw[this];exact e2.h i
 have tu:=F4.unfb g ⟨hp',c'.φ,Dn a'.defers c'.w,c'.kn⟩ c.w.heap.size;exact⟨_,h3.dfs.2,u,q1,u,v,⟨hp',c'.φ,Dn a'.defers c'.w,c'.kn⟩,s'.nx,rfl,e3,rfl,he2.trans he,hr'.tr tu hr'.le hr'.m0 (fun id o ho=>(hr'.dom id o ho).2.1) (Lc _),(q2.ext he).tr tu,h6,fun i hi=>(h7 i hi).imp_right fun h8=>⟨h8,h3.kn i hi⟩⟩
theorem HR.fb {g:Gh}{c:Cf}(h:HR g c)(B:Nat):HR ⟨g.base,g.M0,B⟩ c:=h.tr (F4.fb g c B) h.le h.m0 (fun id o ho=>(h.dom id o ho).2.1) (Lc _)
end
end
section
open Go.RowKit
section
variable {P:Program}{tab:Nat->TI}
def Cu (tab:Nat->TI)(rs:Array ResultVar)(R:AV->Hp->Nat->Prop)(e:Ex)(s:St):Prop:=
 match e with
 | .exit _=>False
 |_=>∃v hp',Dw tab rs s=some v/\Fj hp' s.hp/\R v hp' s.nx
theorem fT (ht:AU P tab)(hm:P.follows .mixedOrders=true){f:FuncId}{fn:Func}{code:Code}(hf:P.funcs[f]? =some fn)(hb:fn.body=some code)(hname:(fn.name== "runtime.NumGoroutine")=false)(hd:DY fn.ntmps code=true){vs:List AV}{hp:Hp}{nx:Nat}{R:AV->Hp->Nat->Prop}
  (hlen:vs.length<=fn.ntmps) (h:W P tab code (Cu tab fn.results R) ⟨Df vs,hp,nx⟩):AK P f vs hp nx R:=by
 refine⟨⟨fn,hf,hname,by rw[hb];rfl⟩,fun g c args hhp hkn hr hsz hargs=> ?_⟩;refine Yv hf hb (Code.wp_mono (fun e a' w' hpost=> ?_) (Ys (g:=⟨g.base,g.M0,c.w.heap.size⟩) (N:=fn.ntmps) ht hm code _ _ c _ hd h ⟨hhp,hr.fb _,hkn,fun t=> ?_,by simp;omega,Lc _,trivial⟩))
 ·obtain⟨ex,s',c',h1,h2,h3,h4,h5,h6,h7⟩:=hpost;subst h1;subst h4;have fin:=Yw (fn:=fn) (R:=R) ht h3 h5 h6 h7;cases ex with |normal=>exact⟨.inl rfl,fin h2⟩ |ret=>exact⟨.inr rfl,fin h2⟩ |exit n=>exact h2.elim
 refine Am.tr (F4.fb g c _) ?_;show Am g c (vs.getD t (.tu [])) _;by_cases hlt:t<vs.length
 ·have e1:vs[t]? =some vs[t]:=Ld hlt;obtain⟨u,h1,h2⟩:=hargs t _ e1;have e2:vs.getD t (.tu [])=vs[t]:=by simp[List.getD,e1]
  rw[e2,LG,NB (by omega),h1];exact h2
 have e2:vs.getD t (.tu [])= .tu []:=by simp[List.getD,LX (Oy hlt)]
 rw[e2];have e3:(args++Array.replicate (fn.ntmps-args.size) undef).getD t undef=undef:=by
  rw[LG,Bl (by omega)];by_cases h1:t-args.size<fn.ntmps-args.size
  ·simp[h1]
  simp[h1]
 rw[e3];exact WF c
def D9 (d:D)(fr:Bool)(v:AV)(hp':Hp)(_nx:Nat):Prop:=∃b is,toR hp' v=some (d,b,is)/\(fr=true->b=false)
theorem TW {f:FuncId}{ds:List D}{d:D}{fr:Bool}(h:AK P f (ds.map (Aw true)) AS 0 (D9 d fr)):AI P f ds d fr:=by
 refine⟨h.1,fun w M0 args hM hsz hargs=> ?_⟩;have hr:HR ⟨w.heap.size,M0,w.heap.size⟩ ⟨AS,fun _=>0,w,fun _=>False⟩:=⟨Lc _,hM,fun _ _ h=>by simp[AS] at h,fun _ _ _ _ h=>by simp[AS] at h,fun _ _ h=>by simp[AS] at h⟩;refine(h.2 ⟨w.heap.size,M0,w.heap.size⟩ ⟨AS,fun _=>0,w,fun _=>False⟩ args rfl (fun _ h=>h.elim) hr (by simpa using hsz) (fun j x hj=> ?_)).mono fun e w' ⟨u,v,c',nx',h1,⟨b,is,h2,h3⟩,h4,h5,h6,h7,_,_⟩=> ?_
 ·rw[Lj,La] at hj;obtain⟨d,h1,rfl⟩:=hj;obtain⟨u,h2,h3⟩:=hargs j d h1;have h4:DJ w (Im ⟨w.heap.size,M0,w.heap.size⟩ ⟨AS,fun _=>0,w,fun _=>False⟩ true) d u:=h3.mono (fun _ _=>rfl) fun k hk=>⟨hk.1,hk.2,fun _ _ h=>by simp[AS] at h,by simp⟩;refine⟨u,h2,?_⟩;cases d with
  |ag cs=>exact h4
  |tu cs=>cases h3
  |v x=>exact(RC.toRA (c:=⟨AS,fun _=>0,w,fun _=>False⟩) h4).toAt
  |sl x=>exact(RC.toRA (c:=⟨AS,fun _=>0,w,fun _=>False⟩) h4).toAt
  |pt x y=>exact(RC.toRA (c:=⟨AS,fun _=>0,w,fun _=>False⟩) h4).toAt
  |mp x=>exact(RC.toRA (c:=⟨AS,fun _=>0,w,fun _=>False⟩) h4).toAt
 subst h4;refine⟨u,h1,⟨⟨h5.os,h5.tape,h5.output,h5.size,fun k hk=>h5.block k hk fun id o ho=>by simp[AS] at ho⟩,h5.drawn⟩,?_⟩;have hI:∀k,Im ⟨w.heap.size,M0,w.heap.size⟩ c' b k->k<c'.w.heap.size/\¬M0 k/\(fr=true->w.heap.size<=k):=fun k hk=>⟨hk.1,hk.2.1,fun hf=>hk.2.2.2 (h3 hf)⟩;have hrow:∀i,(∃es sz v br fz,c'.hp i=some (.rw es sz v br fz))->c'.φ i<c'.w.heap.size/\¬M0 (c'.φ i)/\(fr=true->w.heap.size<=c'.φ i):=fun i ⟨es,sz,v,br,fz,hi⟩=>by
  obtain⟨_,g1,g2⟩:=h6.dom i _ hi;exact⟨g2,g1.2,fun _=>g1.1⟩
 unfold toR at h2;split at h2
 ·rename_i cs;obtain⟨⟨ds',b',is'⟩,e1,e2⟩:=La.1 h2;simp only[Lu] at e2;obtain⟨rfl,rfl,rfl⟩:=e2;obtain⟨vs,hv,hn,hc⟩:=h7;obtain⟨g1,g2⟩:=Ra h6 rfl (fun k=>k<c'.w.heap.size/\¬M0 k/\(fr=true->w.heap.size<=k)) (fun j=>vs.getD j undef) e1 (TT fun j x hj=>let ⟨y,k1,k2⟩:=hc j x hj;⟨y,k1,k2.toAt⟩) hI fun i hi=>hrow i (Pi e1 i hi);refine⟨vs,hv,by omega,fun j x hj=>⟨_,TU (by have:=(Lb.1 hj).1;omega),(g2 j x hj).1⟩⟩
 obtain⟨g1,g2,_⟩:=TL h6 rfl (fun k=>k<c'.w.heap.size/\¬M0 k/\(fr=true->w.heap.size<=k)) h2 h7 hI fun i hi=>hrow i (TM h2 i hi);cases d with
 |tu ds=>exact absurd rfl (g2 ds)
 |_=>exact g1
theorem AK.mono {f:FuncId}{vs:List AV}{hp:Hp}{nx:Nat}{R R':AV->Hp->Nat->Prop}(h:AK P f vs hp nx R)(hR:∀v hp nx,R v hp nx->R' v hp nx):AK P f vs hp nx R':=
 ⟨h.1,fun g c args h1 h2 h3 h4 h5=>(h.2 g c args h1 h2 h3 h4 h5).mono fun _ _ ⟨u,v,c',nx',e1,e2,e3⟩=>⟨u,v,c',nx',e1,hR _ _ _ e2,e3⟩⟩
theorem ou {f:AV}{vs:List AV}{hp:Hp}{nx:Nat}{K K':AV->Hp->Nat->Prop}(h:KN P f vs hp nx K)(hK:∀v hp nx,K v hp nx->K' v hp nx):KN P f vs hp nx K':=by
 unfold KN at *;split at h
 ·rcases h with⟨ds,b,is,d,fr,h1,h2,h3,h4⟩ |h
  ·exact .inl ⟨ds,b,is,d,fr,h1,h2,h3,hK _ _ _ h4⟩
  exact .inr (h.mono hK)
 exact h.elim
theorem Yx {op:Op}{id:Nat}{s:St}{K K':AV->Hp->Nat->Prop}(h:HQ P tab op id s K)(hK:∀v hp nx,K v hp nx->K' v hp nx):HQ P tab op id s K':=by
 unfold HQ at *;split at h
 ·exact ou h hK
 split at h
 ·exact hK _ _ _ h
 exact h.elim
theorem WI {ops:Array Oper}{o:Oper}{s:St}{y n y' n':Prop}(h:Fx ops o s y n)(h1:y->y')(h2:n->n'):Fx ops o s y' n':=by
 unfold Fx at *;split at h
 ·exact h1 h
 split at h
 ·exact h2 h
 split at h
 ·exact⟨fun e=>h1 (h.1 e),fun e=>h2 (h.2 e)⟩
 ·exact h2 h
 exact h.elim
theorem WJ {ops:Array Oper}{nx0:Nat}{K K':St->Prop}(hK:∀s,K s->K' s):∀(l:List Nat) (s:St),WL P tab ops nx0 K l s->WL P tab ops nx0 K' l s
 |[],s,h=>hK s h
 |i::l,s,h=>by
  unfold WL at *;split at h
  ·exact WJ hK l s h
  exact WI h (fun h=>Yx h fun _ _ _ h=>WJ hK l _ h) fun h=>WJ hK l _ h
theorem Pr (x:Operand)(y z:Code)(Q:Ex->St->Prop)(s:St):W P tab (.cond x y z) Q s=(match ev s.fr x with | .v (.bool t)=>(t=true->W P tab y Q s)/\(t=false->W P tab z Q s) |_=>False):=rfl
end
end
section
open Go.RowKit
mutual
def Au:AV->List Nat
 | .pt i _=>[i]
 | .pr i _ _ _=>[i]
 | .so i _ _ _=>[i]
 | .mo i=>[i]
 | .ag cs=>Ax cs
 | .tu cs=>Ax cs
 | .fn _ cs=>Ax cs
 |_=>[]
def Ax:List AV->List Nat
 |[]=>[]
 |x::r=>Au x++Ax r
end
theorem Yy:∀(xs ys:List AV),Ax (xs++ys)=Ax xs++Ax ys
 |[],ys=>by simp[Ax]
 |x::xs,ys=>by simp[Ax,Yy xs ys]
def F5:Op->Bool
 | .move _ | .assign _ | .pick .. | .alloc _ | .box .. | .build .. | .nilCheck _ | .unOp .. | .fieldAddr .. | .extract .. | .makeFunc .. | .makeMap .. | .makeSlice .. | .index .. =>false
 |_=>true
def CX (ρ:Operand->AV)(op:Op):List Nat:=if F5 op then Ax (op.operands.toList.map ρ) else[]
theorem ox {xs:List AV}{x:AV}(h:x∈xs){i:Nat}(hi:i∈Au x):i∈Ax xs:=by
 induction xs with
 |nil=>cases h
 |cons y r ih=>
  simp only[Ax,Ls];rcases Lm.1 h with rfl |h
  ·exact .inl hi
  exact .inr (ih h)
theorem oy {ρ:Operand->AV}{op:Op}(hl:F5 op=true){x:Operand}(h:x∈op.operands.toList){i:Nat}(hi:i∈Au (ρ x)):i∈CX ρ op:=by
 unfold CX;rw[if_pos hl];exact ox (LH h) hi
section
variable {tab:Nat->TI}{ρ ρ':Operand->AV}{hp hp':Hp}{id:Nat}
theorem Yz {x:AV}(h:∀i∈Au x,hp i=hp' i):CS hp x=CS hp' x:=by
 cases x with
 |so i v o n=>simp only[CS,h i (by simp[Au])]
 |v x=>cases x with |slice a n c=>cases a<;>cases n<;>cases c<;>rfl |_=>rfl
 |d x b=>cases x<;>rfl
 |_=>rfl
theorem Y0:∀ {xs:List AV},(∀i∈Ax xs,hp i=hp' i)->DE hp xs=DE hp' xs
 |[],_=>rfl
 |x::r,h=>by
  simp only[DE,Yz (x:=x) fun i hi=>h i (by simp[Ax,hi]),Y0 (xs:=r) fun i hi=>h i (by simp[Ax,hi])]
theorem oz {x:AV}(h:∀i∈Au x,hp i=hp' i):EP hp x=EP hp' x:=by
 cases x with
 |ag cs=>simp only[EP,Y0 (xs:=cs) fun i hi=>h i (by simpa [Au] using hi)]
 |d y b=>cases y<;>rfl
 |v y=>exact Yz h
 |so i v o n=>exact Yz h
 |tu cs=>rfl
 |fn f cs=>rfl
 |pt i o=>rfl
 |pr i v k o=>rfl
 |mo i=>rfl
 |un=>rfl
theorem Y7:∀ {xs:List AV},(∀i∈Ax xs,hp i=hp' i)->CT hp xs=CT hp' xs
 |[],_=>rfl
 |x::r,h=>by
  simp only[CT,oz (x:=x) fun i hi=>h i (by simp[Ax,hi]),Y7 (xs:=r) fun i hi=>h i (by simp[Ax,hi])]
theorem fU {x:AV}{d:D}{b:Bool}{is:List Nat}(h:CS hp x=some (d,b,is)):∀i∈is,i∈Au x:=by
 unfold CS at h;split at h
 ·cases h;simp
 ·cases h;simp
 ·cases h
 ·cases h
 ·cases h;simp
 ·split at h
  ·split at h
   ·cases h;simp[Au]
   cases h
  cases h
 cases h
theorem Y8:∀ {xs:List AV} {ds:List D} {b:Bool} {is:List Nat},DE hp xs=some (ds,b,is)->∀i∈is,i∈Ax xs
 |[],ds,b,is,h=>by
  simp only[DE,Le,Lu] at h;obtain⟨_,_,rfl⟩:=h;simp
 |x::r,ds,b,is,h=>by
  unfold DE at h;split at h
  ·rename_i d b1 i1 ds1 b2 i2 e1 e2;cases h;intro i hi;simp only[Ax,Ls];exact(Ls.1 hi).imp (fU e1 i) (Y8 e2 i)
  cases h
theorem Ps {x:AV}{d:D}{b:Bool}{is:List Nat}(h:EP hp x=some (d,b,is)):∀i∈is,i∈Au x:=by
 unfold EP at h;split at h
 ·obtain⟨⟨ds,b',is'⟩,e1,e2⟩:=La.1 h;simp only[Lu] at e2;obtain⟨_,_,rfl⟩:=e2;exact fun i hi=>by simpa [Au] using Y8 e1 i hi
 ·cases h;simp
 exact fU h
theorem fV:∀ {xs:List AV} {ds:List D} {b:Bool} {is:List Nat},CT hp xs=some (ds,b,is)->∀i∈is,i∈Ax xs
 |[],ds,b,is,h=>by
  simp only[CT,Le,Lu] at h;obtain⟨_,_,rfl⟩:=h;simp
 |x::r,ds,b,is,h=>by
  unfold CT at h;split at h
  ·rename_i d b1 i1 ds1 b2 i2 e1 e2;cases h;intro i hi;simp only[Ax,Ls];exact(Ls.1 hi).imp (Ps e1 i) (fV e2 i)
  cases h
theorem Y9:∀ {is:List Nat},(∀i∈is,hp i=hp' i)->frz hp is=frz hp' is
 |[],_=>rfl
 |i::r,h=>by simp only[frz,h i (by simp),Y9 (is:=r) fun i hi=>h i (by simp[hi])]
theorem o0 {x:AV}(h:∀i∈Au x,hp i=hp' i):Fg hp x=Fg hp' x:=by
 cases x with
 |so i v o n=>simp only[Fg,h i (by simp[Au])]
 |d y b=>cases y<;>rfl
 |v y=>cases y with |slice a n c=>cases a<;>cases n<;>cases c<;>rfl |_=>rfl
 |_=>rfl
theorem o5 {x:AV}{cs:List AV}(h:De x=some cs):∀i∈Ax cs,i∈Au x:=by
 have single:∀ {x:AV},∀i∈Ax [x],i∈Au x:=fun i hi=>by simpa [Ax] using hi
 have lifts:∀(cs:List D) (b:Bool),Ax (cs.map (Aw b))= []:=by
  intro cs b;induction cs with |nil=>rfl |cons d r ih=>cases d<;>simp[Ax,Aw,Au,ih]
 cases x with
 |ag xs=>simp only[De,Le] at h;subst h;exact fun i hi=>by simpa [Au] using hi
 |d y b=>cases y with |ag ds=>simp only[De,Le] at h;subst h;rw[lifts];simp |tu ds=>simp[De] at h |_=>simp only[De,Le] at h;subst h;exact single
 |tu xs=>simp[De] at h
 |un=>simp[De] at h
 |_=>simp only[De,Le] at h;subst h;exact single
theorem fW (offs:List (Nat × Nat)):∀(ps:List (Nat × Operand)) (cs:List AV),(∀p∈ps,ρ p.2=ρ' p.2)->KL offs ρ cs ps=KL offs ρ' cs ps
 |[],cs,_=>rfl
 |(i,x)::r,cs,h=>by
  have h1:=h (i,x) (by simp);simp only[KL,h1];split
  ·split
   ·exact fW offs r _ fun p hp=>h p (by simp[hp])
   rfl
  rfl
theorem o7 {len:Nat}{lo hi:Option Operand}(h1:∀x∈lo,ρ x=ρ' x)(h2:∀x∈hi,ρ x=ρ' x):HM ρ len lo hi=HM ρ' len lo hi:=by
 unfold HM;cases lo with
 |none=>cases hi with |none=>rfl |some y=>simp only[h2 y rfl]
 |some x=>cases hi with |none=>simp only[h1 x rfl] |some y=>simp only[h1 x rfl,h2 y rfl]
theorem o8 {op:Op}(hρ:∀x∈op.operands.toList,ρ x=ρ' x)(hh:∀i∈CX ρ op,hp i=hp' i):CB tab ρ hp id op=CB tab ρ' hp' id op:=by
 have key:F5 op=true->∀x∈op.operands.toList,∀i∈Au (ρ x),hp i=hp' i:=fun hl x hx i hi=>hh i (oy hl hx hi);have one1:∀x∈op.operands.toList,ρ x=ρ' x:=fun x hx=>hρ x hx;have one:F5 op=true->∀x∈op.operands.toList,ρ x=ρ' x/\∀i∈Au (ρ' x),hp i=hp' i:=fun hl x hx=>⟨hρ x hx,fun i hi=>key hl x hx i (by rw[hρ x hx];exact hi)⟩;clear key hh hρ
 cases op with
 |move x=>simp only[CB,(one1 x (by simp[Op.operands]))]
 |assign x=>simp only[CB,(one1 x (by simp[Op.operands]))]
 |pick x y z=>simp only[CB,(one1 x (by simp[Op.operands])),(one1 y (by simp[Op.operands])),(one1 z (by simp[Op.operands]))]
 |alloc T=>rfl
 |box T x=>simp only[CB,(one1 x (by simp[Op.operands]))]
 |build T ps=>
  simp only[CB];rw[fW (ρ:=ρ) (ρ':=ρ') (tab T).offs ps.toList _ fun p hp=>(one1 p.2 (by simp only[Op.operands,Oi];exact LH hp))]
 |load T x=>
  obtain⟨h1,h2⟩:=one rfl x (by simp[Op.operands]);simp only[CB,h1];cases hx:ρ' x with |pt i off=>simp only[h2 i (by simp[hx,Au])] |pr i v k off=>simp only[h2 i (by simp[hx,Au])] |d y b=>cases y<;>rfl |_=>rfl
 |store T x y=>
  obtain⟨h1,h2⟩:=one rfl x (by simp[Op.operands]);obtain⟨h3,h4⟩:=one rfl y (by simp[Op.operands]);simp only[CB,h1,h3];cases hx:ρ' x with
  |pt i off=>
   cases hc:De (ρ' y) with |none=>rfl |some xs=>simp only[h2 i (by simp[hx,Au])]
  |pr i v k off=>
   cases hc:De (ρ' y) with
   |none=>rfl
   |some xs=>
    have hl:∀i∈Ax xs,hp i=hp' i:=fun i hi=>h4 i (o5 hc i hi);simp only[h2 i (by simp[hx,Au]),Y0 (xs:=xs) hl];cases hd:DE hp' xs with
    |none=>
     cases hp' i with
     |none=>rfl
     |some o=>cases o with |rw es sz v br fz=>cases fz<;>rfl |_=>rfl
    |some p=>
     obtain⟨ds,b,is⟩:=p;have hfr:=Y9 (hp:=hp) (hp':=hp') (is:=is) fun i hi=>hl i (Y8 hd i hi);cases hp' i with
     |none=>rfl
     |some o=>cases o with
      |rw es sz v br fz=>
       cases fz
       ·dsimp only;rw[hfr]
       ·rfl
      |_=>rfl
  |_=>rfl
 |nilCheck x=>simp only[CB,(one1 x (by simp[Op.operands]))]
 |binOp op T x y T'=>
  obtain⟨h1,h2⟩:=one rfl x (by simp[Op.operands]);simp only[CB,h1,(one1 y (by simp[Op.operands]))];congr 1;unfold FJ;split
  ·rename_i i v o n e _;rw[h2 i (by simp[e,Au])]
  ·rfl
 |unOp op T x=>simp only[CB,(one1 x (by simp[Op.operands]))]
 |convert s t x=>
  obtain⟨h1,h2⟩:=one rfl x (by simp[Op.operands]);simp only[CB,h1]
 |fieldAddr T x f=>simp only[CB,(one1 x (by simp[Op.operands]))]
 |indexAddr T x i=>
  obtain⟨h1,h2⟩:=one rfl x (by simp[Op.operands]);simp only[CB,h1,(one1 i (by simp[Op.operands]))];cases hn:D8 (ρ' i) with
  |none=>
   cases hx:ρ' x with |d y b=>cases y<;>rfl |_=>rfl
  |some n=>
   cases hx:ρ' x with |so i v o n=>simp only[h2 i (by simp[hx,Au])] |d y b=>cases y<;>rfl |_=>rfl
 |index T x i=>simp only[CB,(one1 x (by simp[Op.operands])),(one1 i (by simp[Op.operands]))]
 |slice T x lo hi mx=>
  cases mx with
  |some m=>rfl
  |none=>
   obtain⟨h1,h2⟩:=one rfl x (by simp[Op.operands]);have hb:∀len,HM ρ len lo hi=HM ρ' len lo hi:=fun len=>o7 (fun y hy=>(one1 y (by simp only[Option.mem_def] at hy;subst hy;simp[Op.operands]))) fun y hy=>(one1 y (by simp only[Option.mem_def] at hy;subst hy;simp[Op.operands]));simp only[CB,h1,hb];cases hk:(tab T).kind with
   |slice=>
    cases hx:ρ' x with
    |so i v o n=>simp only[h2 i (by simp[hx,Au])]
    |d y b=>cases y<;>rfl
    |v y=>cases y with |slice a n c=>cases a<;>cases n<;>cases c<;>rfl |_=>rfl
    |_=>rfl
   |string=>
    cases hx:ρ' x with |v y=>cases y<;>rfl |_=>rfl
   |_=>rfl
 |extract x i=>simp only[CB,(one1 x (by simp[Op.operands]))]
 |makeFunc f first caps=>
  cases f with
  |func f=>
   have e:caps.toList.map ρ=caps.toList.map ρ':=Ni fun x hx=>(one1 x (by simp only[Op.operands,O1,Ls];exact .inr hx));simp only[CB,e]
  |_=>rfl
 |buildSlice T n ps=>
  have e:(ps.toList.map fun p=>ρ p.2)=ps.toList.map fun p=>ρ' p.2:=Ni fun p hp=>(one1 p.2 (by simp only[Op.operands,Oi];exact LH hp));have hl:∀i∈Ax (ps.toList.map fun p=>ρ' p.2),hp i=hp' i:=by
   intro i hi
   have:∀(l:List (Nat × Operand)),(∀p∈l,p∈ps.toList)->i∈Ax (l.map fun p=>ρ' p.2)->hp i=hp' i:=by
    intro l;induction l with
    |nil=>intro _ h;simp[Ax] at h
    |cons p r ih=>
     intro hl h;simp only[Lk,Ax,Ls] at h;rcases h with h |h
     ·exact(one rfl p.2 (by simp only[Op.operands,Oi];exact LH (hl p (by simp)))).2 i h
     exact ih (fun p hp=>hl p (by simp[hp])) h
   exact this ps.toList (fun _ h=>h) hi
  simp only[CB,e,Y7 hl];split
  ·cases hd:CT hp' (ps.toList.map fun p=>ρ' p.2) with
   |none=>rfl
   |some x=>
    obtain⟨ds,b,is⟩:=x;simp only[Y9 (hp:=hp) (hp':=hp') (is:=is) fun i hi=>hl i (fV hd i hi)]
  ·rfl
 |makeMap T r=>cases r<;>rfl
 |lookup T x k ok=>
  obtain⟨h1,h2⟩:=one rfl x (by simp[Op.operands]);simp only[CB,h1,(one1 k (by simp[Op.operands]))];cases hx:ρ' x with
  |mo i=>simp only[h2 i (by simp[hx,Au])]
  |d y b=>cases y<;>rfl
  |v y=>cases y with |map r=>cases r<;>rfl |_=>rfl
  |_=>rfl
 |mapUpdate T m k x=>
  obtain⟨h1,h2⟩:=one rfl m (by simp[Op.operands]);simp only[CB,h1,(one1 k (by simp[Op.operands])),(one1 x (by simp[Op.operands]))];cases hx:ρ' m with |mo i=>simp only[h2 i (by simp[hx,Au])] |_=>rfl
 |insert T m k x=>
  obtain⟨h1,h2⟩:=one rfl m (by simp[Op.operands]);simp only[CB,h1,(one1 k (by simp[Op.operands])),(one1 x (by simp[Op.operands]))];cases hx:ρ' m with |mo i=>simp only[h2 i (by simp[hx,Au])] |_=>rfl
 |mapEntry T m k=>
  obtain⟨h1,h2⟩:=one rfl m (by simp[Op.operands]);simp only[CB,h1,(one1 k (by simp[Op.operands]))];cases hx:ρ' m with |mo i=>simp only[h2 i (by simp[hx,Au])] |_=>rfl
 |entryStore T m st x=>
  obtain⟨h1,h2⟩:=one rfl m (by simp[Op.operands]);simp only[CB,h1,(one1 st (by simp[Op.operands])),(one1 x (by simp[Op.operands]))];cases hx:ρ' m with
  |mo i=>
   cases hn:D8 (ρ' st) with |none=>rfl |some j=>simp only[h2 i (by simp[hx,Au])]
  |_=>rfl
 |makeSlice T l c=>simp only[CB,(one1 l (by simp[Op.operands])),(one1 c (by simp[Op.operands]))]
 |call c=>
  obtain⟨callee,args,ty⟩:=c;cases callee with
  |builtin b=>
   have ha:∀x∈args.toList,ρ x=ρ' x/\∀i∈Au (ρ' x),hp i=hp' i:=fun x hx=>one rfl x (by simp[Op.operands,Call.operands] at hx⊢;exact hx);cases b with
   |min=>
    simp only[CB];split
    ·rename_i x y e1;rw[(ha x (by rw[e1];simp)).1,(ha y (by rw[e1];simp)).1]
    ·rfl
   |clear=>
    simp only[CB];split
    ·rename_i x T e1 e2;obtain⟨h1,h2⟩:=ha x (by rw[e1];simp);rw[h1];cases hx:ρ' x with
     |so i v o n=>simp only[h2 i (by simp[hx,Au])]
     |v y=>cases y with |slice a n c=>cases a<;>cases n<;>cases c<;>rfl |_=>rfl
     |_=>rfl
    ·rfl
   |len=>
    simp only[CB];split
    ·rename_i x T e1 e2;rw[(ha x (by rw[e1];simp)).1]
    ·rfl
   |cap=>
    simp only[CB];split
    ·rename_i x T e1 e2;rw[(ha x (by rw[e1];simp)).1]
    ·rfl
   |append=>
    simp only[CB];split
    ·rename_i x y T T' e1 e2;obtain⟨h1,h2⟩:=ha x (by rw[e1];simp);obtain⟨h3,h4⟩:=ha y (by rw[e1];simp);rw[h1,h3,o0 h4];cases hr:Fg hp' (ρ' y) with
     |none=>rfl
     |some r=>
      cases hx:ρ' x with
      |so i v o n=>simp only[h2 i (by simp[hx,Au])]
      |v y=>cases y with |slice a n c=>cases a<;>cases n<;>cases c<;>rfl |_=>rfl
      |_=>rfl
    ·rfl
   |_=>rfl
  |_=>rfl
 |_=>rfl
end
end
end Go.Proofs.YtnmkbmefohakmaaGreat.Ab
