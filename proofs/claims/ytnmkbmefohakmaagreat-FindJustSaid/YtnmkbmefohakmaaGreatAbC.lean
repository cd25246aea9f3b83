/-
 Regions, calls and code of the machine are the true ones.
-/
import Derived.Orders
import Derived.RangeFuncLeaves
import Derived.RangeFuncRecord
import Derived.Test.YtnmkbmefohakmaaGreatAbB
set_option linter.all false
namespace Go.Proofs.YtnmkbmefohakmaaGreat.Ab
variable {B i id n:Nat}{a a':Act}{c':Cf}{e:Exit}{g:Gh}{is:List Nat}{o:Oper}{ops:Array Oper}{s:St}{u:Value}{w':World}{x y:AV}
section
open Go.RowKit
inductive Ex where
 |normal |ret |exit (n:Nat)
def Ex.up:Ex->Exit
 | .normal=>.normal
 | .ret=>.ret
 | .exit n=>.exit n
def JK (P:Program)(f:FuncId):Prop:=∃b,P.funcs[f]? =some b/\(b.name== "runtime.NumGoroutine")=false/\b.body.isSome=true
def AM (P:Program)(f:FuncId)(ds:List D)(d:D)(l:Bool):Prop:=JK P f/\∀(w:World) (b:Nat->Prop) (h:Array Value),(∀k,b k->k<w.heap.size)->h.size=ds.length->(∀(j:Nat) (x:D),ds[j]? =some x->∃u,h[j]? =some u/\Dc w (fun k=>k<w.heap.size/\¬b k) x u)->Calls P f h w fun e w'=>∃u,e= .returned u/\(Below w.heap.size w w'/\w.drawn<=w'.drawn)/\RV w' (fun k=>k<w'.heap.size/\¬b k/\(l=true->w.heap.size<=k)) d u
def AT (P:Program)(f:FuncId)(vs:List AV)(hp:Hp)(nx:Nat)(R:AV->Hp->Nat->Prop):Prop:=JK P f/\∀(g:Gh) (c:Cf) (b:Array Value),c.hp=hp->(∀i,c.kn i->i<nx)->HR g c->b.size=vs.length->(∀(j:Nat) (x:AV),vs[j]? =some x->∃u,b[j]? =some u/\A6 g c x u)->Calls P f b c.w fun e w'=>∃u v c' d,e= .returned u/\R v c'.hp d/\c'.w=w'/\CR c c'/\HR g c'/\A6 g c' v u/\nx<=d/\∀i,c'.kn i->c.kn i\/(nx<=i/\i<d)
def Mm (P:Program)(f:AV)(vs:List AV)(hp:Hp)(nx:Nat)(K:AV->Hp->Nat->Prop):Prop:=
 match f with
 | .fn g j=>(∃k b is d h,C8 hp (vs++j)=some (k,b,is)/\AM P g k d h/\(is= []\/h=true)/\K (CI (!h&&b) d) hp nx)\/AT P g (vs++j) hp nx K
 |_=>False
def JL (P:Program)(tab:Nat->TI)(op:Op)(id:Nat)(s:St)(K:AV->Hp->Nat->Prop):Prop:=
 match op with
 | .call { callee:=.value f,args, .. }=>Mm P (ev s.fr f) (args.toList.map (ev s.fr)) s.hp s.nx K
 |op=>match Cc tab (ev s.fr) s.hp id op with
  |some (v,b)=>K v (CL b s.hp) s.nx
  |none=>False
def Gc (ops:Array Oper)(o:Oper)(s:St)(h no:Prop):Prop:=
 match o.guard with
 |none=>h
 |some (j,t)=>match (ops[j]?).bind (·.dst) with
  |none=>no
  |some d=>match s.fr d with
   | .v (.bool b)=>(b=t->h)/\(b= !t->no)
   | .tu []=>no
   |_=>False
def CM (d:Option Nat)(v:AV)(b:Fr):Fr:=match d with
 |some t=>upd t v b
 |none=>b
def WL (P:Program)(tab:Nat->TI)(ops:Array Oper)(b:Nat)(K:St->Prop):List Nat->St->Prop
 |[],s=>K s
 |i::r,s=>match ops[i]? with
  |none=>WL P tab ops b K r s
  |some o=>Gc ops o s (JL P tab o.op (b+i) s fun v hp d=>WL P tab ops b K r ⟨CM o.dst v s.fr,hp,d⟩) (WL P tab ops b K r ⟨CM o.dst (.tu []) s.fr,s.hp,s.nx⟩)
structure IL (s' s:St):Prop where
 fr:∀t,s'.fr t= .un\/s'.fr t=s.fr t
 hp:∀i,s'.hp i=none\/s'.hp i=s.hp i
 nx:s.nx<=s'.nx
mutual
def CZ (ρ:Nat->Option Nat):AV->Option AV
 | .pt i o=>(ρ i).map fun j=>.pt j o
 | .pr i v k o=>(ρ i).map fun j=>.pr j v k o
 | .so i v o n=>(ρ i).map fun j=>.so j v o n
 | .mo i=>(ρ i).map .mo
 | .ag d=>(EK ρ d).map .ag
 | .tu d=>(EK ρ d).map .tu
 | .fn f d=>(EK ρ d).map (.fn f)
 | .v x=>some (.v x)
 | .d x b=>some (.d x b)
 | .un=>some .un
def EK (ρ:Nat->Option Nat):List AV->Option (List AV)
 |[]=>some []
 |c::r=>match CZ ρ c,EK ρ r with
  |some d,some b=>some (d::b)
  |_,_=>none
end
def Er (ρ:Nat->Option Nat):List (Value × AV)->Option (List (Value × AV))
 |[]=>some []
 |(x,c)::r=>match CZ ρ c,Er ρ r with
  |some d,some b=>some ((x,d)::b)
  |_,_=>none
def Ce (ρ:Nat->Option Nat):AO->Option AO
 | .bx d=>(EK ρ d).map .bx
 | .rw b h v j k=>some (.rw b h v j k)
 | .mo b l=>(Er ρ b).map fun b=>.mo b l
structure Ren (n:Nat) (ρ:Nat->Option Nat) (s' s:St):Prop where
 old:∀i,i<n->ρ i=some i
 new:∀i j,n<=i->ρ i=some j->n<=j/\i<s'.nx
 inj:∀i i' j,ρ i=some j->ρ i'=some j->i=i'
 fr:∀t,s'.fr t= .un\/CZ ρ (s'.fr t)=some (s.fr t)
 hp:∀i o,s'.hp i=some o->∃j o',ρ i=some j/\Ce ρ o=some o'/\s.hp j=some o'
 nx:n<=s'.nx
inductive Je (hp hp':Hp):AV->AV->Prop
 |same (x:AV):Je hp hp' x x
 |dat (x:AV) (d:D) (b b':Bool) (is:List Nat) (h:Ci hp x=some (d,b,is)) (hb:b=true->b'=true) (hi:∀i∈is,∀o,hp' i=some o->o.fz=true):Je hp hp' x (.d d b')
inductive IM (hp hp':Hp):List AV->List AV->Prop
 |nil:IM hp hp' [] []
 |cons {x y:AV} {xs ys:List AV} (h:Je hp hp' x y) (hs:IM hp hp' xs ys):IM hp hp' (x::xs) (y::ys)
inductive Jf (hp hp':Hp):AV->AV->Prop
 |same (x:AV):Jf hp hp' x x
 |un (x:AV):Jf hp hp' x .un
 |ag {cs ds:List AV} (h:IM hp hp' cs ds):Jf hp hp' (.ag cs) (.ag ds)
 |dat (x:AV) (d:D) (b b':Bool) (is:List Nat) (h:FJ hp x=some (d,b,is)) (hb:b=true->b'=true) (hi:∀i∈is,∀o,hp' i=some o->o.fz=true):Jf hp hp' x (.d d b')
inductive Jg (hp hp':Hp):AO->AO->Prop
 |same (o:AO):Jg hp hp' o o
 |fz (es:List (List D)) (sz v:Nat) (br fz:Bool):Jg hp hp' (.rw es sz v br fz) (.rw es sz v br true)
 |bx {cs ds:List AV} (h:IM hp hp' cs ds):Jg hp hp' (.bx cs) (.bx ds)
structure gu (s' s:St):Prop where
 fr:∀t,Jf s.hp s'.hp (s.fr t) (s'.fr t)
 hp:∀i o',s'.hp i=some o'->∃o,s.hp i=some o/\Jg s.hp s'.hp o o'
 nx:s.nx<=s'.nx
inductive CE (n:Nat):St->St->Prop
 |weak {s' s:St} (h:IL s' s):CE n s' s
 |ren {s' s:St} (ρ:Nat->Option Nat) (h:Ren n ρ s' s):CE n s' s
 |dat {s' s:St} (h:gu s' s):CE n s' s
 |trans {s' m s:St} (h:CE n s' m) (h2:CE n m s):CE n s' s
def W (P:Program)(tab:Nat->TI):Code->(Ex->St->Prop)->St->Prop
 | .skip,Q,s=>Q .normal s
 | .label _,Q,s=>Q .normal s
 | .ret,Q,s=>Q .ret s
 | .exit n,Q,s=>Q (.exit n) s
 | .seq a b,Q,s=>W P tab a (fun e s'=>match e with | .normal=>W P tab b Q s' |e=>Q e s') s
 | .cond c a b,Q,s=>match ev s.fr c with
  | .v (.bool t)=>(t=true->W P tab a Q s)/\(t=false->W P tab b Q s)
  |_=>False
 | .block n a,Q,s=>W P tab a (fun e s'=>match e with | .exit m=>if m=n then Q .normal s' else Q (.exit m) s' |e=>Q e s') s
 | .region _ ops k,Q,s=>match k with
  |false=>WL P tab ops s.nx (Q .normal) (List.range ops.size) ⟨s.fr,s.hp,s.nx+ops.size⟩
  |true=>∀t,WL P tab ops s.nx (Q .normal) (Region.linearise .any ops t) ⟨s.fr,s.hp,s.nx+ops.size⟩
 | .loop a,Q,s=>∀X:St->Prop,(∀d,W P tab a (fun e s'=>match e with | .normal=>X s' |e=>Q e s') d->X d)->(∀h j,CE s.nx h j->X h->X j)->X s
 |_,_,_=>False
def Du (N:Nat):Code->Bool
 | .region _ ops _=>ops.all fun o=>match o.dst with |some d=>decide (d<N) |none=>true
 | .seq a b=>Du N a&&Du N b
 | .cond _ a b=>Du N a&&Du N b
 | .block _ a=>Du N a
 | .loop a=>Du N a
 | .rangeFunc _ h a b=>(h.all fun p=>decide (p<N))&&Du N a&&Du N b
 |_=>true
def Do (B:Nat):List Deferred->World->Prop
 |[],_=>True
 |d::b,w=>(∃r,B<=r/\d.target= .collected r/\w.heap[r]? =some (.deferred (some []))/\∀e∈b,e.target≠ .collected r)/\Do B b w
theorem Do.to {w:World}:∀ {b:List Deferred},(∀d∈b,∀r:Nat,d.target= .collected r->w.heap[r]? =some (.deferred (some []))->w'.heap[r]? =w.heap[r]?)->Do B b w->Do B b w'
 |[],_,_=>trivial
 |d::_,h,⟨⟨r,l,j,k,m⟩,p⟩=>⟨⟨r,l,j,(h d (Lp ..) r j k).trans k,m⟩,Do.to (fun e q=>h e (Lk _ q)) p⟩
theorem HR.not_mark {c:Cf}(h:HR g c){o:AO}(d:c.hp id=some o):c.w.heap[c.φ id]? ≠some (.deferred (some [])):=fun e=>by
 have:=h.obj id o d;cases o with
 |bx l=>have⟨T,vs,b,_⟩:=this;rw[b] at e;cases e
 |rw j m v p q=>have⟨_,_,T,vs,C,b,_⟩:=this;rw[b] at e;cases e
 |mo j r=>have⟨t,k,b,_⟩:=this;rw[b] at e;cases e
theorem Do.ext {c:Cf}{ds:List Deferred}(h:Do B ds c.w)(d:HR g c)(j:CR c c'):Do B ds c'.w:=
 h.to fun _ _ k _ b=>j.block k (LW.1 b).1 fun _ _ l _ e=>d.not_mark l (e▸b)
def XA (B:Nat)(ds:List Deferred)(w:World):Prop:=B<=w.heap.size/\Do B ds w
theorem XA.ext {c:Cf}{ds:List Deferred}(h:XA B ds c.w)(d:HR g c)(b:CR c c'):XA B ds c'.w:=⟨Lq h.1 b.size,h.2.ext d b⟩
structure EM (g:Gh) (s:St) (c:Cf) (a:Act) (N:Nat):Prop where
 hp:c.hp=s.hp
 hr:HR g c
 kn:∀i,c.kn i->i<s.nx
 fr:∀t,A6 g c (s.fr t) (a.tmps.getD t undef)
 size:a.tmps.size=N
 dfs:XA g.fb a.defers c.w
section
variable {P:Program}{tab:Nat->TI}{g:Gh}{N:Nat}
theorem P8 (c:Cf)(x:Value):A6 g c (KF x) x:=by
 unfold KF;split
 ·rename_i k;split
  ·rename_i h;refine⟨k,rfl,by simp,fun j y d=> ?_⟩;rw[Ln,La] at d;obtain⟨z,b,rfl⟩:=d;exact⟨z,by simpa using b,RA.v z (LP.1 h z (Ly b))⟩
  trivial
 ·trivial
 rename_i b l;refine RA.v x ?_;cases x<;>first |rfl |(exact absurd rfl (b _)) |(exact absurd rfl (l _))
theorem KI {c:Cf}(h:∀t,A6 g c (s.fr t) (a.tmps.getD t undef))(x:Operand):A6 g c (ev s.fr x) (a.eval x):=by
 cases x with
 |tmp t=>exact h t
 |const v=>exact P8 c v
 |func f=>
  have:=RA.fn (g:=g) (c:=c) f [] (fun _=>undef) 0 rfl (fun j x h=>by simp at h);exact this
 |global n=>trivial
theorem gv {c:Cf}(h:∀t,A6 g c (s.fr t) (a.tmps.getD t undef))(b:CR c c'){d:Option Nat}(j:∀t,d=some t->t<a.tmps.size){v:AV}(l:A6 g c' v u):
  ∀t,A6 g c' (CM d v s.fr t) ((a.put d u).tmps.getD t undef):=by
 intro t;cases d with
 |none=>exact(h t).ext b
 |some k=>
  simp only[CM,Act.put];by_cases e:t=k
  ·subst e
   have:=j t rfl;rw[At];simpa [Array.getD,this] using l
  rw[Aj _ _ e]
  have:(a.tmps.setIfInBounds k u).getD t undef=a.tmps.getD t undef:=by
   simp only[LJ];rw[By (fun m=>e m.symm)]
  rw[this];exact(h t).ext b
theorem gw (a:Act)(d:Option Nat)(u:Value):(a.put d u).tmps.size=a.tmps.size:=by cases d<;>simp[Act.put]
theorem Zz (a:Act)(d:Option Nat)(u:Value):(a.put d u).defers=a.defers:=by cases d<;>rfl
theorem Z2 {f:Operand}{d:Array Operand}{j:Array TypeId}(l:o.op= .call { callee:=.value f,args:=d,argTypes:=j }){k:FuncId}(m:JK P k){h:Array Value}(p:a.eval f= .func (.func k) #[] h)(w:World):
  (execOp a.eval o).run P w= .ok (.enter k (d.map a.eval++h)) w:=by
 have⟨q,r,t,v⟩:=m;have⟨b,z⟩:=NG.1 v;have A:¬q.name= "runtime.NumGoroutine" :=by simpa using t
 unfold execOp;simp[l,resolve,p,Deferred.ofValue,invoke,callFunc,program,Sem.run,r,A,z]
theorem XB {b:Array Value}{xs:List AV}{R:AV->Value->Prop}(h:∀(j:Nat) (x:AV),xs[j]? =some x->∃u,b[j]? =some u/\R x u):∀(j:Nat) (x:AV),xs[j]? =some x->R x (b.getD j undef):=by
 intro j x d;have⟨u,k,l⟩:=h j x d;rw[LJ,k];exact l
theorem Z3 {c:Cf}(h:∀t,A6 g c (s.fr t) (a.tmps.getD t undef))(b:Array Operand){k:List AV}{l:Nat->Value}(q:k.length=n)(r:∀(j:Nat) (x:AV),k[j]? =some x->RA g c x (l j)):
  (b.map a.eval++Array.ofFn (n:=n) fun j=>l j).size=(b.toList.map (ev s.fr)++k).length/\∀(j:Nat) (x:AV),(b.toList.map (ev s.fr)++k)[j]? =some x->∃u,(b.map a.eval++Array.ofFn (n:=n) fun j=>l j)[j]? =some u/\A6 g c x u:=by
 refine⟨by simp[q],fun j x d=> ?_⟩;by_cases m:j<b.size
 ·rw[NK (by simpa using m),Ln,La] at d;obtain⟨y,p,rfl⟩:=d;refine⟨a.eval y,?_,KI h y⟩;rw[NJ (by simpa using m),B8];rw[NQ] at p;rw[p];rfl
 rw[Nn (by simp;omega)] at d;simp only[Lt,NM] at d;have v:=(Lb.1 d).1;refine⟨l (j-b.size),?_,(r _ _ d).toAt⟩;rw[Bl (by simp;omega),LC (by simp;omega)];simp
theorem XC {b:Array Value}{j:Nat}(h:j<b.size):b[j]? =some (b.getD j undef):=by simp[Array.getD,h]
theorem gx {c:Cf}(l:EM g s c a N){f:Operand}{E:Array Operand}{ty:Array TypeId}(q:o.op= .call { callee:=.value f,args:=E,argTypes:=ty }){k:FuncId}{J:List AV}(L:ev s.fr f= .fn k J)
  {ds:List D} {b:Bool}  {d:D} {w:Bool} (V:C8 s.hp (E.toList.map (ev s.fr)++J)=some (ds,b,is)) (hp:AM P k ds d w) (r:is= []\/w=true) {K:Value->World->Prop}
  (h:∀u c',c'.hp=c.hp->c'.kn=c.kn->CR c c'->HR g c'->A6 g c' (CI (!w&&b) d) u->K u c'.w):
  ∃t,(execOp a.eval o).run P c.w= .ok (.enter k t) c.w/\Calls P k t c.w fun e w'=>∃u,e= .returned u/\K u w':=by
 have M:=KI l.fr f;rw[L] at M;generalize hF:a.eval f=fv at M;cases(show RA g c (.fn k J) fv from M) with
 |fn _ _ us n O aa=>
  have⟨ab,X⟩:=Z3 l.fr E O aa;refine⟨_,Z2 q hp.1 hF c.w,?_⟩;generalize (E.map a.eval++Array.ofFn (n:=n) fun j=>us j)=t at ab X;have⟨_,hp⟩:=hp;have Y:∀(I:Nat->Prop),(∀k,Im g c b k->I k)->(∀i∈is,I (c.φ i))->t.size=ds.length/\∀(j:Nat) (x:D),ds[j]? =some x->∃u,t[j]? =some u/\Dc c.w I x u:=by
   intro I F z;have⟨g1,g2⟩:=T9 l.hr l.hp I (fun j=>t.getD j undef) V (XB X) F z;refine⟨by omega,fun j x hj=>⟨_,XC (by have:=(Lb.1 hj).1;omega),(g2 j x hj).1⟩⟩
  have Z:∀(I:Nat->Prop) (u:Value) (w':World),Below c.w.heap.size c.w w'/\c.w.drawn<=w'.drawn->RV w' I d u->(∀k,I k->k<w'.heap.size/\(c.w.heap.size<=k\/Im g c (!w&&b) k))->K u w':=by
   intro I u w' ⟨p,ad⟩ G hI;have A:CR c ⟨c.hp,c.φ,w',c.kn⟩:=⟨p.os,p.tape,p.output,p.size,fun _ h=>h,fun k m _=>p.block k m,fun id o q L=>.inr ⟨o,q,L,rfl⟩,fun _ _ h=>⟨rfl,h⟩,
    fun id H _ v br fz m hr=>⟨H,v,br,fz,hr,Lc _,fun _=>⟨rfl,rfl,fun ak _ e=>⟨ak,(p.block _ (l.hr.dom id _ hr).2.2).trans e,rfl⟩⟩⟩,ad⟩
   have ao:HR g ⟨c.hp,c.φ,w',c.kn⟩:=⟨Lq l.hr.le p.size,fun k m=>LF (l.hr.m0 k m) p.size,fun id o q=>⟨(l.hr.dom id o q).1,(l.hr.dom id o q).2.1,LF (l.hr.dom id o q).2.2 p.size⟩,l.hr.inj,fun id o q=>(l.hr.obj id o q).ext A rfl (p.block _ (l.hr.dom id o q).2.2)⟩;refine h u ⟨c.hp,c.φ,w',c.kn⟩ rfl rfl A ao ?_;have C:RV w' (Im g ⟨c.hp,c.φ,w',c.kn⟩ (!w&&b)) d u:=G.mono (fun _ _=>rfl) fun k m=>by
    have⟨F,z⟩:=hI k m;rcases z with z |z
    ·refine⟨F,fun hm=> ?_,fun id o q _ e=> ?_,fun _=>Lq l.hr.le z⟩
     ·have:=l.hr.m0 k hm
      have:=l.hr.le;omega
     have:=(l.hr.dom id o q).2.2;simp only at e;omega
    exact z.ext A
   cases d with |v x=>exact(RC.toRA (c:=⟨c.hp,c.φ,w',c.kn⟩) C).toAt |sl H=>exact(RC.toRA (c:=⟨c.hp,c.φ,w',c.kn⟩) C).toAt |pt cs aE=>exact(RC.toRA (c:=⟨c.hp,c.φ,w',c.kn⟩) C).toAt |mp H=>exact(RC.toRA (c:=⟨c.hp,c.φ,w',c.kn⟩) C).toAt |ag cs=>exact C |tu cs=>exact C
  by_cases S:w=true
  ·subst S;have⟨T,U⟩:=Y (fun k=>k<c.w.heap.size/\¬False) (fun k m=>⟨m.1,fun h=>h⟩) (fun i r=>by
    have⟨H,sz,v,br,fz,F⟩:=UA V i r;exact⟨(l.hr.dom i _ (l.hp▸F)).2.2,fun h=>h⟩)
   refine(hp c.w (fun _=>False) t (fun _ h=>h.elim) T U).mono fun e w' ⟨u,A,p,G⟩=>⟨u,A,Z _ u w' p G fun k m=>⟨m.1,.inl (m.2.2 rfl)⟩⟩
  have h0:is= []:=by
   rcases r with r |r
   ·exact r
   exact absurd r S
  subst h0;have aq:w=false:=by simpa using S
  subst aq;have⟨T,U⟩:=Y (fun k=>k<c.w.heap.size/\¬(k<c.w.heap.size/\¬Im g c b k)) (fun k m=>⟨m.1,fun h=>h.2 m⟩) (fun i r=>by simp at r);refine(hp c.w (fun k=>k<c.w.heap.size/\¬Im g c b k) t (fun _ h=>h.1) T U).mono fun e w' ⟨u,A,p,G⟩=>⟨u,A,Z _ u w' p G fun k m=>⟨m.1,?_⟩⟩;by_cases av:k<c.w.heap.size
  ·refine .inr ?_
   have:Im g c b k:=B6 fun O=>m.2.1 ⟨av,O⟩
   simpa using this
  exact .inl (by omega)
end
end
variable {Q:Ex->St->Prop}{R:AV->Hp->Nat->Prop}{f:FuncId}{hp:Hp}{vs:List AV}
section
open Go.RowKit
section
variable {P:Program}{tab:Nat->TI}{g:Gh}{N:Nat}
theorem gy {c:Cf}{w no:Prop}(z:EM g s c a N)(h:Gc ops o s w no):(Region.wanted o (yielded ops a.tmps)=true/\w)\/(Region.wanted o (yielded ops a.tmps)=false/\no):=by
 unfold Gc at h;unfold Region.wanted;split at h
 ·rename_i e;rw[e];exact .inl ⟨rfl,h⟩
 rename_i j t e;rw[e];split at h
 ·rename_i l;refine .inr ⟨?_,h⟩;simp[yielded,l]
 rename_i d l;split at h
 ·rename_i b v;have m:=z.fr d;rw[v] at m;have k:=m.v.1;have q:a.tmps[d]? =some (.bool b):=by
   rw[LJ] at k;cases r:a.tmps[d]? with |none=>rw[r] at k;cases k |some x=>rw[r] at k;simp only[Nw] at k;rw[k]
  by_cases p:b=t
  ·refine .inl ⟨?_,h.1 p⟩;simp[yielded,l,q,p]
  refine .inr ⟨?_,h.2 (by cases b<;>cases t<;>simp_all)⟩;simp[yielded,l,q,p]
 ·rename_i v;have m:=z.fr d;rw[v] at m;have⟨vs,k,_,_⟩:=m;refine .inr ⟨?_,h⟩;have q:∀b,a.tmps[d]? ≠some (.bool b):=fun b p=>by
   rw[LJ,p] at k;cases k
  simp only[yielded,l,LR];cases r:a.tmps[d]? with
  |none=>rfl
  |some x=>
   cases x with |bool b=>exact absurd r (q b) |_=>rfl
 exact h.elim
theorem XD (c:Cf):A6 g c (.tu []) undef:=⟨#[],rfl,rfl,fun j x h=>by simp at h⟩
theorem Z4 (O:Ad P tab){ops:Array Oper}{r:Nat}{K:St->Prop}{Q:Exit->Act->World->Prop}(S:∀(i:Nat) (o:Oper) (d:Nat),ops[i]? =some o->o.dst=some d->d<N):
  ∀(l:List Nat) (s:St) (c:Cf) (a:Act),l.Nodup->(∀i∈l,i<ops.size)->WL P tab ops r K l s->EM g s c a N->(∀j,c.kn j->∀i∈l,j≠r+i)->r+ops.size<=s.nx->
   (∀s' c' a',K s'->EM g s' c' a' N->CR c c'->s.nx<=s'.nx->(∀i,c'.kn i->c.kn i\/r<=i)->a'.defers=a.defers->Q .normal a' c'.w)->wpOps P ops Q l a c.w
 |[],s,c,a,_,_,h,m,_,_,J=>J s c a h m (CR.refl c) (Lc _) (fun _ h=>.inl h) rfl
 |i::l,s,c,a,hn,T,h,m,U,ab,J=>by
  have⟨aq,ad⟩:=Nj.1 hn;unfold WL at h;unfold wpOps;cases L:ops[i]? with
  |none=>
   rw[L] at h;exact Z4 O S l s c a ad (fun i C=>T i (Lk _ C)) h m (fun j p i C=>U j p i (Lk _ C)) ab J
  |some o=>
   rw[L] at h;have bo:i<ops.size:=(LW.1 L).1;have av:∀t,o.dst=some t->t<a.tmps.size:=fun t e=>(by rw[m.size];exact S i o t L e);have aE:¬c.kn (r+i):=fun V=>U _ V i (Lp ..) rfl;have M:∀(c':Cf) (v:AV) (u:Value) (hp':Hp) (A:Nat),c'.hp=hp'->HR g c'->CR c c'->A6 g c' v u->s.nx<=A->(∀j,c'.kn j->c.kn j\/j=r+i\/(s.nx<=j/\j<A))->WL P tab ops r K l ⟨CM o.dst v s.fr,hp',A⟩->wpOps P ops Q l (a.put o.dst u) c'.w:=by
    intro c' v u hp' A E F w G z H h7;refine Z4 O S l _ c' _ ad (fun i C=>T i (Lk _ C)) h7 ⟨E,F,fun j p=> ?_,gv m.fr w av G,by rw[gw];exact m.size,by rw[Zz];exact m.dfs.ext m.hr w⟩ (fun j p X Y=> ?_) (Lq ab z) fun s' a0 a' k1 k2 k3 k4 k5 k6=>
     J s' a0 a' k1 k2 (w.trans k3) (Lq z k4) (fun j p=> ?_) (by rw[k6,Zz])
    ·have:=m.kn j;rcases H j p with q |q |q
     ·exact LF (m.kn j q) z
     ·simp only;omega
     exact q.2
    ·rcases H j p with q |q |q
     ·exact U j q X (Lk _ Y)
     ·intro e
      have:X=i:=(by omega);subst this;exact aq Y
     intro e
     have:=T X (Lk _ Y);omega
    rcases k5 j p with q |q
    ·rcases H j q with h9 |h9 |h9
     ·exact .inl h9
     ·exact .inr (by omega)
     exact .inr (by omega)
    exact .inr q
   rcases gy m h with⟨hw,h⟩ |⟨hw,h⟩;rotate_left
   ·simp only[hw,Nb,if_false];refine M c (.tu []) undef s.hp s.nx m.hp m.hr (CR.refl c) (XD c) (Lc _) (fun j p=>.inl p) h
   simp only[hw,if_true];left;unfold JL at h;split at h
   ·rename_i f Z ag a1;have ak:o.op= .call { callee:=.value f,args:=Z,argTypes:=ag }:=a1;unfold Mm at h;split at h
    ·rename_i k a2 hf;rcases h with⟨ds,b,is,d,fr,E,F,w,G⟩ |h
     ·have⟨br,z,H⟩:=gx (K:=fun u w'=>wpOps P ops Q l (a.put o.dst u) w') m ak hf E F w fun u c' e1 e2 e3 e4 e5=>
       M c' _ u s.hp s.nx (e1.trans m.hp) e4 e3 e5 (Lc _) (fun j p=>.inl (by rw[e2] at p;exact p)) G
      unfold Oper.wp;rw[z,Oper.upon_enter];exact H.mono fun e w' ⟨u,he,V⟩=>by rw[he];exact V
     have⟨a3,a4⟩:=h;have aa:=KI m.fr f;rw[hf] at aa;generalize hF:a.eval f=fv at aa;cases(show RA g c (.fn k a2) fv from aa) with
     |fn _ _ us n a5 a6=>
      have⟨a9,ba⟩:=Z3 m.fr Z a5 a6;unfold Oper.wp;rw[Z2 ak a3 hF c.w,Oper.upon_enter];refine(a4 g c _ m.hp m.kn m.hr a9 ba).mono fun e w' ⟨u,v,c',A,he,hR,bb,E,F,w,G,z⟩=> ?_;rw[he,<-bb];exact M c' v u c'.hp A rfl F E w G (fun j p=>(z j p).imp_right .inr) hR
    exact h.elim
   split at h
   ·rename_i v δ hv;rw[<-m.hp] at hv;have⟨bd,u,w',I,be,bg,bl⟩:=gt (o:=o) (a:=a) m.hr O (fun x=>KI m.fr x) aE hv;have ao:=M ⟨CL δ c.hp,bd,w',fun k=>c.kn k\/k=r+i⟩ v u (CL δ s.hp) s.nx (by rw[m.hp]) bg be bl (Lc _) (fun j p=>p.imp_right .inl) h;unfold Oper.wp;rcases I with I |⟨I,hu⟩
    ·rw[I];exact ao
    rw[I,Oper.upon_skip,<-hu];exact ao
   exact h.elim
theorem rS (m:Region.Mode)(ops:Array Oper):∀(d t:Nat) (b:Array Bool),b.size=ops.size->
  (Region.linearise.go m ops d t b []).Nodup/\∀i∈Region.linearise.go m ops d t b [],i<ops.size/\b[i]? =some false:=by
 intro d;induction d with
 |zero=>intro t b _;simp[Region.linearise.go]
 |succ d v=>
  intro t b w;simp only[Region.linearise.go];split
  ·rename_i i z;rw[linearise_go_acc,OQ,OT];have p:=Ly z;simp only[LO,N3,Lm,NN] at p;obtain⟨A,k,_⟩:=p;have q:b[i]? =some false:=by
    rw[LJ] at k;rw[LC (by omega)] at k⊢;simpa using k
   obtain⟨C,r⟩:=v (t / _) (b.setIfInBounds i true) (by simpa using w);refine⟨Nj.2 ⟨fun E=> ?_,C⟩,fun j l=> ?_⟩
   ·obtain⟨_,h⟩:=r i E;rw[BU (by omega)] at h;cases h
   rcases Lv.1 l with rfl |l
   ·exact⟨A,q⟩
   obtain⟨h,F⟩:=r j l;refine⟨h,?_⟩;by_cases e:i=j
   ·subst e;exact q
   rwa [By e] at F
  simp
theorem P9 (ops:Array Oper)(t:Nat):(Region.linearise .any ops t).Nodup/\∀i∈Region.linearise .any ops t,i<ops.size:=by
 have⟨b,d⟩:=rS .any ops ops.size t (Array.replicate ops.size false) (by simp);exact⟨b,fun i h=>(d i h).1⟩
theorem CR.world {c:Cf}(b:HR g c)(d:w'.heap=c.w.heap)(m:w'.os=c.w.os)(p:w'.tape=c.w.tape)(q:w'.output=c.w.output)(r:c.w.drawn<=w'.drawn:=by first |exact Lc _ |exact Bj _):CR c ⟨c.hp,c.φ,w',c.kn⟩/\HR g ⟨c.hp,c.φ,w',c.kn⟩:=by
 have l:CR c ⟨c.hp,c.φ,w',c.kn⟩:=⟨m,p,q,by simp only[d];exact Lc _,fun _ h=>h,fun k _ _=>by simp only[d],fun id o j t=>.inr ⟨o,j,t,rfl⟩,fun _ _ h=>⟨rfl,h⟩,
  fun id w _ v z A _ h=>⟨w,v,z,A,h,Lc _,fun _=>⟨rfl,rfl,fun C _ e=>⟨C,by simp only[d];exact e,rfl⟩⟩⟩,r⟩
 exact⟨l,⟨by simp only[d];exact b.le,fun k E=>by simp only[d];exact b.m0 k E,fun id o j=>⟨(b.dom id o j).1,(b.dom id o j).2.1,by simp only[d];exact(b.dom id o j).2.2⟩,b.inj,fun id o j=>(b.obj id o j).ext l rfl (by simp only[d])⟩⟩
theorem CR.less {c:Cf}(k:HR g c){hp':Hp}(q:∀i,hp' i=none\/hp' i=c.hp i):CR c ⟨hp',c.φ,c.w,c.kn⟩/\HR g ⟨hp',c.φ,c.w,c.kn⟩:=by
 have b:∀i o,hp' i=some o->c.hp i=some o:=fun i o h=>by
  rcases q i with l |l
  ·rw[l] at h;cases h
  rw[<-l];exact h
 have m:CR c ⟨hp',c.φ,c.w,c.kn⟩:=⟨rfl,rfl,rfl,Lc _,fun _ h=>h,fun _ _ _=>rfl,fun id o d r=>.inr ⟨o,b id o d,r,rfl⟩,fun id _ h=>⟨rfl,fun o d=>h o (b id o d)⟩,
  fun id t _ v w z _ h=>⟨t,v,w,z,b id _ h,Lc _,fun _=>⟨rfl,rfl,fun A _ e=>⟨A,e,rfl⟩⟩⟩,Lc _⟩
 exact⟨m,⟨k.le,k.m0,fun id o d=>k.dom id o (b id o d),fun i j o p C E=>k.inj i j o p (b i o C) (b j p E),fun id o d=>(k.obj id o (b id o d)).ext m rfl rfl⟩⟩
theorem EM.weak {s':St}{c:Cf}(b:EM g s c a N)(d:IL s' s):∃c',EM g s' c' a N/\c'.w=c.w/\CR c c'/\c'.kn=c.kn:=by
 have⟨j,k⟩:=CR.less b.hr (hp':=s'.hp) fun i=>by rw[b.hp];exact d.hp i
 refine⟨_,⟨rfl,k,fun i l=>LF (b.kn i l) d.nx,fun t=> ?_,b.size,b.dfs⟩,rfl,j,rfl⟩;rcases d.fr t with h |h
 ·rw[h];trivial
 rw[h];exact(b.fr t).ext j
def Dl (g:Gh)(N:Nat)(Q:Ex->St->Prop)(nx:Nat)(c:Cf)(e:Exit)(a':Act)(w':World):Prop:=∃b s' c',e=b.up/\Q b s'/\EM g s' c' a' N/\c'.w=w'/\CR c c'/\nx<=s'.nx/\∀i,c'.kn i->c.kn i\/nx<=i
theorem Dl.mono {d:Ex->St->Prop}{nx:Nat}{c:Cf}(h:Dl g N Q nx c e a' w')(j:∀b s,Q b s->d b s):Dl g N d nx c e a' w':=by
 have⟨b,s',c',k,l,m⟩:=h;exact⟨b,s',c',k,j b s' l,m⟩
theorem Dl.after {nx nx':Nat}{c:Cf}(h:Dl g N Q nx' c' e a' w')(j:CR c c')(d:nx<=nx')(k:∀i,c'.kn i->c.kn i\/nx<=i):Dl g N Q nx c e a' w':=by
 have⟨l,s',m,p,q,r,t,v,w,z⟩:=h;refine⟨l,s',m,p,q,r,t,j.trans v,Lq d w,fun i A=> ?_⟩;rcases z i A with b |b
 ·exact k i b
 exact .inr (Lq d b)
structure Fi (n:Nat) (c c':Cf):Prop where
 os:c'.w.os=c.w.os
 tape:c'.w.tape=c.w.tape
 output:c'.w.output=c.w.output
 size:c.w.heap.size<=c'.w.heap.size
 kn:∀id,id<n->c.kn id->c'.kn id
 block:∀k,k<c.w.heap.size->(∀id o,c.hp id=some o->o.fz=false->c.φ id≠k)->c'.w.heap[k]? =c.w.heap[k]?
 muts:∀id o',c'.hp id=some o'->o'.fz=false->c.w.heap.size<=c'.φ id\/∃id0 o,(id0=id\/(n<=id0/\n<=id))/\c.hp id0=some o/\o.fz=false/\c'.φ id=c.φ id0
 keep:∀id,id<n->c.kn id->(∀o,c.hp id=some o->o.isRw=false)->c'.φ id=c.φ id/\∀o',c'.hp id=some o'->o'.isRw=false
 rows:∀id es' sz v' br' fz',id<n->c.kn id->c'.hp id=some (.rw es' sz v' br' fz')->∃es v br fz,c.hp id=some (.rw es sz v br fz)/\v<=v'/\
  (v=v'->c'.φ id=c.φ id/\es.length=es'.length/\∀cur T,c.w.heap[c.φ id]? =some (.cells cur T (0,0))->∃cur',c'.w.heap[c.φ id]? =some (.cells cur' T (0,0))/\cur'.size=cur.size)
 drawn:c.w.drawn<=c'.w.drawn
theorem CR.toR {c:Cf}(h:CR c c'):Fi n c c':=
 ⟨h.os,h.tape,h.output,h.size,fun i _ b=>h.kn i b,h.block,fun id d j k=>(h.muts id d j k).imp_right fun⟨o,e⟩=>⟨id,o,.inl rfl,e⟩,fun i _=>h.keep i,fun i l m v p q _=>h.rows i l m v p q,h.drawn⟩
theorem Fi.toE {c:Cf}(h:Fi n c c')(l:HR g c)(d:∀i,c.kn i->i<n):CR c c':=by
 refine⟨h.os,h.tape,h.output,h.size,fun i b=>h.kn i (d i b) b,h.block,fun id m p q=>(h.muts id m p q).imp_right ?_,fun i b=>h.keep i (d i b) b,fun i r t v w z b=>h.rows i r t v w z (d i b) b,h.drawn⟩;rintro⟨j,o,e |⟨e,_⟩,k,A⟩
 ·subst e;exact⟨o,k,A⟩
 have:=d j (l.dom j o k).1;omega
theorem Fi.trans {a b c:Cf}(h:Fi n a b)(k:Fi n b c):Fi n a c:=by
 refine⟨k.os.trans h.os,k.tape.trans h.tape,k.output.trans h.output,Lq h.size k.size,fun i j K=>k.kn i j (h.kn i j K),?_,?_,?_,?_,Lq h.drawn k.drawn⟩
 ·intro x G H;refine(k.block x (LF G h.size) fun id o t w=> ?_).trans (h.block x G H);rcases h.muts id o t w with l |⟨z,A,_,l,q,p⟩
  ·omega
  rw[p];exact H z A l q
 ·intro id L t w;rcases k.muts id L t w with l |⟨z,A,d,l,q,p⟩
  ·exact .inl (Lq h.size l)
  rcases h.muts z A l q with r |⟨M,O,m,r,C,E⟩
  ·exact .inl (by rw[p];exact r)
  refine .inr ⟨M,O,?_,r,C,p.trans E⟩;rcases d with d |d<;>rcases m with m |m
  ·exact .inl (m.trans d)
  ·exact .inr ⟨m.1,d▸m.2⟩
  ·exact .inr ⟨m▸d.1,d.2⟩
  exact .inr ⟨m.1,d.2⟩
 ·intro id j v t;have⟨l,q⟩:=h.keep id j v t;have⟨p,r⟩:=k.keep id j (h.kn _ j v) q;exact⟨p.trans l,r⟩
 intro id S I U V X j v hr;have⟨Y,v1,Z,aa,l,q,p⟩:=k.rows id S I U V X j (h.kn _ j v) hr;have⟨ab,v0,ad,ag,r,C,E⟩:=h.rows id Y I v1 Z aa j v l;refine⟨ab,v0,ad,ag,r,Lq C q,fun e=> ?_⟩;have⟨g1,g2,g3⟩:=p (by omega);have⟨F,g5,g6⟩:=E (by omega);refine⟨g1.trans F,g5.trans g2,fun ak T hc=> ?_⟩;have⟨ao,d,m⟩:=g6 ak T hc;rw[<-F] at d;have⟨aq,J,e4⟩:=g3 ao T d;rw[F] at J;exact⟨aq,J,e4.trans m⟩
theorem XE {ρ:Nat->Option Nat}{o o':AO}(h:Ce ρ o=some o'):o'.fz=o.fz/\o'.isRw=o.isRw:=by
 cases o with
 |bx d=>simp only[Ce,La] at h;obtain⟨_,_,rfl⟩:=h;exact⟨rfl,rfl⟩
 |rw b j v k l=>simp only[Ce,Lg] at h;subst h;exact⟨rfl,rfl⟩
 |mo b m=>simp only[Ce,La] at h;obtain⟨_,_,rfl⟩:=h;exact⟨rfl,rfl⟩
theorem UG {ρ:Nat->Option Nat}:∀ {k b:List AV},EK ρ k=some b->k.length=b.length/\∀(j:Nat) (x:AV),k[j]? =some x->∃y,b[j]? =some y/\CZ ρ x=some y
 |[],b,h=>by simp only[EK,Lg] at h;subst h;exact⟨rfl,fun j x h=>by simp at h⟩
 |c::r,b,h=>by
  simp only[EK] at h;split at h
  ·rename_i d v m p;simp only[Lg] at h;subst h;have⟨q,t⟩:=UG p;refine⟨by simp[q],fun j x l=> ?_⟩;cases j with |zero=>simp only[Nc,Lg] at l;subst l;exact⟨d,rfl,m⟩ |succ j=>exact t j x (by simpa using l)
  cases h
theorem gz {ρ:Nat->Option Nat}:∀ {l b:List (Value × AV)},Er ρ l=some b->l.length=b.length/\∀(j:Nat) (k:Value) (x:AV),l[j]? =some (k,x)->∃y,b[j]? =some (k,y)/\CZ ρ x=some y
 |[],b,h=>by simp only[Er,Lg] at h;subst h;exact⟨rfl,fun j k x h=>by simp at h⟩
 |(w,c)::r,b,h=>by
  simp only[Er] at h;split at h
  ·rename_i d z p q;simp only[Lg] at h;subst h;have⟨t,v⟩:=gz q;refine⟨by simp[t],fun j k x m=> ?_⟩;cases j with
   |zero=>simp only[Nc,Lg,LE] at m;obtain⟨rfl,rfl⟩:=m;exact⟨d,rfl,p⟩
   |succ j=>exact v j k x (by simpa using m)
  cases h
section
variable {n:Nat}{ρ:Nat->Option Nat}{c c':Cf}{s s':St}
structure QA (ρ:Nat->Option Nat) (c c':Cf):Prop where
 w:c'.w=c.w
 kn:∀i j,ρ i=some j->c.kn j->c'.kn i
 φ:∀i j,ρ i=some j->c'.φ i=c.φ j
 hp:∀i o,c'.hp i=some o->∃j o',ρ i=some j/\Ce ρ o=some o'/\c.hp j=some o'
theorem Im.ren (h:QA ρ c c'){b:Bool}{k:Nat}(d:Im g c b k):Im g c' b k:=by
 have⟨l,m,p,q⟩:=d;refine⟨by rw[h.w];exact l,m,fun id o r t=> ?_,q⟩;have⟨j,v,w,z,A⟩:=h.hp id o r;rw[h.φ id j w];exact p j v A (by rw[(XE z).1];exact t)
theorem RC.ren (h:QA ρ c c'){b:Bool}{d:D}(j:RC c.w (Im g c b) d u):RC c'.w (Im g c' b) d u:=j.mono (fun _ _=>by rw[h.w]) fun _ k=>k.ren h
theorem RA.ren (h:QA ρ c c')(z:RA g c y u):∀ {x:AV},CZ ρ x=some y->RA g c' x u:=by
 have F:∀i j,ρ i=some j->(∀o,c.hp j=some o->o.isRw=false)->∀o,c'.hp i=some o->o.isRw=false:=fun i j e A o l=>by
  have⟨J,G,k,C,E⟩:=h.hp i o l;rw[e] at k;cases k;rw[<-(XE C).2];exact A G E
 have H:∀i j,ρ i=some j->∀m p v q r,c'.hp i=some (.rw m p v q r)->c.hp j=some (.rw m p v q r):=fun i j e m p v q r l=>by
  have⟨J,G,k,C,E⟩:=h.hp i _ l;rw[e] at k;cases k;simp only[Ce,Lg] at C;subst C;exact E
 induction z with
 |v x K=>
  intro y e;cases y<;>simp[CZ,La] at e;subst e;exact .v _ K
 |d x b u l=>
  intro y e;cases y<;>simp[CZ,La] at e;obtain⟨rfl,rfl⟩:=e;exact .d _ _ u (l.ren h)
 |pt id I w A=>
  intro y e;cases y<;>simp[CZ,La] at e;rename_i i o;obtain⟨_,k,rfl,rfl⟩:=e;rw[<-h.φ i _ k];exact .pt i _ (h.kn i _ k w) (F i _ k A)
 |mo id w A=>
  intro y e;cases y<;>simp[CZ,La] at e;rename_i i;rw[<-h.φ i id e];exact .mo i (h.kn i id e w) (F i id e A)
 |pr id L i I u w hp l=>
  intro y e;cases y<;>simp[CZ,La] at e;rename_i t _ _ _;obtain⟨_,k,rfl,rfl,rfl,rfl⟩:=e;refine .pr t _ _ _ u (h.kn t _ k w) hp fun m p v q r z=> ?_;rw[h.φ t _ k];exact l m p v q r (H t _ k m p v q r z)
 |so id L I X u w hp l=>
  intro y e;cases y<;>simp[CZ,La] at e;rename_i t _ _ _;obtain⟨_,k,rfl,rfl,rfl,rfl⟩:=e;refine .so t _ _ _ u (h.kn t _ k w) hp fun m p v q r z=> ?_;rw[h.φ t _ k,h.w];exact l m p v q r (H t _ k m p v q r z)
 |fn f Y M n w l O=>
  intro y e;cases y<;>simp[CZ,La] at e;obtain⟨k,rfl⟩:=e;have⟨Z,S⟩:=UG k;refine .fn _ _ M n (by omega) fun j x T=> ?_;have⟨y,U,V⟩:=S j x T;exact O j y U V
theorem Di.ren (h:QA ρ c c')(e:CZ ρ x=some y)(d:Di g c y u):Di g c' x u:=by
 unfold Di;split
 ·trivial
 ·rename_i p;simp only[CZ,La] at e;obtain⟨F,q,rfl⟩:=e;have⟨vs,k,m,l⟩:=d;have⟨G,r⟩:=UG q;refine⟨vs,k,by omega,fun j x t=> ?_⟩;have⟨y,v,w⟩:=r j x t;have⟨z,A,C⟩:=l j y v;exact⟨z,A,C.ren h w⟩
 ·rename_i p b;simp only[CZ,Lg] at e;subst e;exact Dc.mono (fun _ _=>by rw[h.w]) (fun _ E=>E.ren h) d
 rename_i k m l;unfold Di at d;split at d
 ·cases x<;>simp[CZ,La] at e;exact absurd rfl k
 ·cases x<;>simp[CZ,La] at e;exact absurd rfl (m _)
 ·cases x<;>simp[CZ,La] at e;obtain⟨rfl,rfl⟩:=e;exact absurd rfl (l _ _)
 exact d.ren h e
theorem A6.ren (h:QA ρ c c')(e:CZ ρ x=some y)(d:A6 g c y u):A6 g c' x u:=by
 unfold A6;split
 ·rename_i m;simp only[CZ,La] at e;obtain⟨F,p,rfl⟩:=e;have⟨vs,k,l,q⟩:=d;have⟨G,r⟩:=UG p;refine⟨vs,k,by omega,fun j x t=> ?_⟩;have⟨y,v,w⟩:=r j x t;have⟨z,A,C⟩:=q j y v;exact⟨z,A,C.ren h w⟩
 ·rename_i m b;simp only[CZ,Lg] at e;subst e;exact RV.mono (fun _ _=>by rw[h.w]) (fun _ E=>E.ren h) d
 rename_i k l;unfold A6 at d;split at d
 ·cases x<;>simp[CZ,La] at e;exact absurd rfl (k _)
 ·cases x<;>simp[CZ,La] at e;obtain⟨rfl,rfl⟩:=e;exact absurd rfl (l _ _)
 exact Di.ren h e d
theorem OK.ren (h:QA ρ c c'){j:Nat}(t:ρ i=some j){o o':AO}(e:Ce ρ o=some o')(w:OK g c j o'):OK g c' i o:=by
 cases o with
 |bx J=>
  simp only[Ce,La] at e;obtain⟨K,l,rfl⟩:=e;have⟨L,A⟩:=UG l;have⟨T,vs,m,E,p⟩:=w;refine⟨T,vs,by rw[h.w,h.φ i j t];exact m,by omega,fun k x F=> ?_⟩;have⟨y,q,r⟩:=A k x F;have⟨z,G,H⟩:=p k y q;exact⟨z,G,H.ren h r⟩
 |rw M sz v br fz=>
  simp only[Ce,Lg] at e;subst e;have⟨m,E,T,vs,C,p,I,O,S,U⟩:=w;refine⟨m,E,T,vs,C,by rw[h.w,h.φ i j t];exact p,I,O,S,fun a b J d l V=> ?_⟩;have⟨u,q,r⟩:=U a b J d l V;exact⟨u,q,r.ren h⟩
 |mo M dl=>
  simp only[Ce,La] at e;obtain⟨K,l,rfl⟩:=e;have⟨L,A⟩:=gz l;have⟨X,k,m,E,p,I⟩:=w;refine⟨X,k,by rw[h.w,h.φ i j t];exact m,by omega,p,fun a x y F=> ?_⟩;have⟨z,q,r⟩:=A a x y F;have⟨e,G,H,k5⟩:=I a x z q;exact⟨e,G,H,Di.ren h r k5⟩
theorem EM.ren {n:Nat}{s s':St}{c:Cf}{ρ:Nat->Option Nat}(z:EM g s c a N)(w:Ren n ρ s' s):∃c',EM g s' c' a N/\c'.w=c.w/\Fi n c c'/\∀i,c'.kn i->c.kn i\/n<=i:=by
 have m:QA ρ c ⟨s'.hp,fun i=>c.φ ((ρ i).getD 0),c.w,fun i=>∃j,ρ i=some j/\c.kn j⟩:=⟨rfl,fun i j A F=>⟨j,A,F⟩,fun i j h=>by simp[h],fun i o h=>by rw[z.hp];exact w.hp i o h⟩;have G:∀i,i<n->∀o,s'.hp i=some o->∃q,Ce ρ o=some q/\c.hp i=some q:=fun i d o h=>by
  have⟨j,q,b,l,r⟩:=m.hp i o h;rw[w.old i d] at b;cases b;exact⟨q,l,r⟩
 refine⟨⟨s'.hp,fun i=>c.φ ((ρ i).getD 0),c.w,fun i=>∃j,ρ i=some j/\c.kn j⟩,⟨rfl,⟨z.hr.le,z.hr.m0,?_,?_,?_⟩,?_,?_,z.size,z.dfs⟩,rfl,⟨rfl,rfl,rfl,Lc _,?_,fun _ _ _=>rfl,?_,?_,?_,Lc _⟩,?_⟩
 ·intro id o C;have⟨j,q,b,l,r⟩:=m.hp id o C;have⟨A,F,K⟩:=z.hr.dom j q r;rw[m.φ id j b];exact⟨⟨j,b,A⟩,F,K⟩
 ·intro i k o p d E L;have⟨j,q,b,l,r⟩:=m.hp i o d;have⟨H,M,I,Y,O⟩:=m.hp k p E;rw[m.φ i j b,m.φ k H I];exact z.hr.inj j H q M r O fun e=>L (w.inj i k j b (e▸I))
 ·intro id o C;have⟨j,q,b,l,r⟩:=m.hp id o C;exact OK.ren m b l (z.hr.obj j q r)
 ·rintro i ⟨j,b,l⟩;by_cases d:i<n
  ·exact LF d w.nx
  exact(w.new i j (by omega) b).2
 ·intro t;rcases w.fr t with h |h
  ·rw[h];trivial
  exact A6.ren m h (z.fr t)
 ·intro id d E;exact⟨id,w.old id d,E⟩
 ·intro id o C S;have⟨j,q,b,l,r⟩:=m.hp id o C;refine .inr ⟨j,q,?_,r,by rw[(XE l).1];exact S,m.φ id j b⟩;by_cases d:id<n
  ·rw[w.old id d] at b;cases b;exact .inl rfl
  exact .inr ⟨(w.new id j (by omega) b).1,by omega⟩
 ·intro id d E C;refine⟨m.φ id id (w.old id d),fun q A=> ?_⟩;have⟨J,l,r⟩:=G id d q A;rw[<-(XE l).2];exact C J r
 ·intro id T sz v U V d E A;have⟨J,l,r⟩:=G id d _ A;simp only[Ce,Lg] at l;subst l;rw[m.φ id id (w.old id d)];exact⟨T,v,U,V,r,Lc _,fun _=>⟨rfl,rfl,fun X _ e=>⟨X,e,rfl⟩⟩⟩
 rintro i ⟨j,b,l⟩;by_cases d:i<n
 ·rw[w.old i d] at b;cases b;exact .inl l
 exact .inr (by omega)
theorem EM.dat {s s':St}{c:Cf}{a:Act}(m:EM g s c a N)(aa:gu s' s):∃c',EM g s' c' a N/\c'.w=c.w/\CR c c'/\c'.kn=c.kn:=by
 have E:∀i l,s'.hp i=some l->∃o,c.hp i=some o/\Jg c.hp s'.hp o l:=fun i l h=>by
  rw[m.hp];exact aa.hp i l h
 have K:CR c ⟨s'.hp,c.φ,c.w,c.kn⟩:=by
  refine⟨rfl,rfl,rfl,Lc _,fun _ h=>h,fun _ _ _=>rfl,?_,?_,?_,Lc _⟩
  ·intro id l F U;have⟨o,r,w⟩:=E id l F;refine .inr ⟨o,r,?_,rfl⟩;cases w with |same=>exact U |fz=>cases U |bx _=>rfl
  ·intro id _ G;refine⟨rfl,fun l F=> ?_⟩;have⟨o,r,w⟩:=E id l F
   have:=G o r;cases w with |same=>exact this |fz=>exact this |bx _=>rfl
  intro id ak V v' ao a1 _ hr;have⟨o,r,w⟩:=E id _ hr;cases w with
  |same=>exact⟨ak,v',ao,a1,r,Lc _,fun _=>⟨rfl,rfl,fun ab _ e=>⟨ab,e,rfl⟩⟩⟩
  |fz _ _ _ _ a2=>exact⟨ak,v',ao,a2,r,Lc _,fun _=>⟨rfl,rfl,fun ab _ e=>⟨ab,e,rfl⟩⟩⟩
 have aq:∀ {i:Nat} {o:AO} (b:Bool),c.hp i=some o->(∀l,s'.hp i=some l->l.fz=true)->Im g ⟨s'.hp,c.φ,c.w,c.kn⟩ b (c.φ i):=by
  intro i o b A U;have⟨_,w,H⟩:=m.hr.dom i o A;refine⟨H,fun I=> ?_,fun j p z hp e=> ?_,fun _=>w.1⟩
  ·exact w.2 I
  by_cases e2:j=i
  ·subst e2;rw[U p z] at hp;cases hp
  have⟨q,M,_⟩:=E j p z;exact m.hr.inj j i q o M A e2 e
 have av:∀ {b C:Bool} {k:Nat},(b=true->C=true)->Im g c b k->Im g ⟨s'.hp,c.φ,c.w,c.kn⟩ C k:=by
  intro b C k O G
  have:=G.ext K;cases C with
  |true=>exact this.weak
  |false=>cases b with |true=>exact absurd (O rfl) (by decide) |false=>exact this
 have aE:∀ {x y:AV} {u:Value},Je c.hp s'.hp x y->RA g c x u->RA g ⟨s'.hp,c.φ,c.w,c.kn⟩ y u:=by
  intro x y u h J;cases h with
  |same=>exact J.ext K
  |dat d b C is h O A=>
   exact .d _ _ _ (T4 m.hr rfl J h (Im g ⟨s'.hp,c.φ,c.w,c.kn⟩ C) (fun k G=>av O G) fun i I=>by
    have⟨S,V,v,fz,H⟩:=T6 h i I;exact aq C H (A i I))
 have a0:∀ {X Y:List AV},IM c.hp s'.hp X Y->X.length=Y.length/\∀(j:Nat) (y:AV),Y[j]? =some y->∃x,X[j]? =some x/\Je c.hp s'.hp x y:=by
  intro X Y h;induction h with
  |nil=>exact⟨rfl,fun j y h=>by simp at h⟩
  |cons h _ ih=>
   refine⟨by simp[ih.1],fun j y z=> ?_⟩;cases j with |zero=>simp at z;subst z;exact⟨_,rfl,h⟩ |succ j=>exact ih.2 j y (by simpa using z)
 refine⟨⟨s'.hp,c.φ,c.w,c.kn⟩,⟨rfl,⟨m.hr.le,m.hr.m0,?_,?_,?_⟩,fun i A=>LF (m.kn i A) aa.nx,?_,m.size,m.dfs⟩,rfl,K,rfl⟩
 ·intro id l F;have⟨o,r,_⟩:=E id l F;exact m.hr.dom id o r
 ·intro i j l p' A z a3;have⟨o,r,_⟩:=E i l A;have⟨p,w,_⟩:=E j p' z;exact m.hr.inj i j o p r w a3
 ·intro id l F;have⟨o,r,w⟩:=E id l F;have ad:=m.hr.obj id o r;cases w with
  |same=>exact ad.ext K rfl rfl
  |fz S V v br fz=>exact OK.ext (o:=.rw S V v br fz) K ad rfl rfl
  |bx h=>
   have⟨H,M⟩:=a0 h;have⟨T,vs,k1,k2,k3⟩:=ad;refine⟨T,vs,k1,by omega,fun j y z=> ?_⟩;have⟨x,h5,h6⟩:=M j y z;have⟨u,h7,h8⟩:=k3 j x h5;exact⟨u,h7,aE h6 h8⟩
 intro t;have J:=m.fr t;have Z:=aa.fr t;rw[<-m.hp] at Z;generalize s.fr t=x at J Z;generalize s'.fr t=y at Z;cases Z with
 |same=>exact J.ext K
 |un=>trivial
 |ag h=>
  have⟨H,M⟩:=a0 h;have⟨vs,k1,k2,k3⟩:=J;refine⟨vs,k1,by omega,fun j y z=> ?_⟩;have⟨x,h5,h6⟩:=M j y z;have⟨u,h7,h8⟩:=k3 j x h5;exact⟨u,h7,aE h6 h8⟩
 |dat _ d b C is h O A=>
  have L:=T7 m.hr rfl (Im g ⟨s'.hp,c.φ,c.w,c.kn⟩ C) h J (fun k G=>av O G) fun i I=>by
   have⟨S,V,v,br,fz,H⟩:=T8 h i I;exact aq C H (A i I)
  cases d with |v x=>exact RA.d _ _ _ L.1 |sl S=>exact RA.d _ _ _ L.1 |pt cs a4=>exact RA.d _ _ _ L.1 |mp S=>exact RA.d _ _ _ L.1 |ag cs=>exact L.1 |tu cs=>exact absurd rfl (L.2.1 cs)
theorem EM.weakR {n:Nat}{s s':St}{c:Cf}(p:EM g s c a N)(q:n<=s.nx)(b:CE n s' s):∃c',EM g s' c' a N/\c'.w=c.w/\Fi n c c'/\n<=s'.nx/\∀i,c'.kn i->c.kn i\/n<=i:=by
 induction b generalizing c with
 |weak b=>
  have⟨c',d,j,k,l⟩:=p.weak b;exact⟨c',d,j,k.toR,Lq q b.nx,fun i m=>.inl (l▸m)⟩
 |ren ρ b=>
  have⟨c',d,j,k,l⟩:=p.ren b;exact⟨c',d,j,k,b.nx,l⟩
 |dat b=>
  have⟨c',d,j,k,l⟩:=p.dat b;exact⟨c',d,j,k.toR,Lq q b.nx,fun i m=>.inl (l▸m)⟩
 |trans _ _ r t=>
  have⟨G,d,j,k,l,v⟩:=t p q;have⟨w,z,A,C,E,F⟩:=r d l;exact⟨w,z,A.trans j,k.trans C,E,fun i m=>(F i m).elim (fun h=>v i h) .inr⟩
end
def DC (g:Gh)(N:Nat)(Q:Ex->St->Prop)(n:Nat)(c:Cf)(e:Exit)(a':Act)(w':World):Prop:=∃b s' c',e=b.up/\Q b s'/\EM g s' c' a' N/\c'.w=w'/\Fi n c c'/\n<=s'.nx/\∀i,c'.kn i->c.kn i\/n<=i
theorem Dl.toR {nx:Nat}{c:Cf}(h:Dl g N Q nx c e a' w')(b:n<=nx):DC g N Q n c e a' w':=by
 have⟨d,s',c',j,k,l,m,p,q,r⟩:=h;exact⟨d,s',c',j,k,l,m,p.toR,Lq b q,fun i t=>(r i t).imp_right (Lq b)⟩
theorem DC.after {c:Cf}(h:DC g N Q n c' e a' w')(d:Fi n c c')(j:∀i,c'.kn i->c.kn i\/n<=i):DC g N Q n c e a' w':=by
 have⟨k,s',l,m,p,q,r,t,v,w⟩:=h;refine⟨k,s',l,m,p,q,r,d.trans t,v,fun i z=> ?_⟩;rcases w i z with b |b
 ·exact j i b
 exact .inr b
theorem DC.toE {c:Cf}(h:DC g N Q n c e a' w')(b:HR g c)(d:∀i,c.kn i->i<n):Dl g N Q n c e a' w':=by
 have⟨j,s',c',k,l,m,p,q,r,t⟩:=h;exact⟨j,s',c',k,l,m,p,q.toE b d,r,t⟩
theorem hY (r:Ad P tab)(p:Du N (.region id ops false)=true){l:List Nat}(q:l.Nodup/\∀i∈l,i<ops.size){c k:Cf}(b:EM g s c a N)(t:CR k c)(v:∀i,c.kn i->k.kn i)
  (h:WL P tab ops s.nx (Q .normal) l ⟨s.fr,s.hp,s.nx+ops.size⟩):wpOps P ops (fun e a' w'=>Dl g N Q s.nx k e a' w'/\a'.defers=a.defers) l a c.w:=by
 refine Z4 r (fun i o d w z=> ?_) l ⟨s.fr,s.hp,s.nx+ops.size⟩ c a q.1 q.2 h ⟨b.hp,b.hr,fun i m=>LF (b.kn i m) (NU _ _),b.fr,b.size,b.dfs⟩ (fun j A i _=> ?_) (Lc _) fun s' c' a' C E F G H I=>
  ⟨⟨.normal,s',c',rfl,C,E,rfl,t.trans F,Lq (NU _ _) G,fun i m=>(H i m).imp_left (v i)⟩,I⟩
 ·simp only[Du,If] at p
  have:=p o (Ok w);rw[z] at this;simpa using this
 have:=b.kn j A;omega
theorem Z5 (X:Ad P tab)(Y:P.follows .mixedOrders=true):∀(J:Code) (Q:Ex->St->Prop) (s:St) (c:Cf) (a:Act),Du N J=true->W P tab J Q s->EM g s c a N->J.wp P (Dl g N Q s.nx c) a c.w:=by
 intro J;have K:∀ {Q:Ex->St->Prop} {s:St} {c:Cf} {a:Act} (A:Ex),Q A s->EM g s c a N->Dl g N Q s.nx c A.up a c.w:=fun A G d=>⟨A,_,_,rfl,G,d,rfl,CR.refl _,Lc _,fun _ h=>.inl h⟩;induction J with
 |skip=>exact fun Q s c a _ h d=>wp_skip (K .normal h d)
 |label l=>exact fun Q s c a _ h d=>wp_label (K .normal h d)
 |ret=>exact fun Q s c a _ h d=>wp_ret (K .ret h d)
 |exit n=>exact fun Q s c a _ h d=>wp_exit (K (.exit n) h d)
 |region id ops Z=>
  intro Q s c a p h d;cases Z with
  |false=>exact Code.wp_mono (Q:=fun e a' w'=>Dl g N Q s.nx c e a' w'/\a'.defers=a.defers) (fun _ _ _ h=>h.1) (wp_region (hY X p ⟨Iz,fun i M=>N3.1 M⟩ d (CR.refl c) (fun _ h=>h) h))
  |true=>
   refine Code.wp_mono (Q:=fun e a' w'=>Dl g N Q s.nx c e a' w'/\a'.defers=a.defers) (fun _ _ _ h=>h.1) (wp_region_draw fun t=> ?_);simp only[Region.schedule,Y,BO,if_true];have⟨O,aa⟩:=CR.world d.hr (w':={ c.w with drawn:=c.w.drawn+1 }) rfl rfl rfl rfl;exact hY (id:=id) (c:=⟨c.hp,c.φ,{ c.w with drawn:=c.w.drawn+1 },c.kn⟩) X p (P9 ops t) ⟨d.hp,aa,d.kn,fun t=>(d.fr t).ext O,d.size,d.dfs.ext d.hr O⟩ O (fun _ h=>h) (h t)
 |seq x y ab S=>
  intro Q s c a p h d;simp only[Du,Lm] at p;refine wp_seq (Code.wp_mono (fun e a' w' hp=> ?_) (ab _ s c a p.1 h d));have⟨A,s',c',H,j,q,C,r,v,w⟩:=hp;subst H;subst C;cases A with
  |normal=>exact Code.wp_mono (fun e a' w' hp=>Dl.after hp r v w) (S _ s' c' a' p.2 j q)
  |ret=>exact⟨.ret,s',c',rfl,j,q,rfl,r,v,w⟩
  |exit n=>exact⟨.exit n,s',c',rfl,j,q,rfl,r,v,w⟩
 |cond x y z S ad=>
  intro Q s c a p h d;simp only[Du,Lm] at p;unfold W at h;split at h
  ·rename_i t e;have hv:=(show A6 g c (.v (.bool t)) (a.eval x) by rw[<-e];exact KI d.fr x).v.1;exact wp_cond_split hv (fun T=>S Q s c a p.1 (h.1 T) d) fun T=>ad Q s c a p.2 (h.2 T) d
  ·exact h.elim
 |block n x U=>
  intro Q s c a p h d;refine wp_block (Code.wp_mono (fun e a' w' hp=> ?_) (U _ s c a p h d));have⟨A,s',c',H,j,q,C,r,v,w⟩:=hp;subst H;cases A with
  |normal=>exact⟨.normal,s',c',rfl,j,q,C,r,v,w⟩
  |ret=>exact⟨.ret,s',c',rfl,j,q,C,r,v,w⟩
  |exit m=>
   simp only[Ex.up,Exit.inBlock];by_cases e:m=n
   ·rw[if_pos e];simp only[if_pos e] at j;exact⟨.normal,s',c',rfl,j,q,C,r,v,w⟩
   ·rw[if_neg e];simp only[if_neg e] at j;exact⟨.exit m,s',c',rfl,j,q,C,r,v,w⟩
 |loop x U=>
  intro Q s c a p h d;have ag:=h (fun L=>s.nx<=L.nx->∀(c:Cf) (a:Act),EM g L c a N->∀(b:Frame) (k:List Item) (E:List Frame),∃e a' w',DC g N Q s.nx c e a' w'/\Arrives P (lone (b.at a (.code x:: .inLoop x::k)) E c.w) b k E e a' w') ?_ ?_ (Lc _) c a d
  ·intro b k E;have⟨e,a',w',G,F⟩:=ag b k E;exact⟨e,a',w',G.toE d.hr d.kn,.of_steps (.one step_loop) F⟩
  ·intro L hW I c a d b k E;have⟨e,V,a0,G,F⟩:=U _ L c a p hW d b (.inLoop x::k) E;have⟨A,s',c',H,j,q,C,r,v,w⟩:=G;subst H;subst C;cases A with
   |normal=>
    have⟨ak,ao,aq,av,aE⟩:=j (Lq I v) c' V q b k E;exact⟨ak,ao,aq,DC.after av r.toR fun i M=>(w i M).imp_right (Lq I),.of_steps (Steps.trans F (.one step_inLoop)) aE⟩
   |ret=>exact⟨_,V,_,Dl.toR ⟨.ret,s',c',rfl,j,q,rfl,r,v,w⟩ I,.pass (x:=.inLoop x) rfl (fun _ _=>.inl (by simp[Ex.up])) F⟩
   |exit n=>exact⟨_,V,_,Dl.toR ⟨.exit n,s',c',rfl,j,q,rfl,r,v,w⟩ I,.pass (x:=.inLoop x) rfl (fun _ _=>.inl (by simp[Ex.up])) F⟩
  ·intro s1 s2 hw hX I c a d b k E;have⟨c',H,j,q,C,r⟩:=d.weakR I hw;have⟨e,a',w',G,F⟩:=hX C c' a H b k E;rw[j] at F;exact⟨e,a',w',DC.after G q r,F⟩
 |_=>exact fun Q s c a _ h d=>h.elim
end
end
section
open Go.RowKit
def Kw:AV->Bool
 | .tu _ | .d (.tu _) _=>false
 |_=>true
def UH (tab:Nat->TI)(s:St):ResultVar->Option AV
 | .tmp t=>if Kw (s.fr t) then some (s.fr t) else none
 | .cell x T=>if (tab T).ok then match s.fr x with
  | .pt i b=>match s.hp i with
   |some (.bx d)=>if (tab T).agg then(sub b (tab T).size d).map AV.ag else match d[b]? with
    |some v=>if Kw v then some v else none
    |none=>none
   |_=>none
  |_=>none else none
def SI (tab:Nat->TI)(s:St):List ResultVar->Option (List AV)
 |[]=>some []
 |r::b=>match UH tab s r,SI tab s b with
  |some v,some vs=>some (v::vs)
  |_,_=>none
def Fj (tab:Nat->TI)(rs:Array ResultVar)(s:St):Option AV:=
 match SI tab s rs.toList with
 |some [v]=>some v
 |some vs=>some (.tu vs)
 |none=>none
def D0 (vs:List AV):Fr:=fun t=>vs.getD t (.tu [])
structure GJ (hp' hp:Hp):Prop where
 h:∀i,hp' i=none\/hp' i=hp i
section
variable {P:Program}{tab:Nat->TI}{g:Gh}{N:Nat}
theorem iA {c:Cf}(h:Kw x=true)(j:A6 g c x u):Di g c x u:=by
 cases x with
 |tu k=>cases h
 |d x b=>cases x with |tu k=>cases h |_=>exact j
 |_=>exact j
theorem rT (w:Ad P tab){c:Cf}(d:EM g s c a N){r:ResultVar}{v:AV}(h:UH tab s r=some v):
  ∃u,(match r with | .tmp t=>(pure (a.tmps.getD t undef):Sem Value) | .cell x T=>do loadVar T (<-asAddr (a.tmps.getD x undef))).run P c.w= .ok u c.w/\Di g c v u:=by
 cases r with
 |tmp t=>
  simp only[UH] at h;split at h
  ·rename_i G;cases h;exact⟨_,rfl,iA G (d.fr t)⟩
  ·cases h
 |cell x T=>
  simp only[UH] at h;split at h;rotate_left
  ·cases h
  rename_i z;split at h;rotate_left
  ·cases h
  rename_i i b e;have H:=(show A6 g c (.pt i b) (a.tmps.getD x undef) by rw[<-e];exact d.fr x).pt.1;split at h;rotate_left
  ·cases h
  rename_i V A;rw[<-d.hp] at A;have⟨T',vs,I,h2,C⟩:=d.hr.obj i _ A;have E:∀k,c.w.cell? ⟨c.φ i,k,none⟩=vs[k]? :=fun k=>by simp[World.cell?,I]
  simp only[H,asAddr,Sem.run_bind,Sem.run_pure,Result.andThen_ok];split at h
  ·rename_i l;obtain⟨ys,J,rfl⟩:=La.1 h;have⟨h4,K,h6⟩:=Wy J;have L:=fm w z l c.w ⟨c.φ i,b,none⟩ ((vs.toList.drop b).take (tab T).size) (by rw[Lx,ND];simp;omega) (fun j u m=>by
    have⟨_,M⟩:=KH _ _ _ _ _ m;rw[HT,E];simpa using M)
   refine⟨_,L,_,rfl,by simp;omega,fun j y F=> ?_⟩;rw[K] at F;have⟨m,O⟩:=KH _ _ _ _ _ F;have⟨u,p,q⟩:=C _ _ O;refine⟨u,?_,q⟩;rw[Nx,Nh,if_pos m,NT];simpa using p
  rename_i l;split at h
  ·rename_i v' S;split at h
   ·rename_i U;cases h;have⟨u,p,q⟩:=C b v S;exact⟨u,fp w z (by simpa using l) c.w _ u ((E b).trans p),iA U q.toAt⟩
   cases h
  cases h
theorem Z6 (l:Ad P tab){s:St}{c:Cf}{a:Act}(m:EM g s c a N):∀ {d:List ResultVar} {vs:List AV},SI tab s d=some vs->
  ∃b:List Value,(d.mapM fun(r:ResultVar)=>match r with | .tmp t=>(pure (a.tmps.getD t undef):Sem Value) | .cell x T=>do loadVar T (<-asAddr (a.tmps.getD x undef))).run P c.w= .ok b c.w/\b.length=vs.length/\∀(j:Nat) (v:AV),vs[j]? =some v->∃u,b[j]? =some u/\Di g c v u
 |[],vs,h=>by
  simp only[SI,Lg] at h;subst h;exact⟨[],rfl,rfl,fun j v h=>by simp at h⟩
 |r::d,vs,h=>by
  simp only[SI] at h;split at h
  ·rename_i v F p q;cases h;have⟨u,w,z⟩:=rT l m p;have⟨b,A,C,E⟩:=Z6 l m q;refine⟨u::b,?_,by simp[C],fun j v k=> ?_⟩
   ·rw[List.mapM_cons,Sem.run_bind,w,Result.andThen_ok,Sem.run_bind,A,Result.andThen_ok];rfl
   cases j with |zero=>simp at k;subst k;exact⟨u,rfl,z⟩ |succ j=>exact E j v (by simpa using k)
  cases h
theorem rU (p:Ad P tab){c:Cf}(q:EM g s c a N){fn:Func}{v:AV}(h:Fj tab fn.results s=some v):∃u,(results fn a.tmps).run P c.w= .ok u c.w/\A6 g c v u:=by
 unfold Fj at h;have w:∀b:List Value,(fn.results.toList.mapM fun(r:ResultVar)=>match r with | .tmp t=>(pure (a.tmps.getD t undef):Sem Value) | .cell x T=>do loadVar T (<-asAddr (a.tmps.getD x undef))).run P c.w= .ok b c.w->
   (results fn a.tmps).run P c.w= .ok (if h:b.toArray.size=1 then b.toArray[0] else .tuple b.toArray) c.w:=by
  intro b z;unfold results;rw[Sem.run_bind,Array.mapM_eq_mapM_toList,Sem.run_map];refine(congrArg (fun r=>Result.andThen (Result.andThen r _) _) z).trans ?_;simp only[Result.andThen_ok];split<;>simp_all
 split at h
 ·rename_i x d;cases h;have⟨b,k,l,m⟩:=Z6 p q d
  match b,l with
  |[u],_=>
   have⟨I,A,C⟩:=m 0 v rfl;cases A;exact⟨u,by rw[w _ k];rfl,C.toAt⟩
 ·rename_i vs E d;cases h;have⟨b,k,l,m⟩:=Z6 p q d;refine⟨.tuple b.toArray,?_,b.toArray,rfl,by simpa using l,fun j x F=> ?_⟩
  ·rw[w _ k,dif_neg];intro e;simp only[Ni] at e
   match vs,(show vs.length=1 by omega) with |[x],_=>exact E x rfl
  have⟨u,G,H⟩:=m j x F;exact⟨u,by simpa using G,H⟩
 cases h
end
end
section
open Go.RowKit
theorem RC.via {w:World}{I G:Nat->Prop}(H:∀b,I b->w'.heap[b]? =w.heap[b]? \/w.heap[b]? =some (.deferred (some [])))(z:∀b,I b->G b){d:D}(h:RC w I d u):RC w' G d u:=by
 have J:∀(a:Addr) (v:Value),I a.block->w.cell? a=some v->w'.cell? a=some v:=fun a v L q=>by
  rcases H a.block L with h |h
  ·exact(World.cell?_of_block h).trans q
  unfold World.cell? at q;rw[h] at q;cases q
 induction h with
 |v x h=>exact .v x h
 |nl a c=>exact .nl a c
 |sl A b o c K C l m t E M p=>exact .sl A b o c K C (z b l) m t (fun i j F d O S=>J ⟨b,o+i*K+j,none⟩ _ l (E i j F d O S)) p
 |pt F T b o C l m t p=>exact .pt F T b o C (z b l) (fun j d e=>J ⟨b,o+j,none⟩ _ l (m j d e)) p
 |mp A r U k l m t E M p=>
  refine .mp A r U k (z r l) ?_ t E p;rcases H r l with h |h
  ·exact h.trans m
  rw[h] at m;cases m
structure GK (g g':Gh) (c c':Cf):Prop where
 im:∀b k,Im g c b k->Im g' c' b k
 mem:∀b k,Im g c b k->c'.w.heap[k]? =c.w.heap[k]? \/c.w.heap[k]? =some (.deferred (some []))
 kn:∀id,c.kn id->c'.kn id/\c'.φ id=c.φ id
 hp:∀id o,c'.hp id=some o->c.hp id=some o
 row:∀id o,c'.hp id=some o->c'.w.heap[c.φ id]? =c.w.heap[c.φ id]?
section
variable {g g':Gh}{c c':Cf}
theorem RC.tr (t:GK g g' c c'){b:Bool}{d:D}(h:RC c.w (Im g c b) d u):RC c'.w (Im g' c' b) d u:=h.via (t.mem b) (t.im b)
theorem Dc.tr (t:GK g g' c c'){b:Bool}{d:D}(h:Dc c.w (Im g c b) d u):Dc c'.w (Im g' c' b) d u:=by
 unfold Dc at *;split at h
 ·have⟨vs,k,l,m⟩:=h;exact⟨vs,k,l,fun j d e=>let ⟨x,e1,e2⟩:=m j d e;⟨x,e1,e2.tr t⟩⟩
 exact h.tr t
theorem RV.tr (t:GK g g' c c'){b:Bool}{d:D}(h:RV c.w (Im g c b) d u):RV c'.w (Im g' c' b) d u:=by
 unfold RV at *;split at h
 ·have⟨vs,k,l,m⟩:=h;exact⟨vs,k,l,fun j d e=>let ⟨x,e1,e2⟩:=m j d e;⟨x,e1,e2.tr t⟩⟩
 exact h.tr t
theorem RA.tr (t:GK g g' c c')(h:RA g c x u):RA g' c' x u:=by
 induction h with
 |v x h=>exact .v x h
 |d x b u k=>exact .d x b u (k.tr t)
 |pt id l j p=>
  rw[<-(t.kn id j).2];exact .pt id l (t.kn id j).1 fun o h=>p o (t.hp id o h)
 |mo id j p=>
  rw[<-(t.kn id j).2];exact .mo id (t.kn id j).1 fun o h=>p o (t.hp id o h)
 |pr id q i l u j hp k=>
  refine .pr id q i l u (t.kn id j).1 hp fun r w v z A m=> ?_;rw[(t.kn id j).2];exact k r w v z A (t.hp id _ m)
 |so id q l C u j hp k=>
  refine .so id q l C u (t.kn id j).1 hp fun r w v z A m=> ?_;rw[(t.kn id j).2,t.row id _ m];exact k r w v z A (t.hp id _ m)
 |fn f E F n j _ G=>exact .fn f E F n j G
theorem Di.tr (t:GK g g' c c')(h:Di g c x u):Di g' c' x u:=by
 unfold Di at *;split at h
 ·trivial
 ·have⟨vs,b,d,k⟩:=h;exact⟨vs,b,d,fun j x e=>let ⟨y,e1,e2⟩:=k j x e;⟨y,e1,e2.tr t⟩⟩
 ·exact Dc.tr t h
 exact RA.tr t h
theorem A6.tr (t:GK g g' c c')(h:A6 g c x u):A6 g' c' x u:=by
 unfold A6 at *;split at h
 ·have⟨vs,b,d,k⟩:=h;exact⟨vs,b,d,fun j x e=>let ⟨y,e1,e2⟩:=k j x e;⟨y,e1,e2.tr t⟩⟩
 ·exact RV.tr t h
 exact Di.tr t h
theorem OK.tr (t:GK g g' c c'){o:AO}(E:c'.hp id=some o)(F:c.kn id)(p:OK g c id o):OK g' c' id o:=by
 have q:=(t.kn id F).2;have r:=t.row id o E;cases o with
 |bx A=>
  have⟨T,vs,b,h,w⟩:=p;exact⟨T,vs,by rw[q,r];exact b,h,fun j x e=>let ⟨u,l,m⟩:=w j x e;⟨u,l,m.tr t⟩⟩
 |rw G M v O S=>
  have⟨b,h,T,vs,C,w,H,z,I,J⟩:=p;exact⟨b,h,T,vs,C,by rw[q,r];exact w,H,z,I,fun i j A d l m=>let ⟨u,e3,e4⟩:=J i j A d l m;⟨u,e3,e4.tr t⟩⟩
 |mo G U=>
  have⟨K,k,b,h,L,z⟩:=p;exact⟨K,k,by rw[q,r];exact b,h,L,fun i x y e=>let ⟨e',l,m,e3⟩:=z i x y e;⟨e',l,m,e3.tr t⟩⟩
theorem HR.tr (t:GK g g' c c')(h:HR g c)(d:g'.base<=c'.w.heap.size)(l:∀k,g'.M0 k->k<c'.w.heap.size)(m:∀id o,c'.hp id=some o->Zg g' (c.φ id))(q:c.w.heap.size<=c'.w.heap.size):HR g' c' where
 le:=d
 m0:=l
 dom id o hi:=by
  have⟨b,_,r⟩:=h.dom id o (t.hp id o hi);rw[(t.kn id b).2];exact⟨(t.kn id b).1,m id o hi,LF r q⟩
 inj i j o p hi hj hne:=by
  rw[(t.kn i (h.dom i o (t.hp i o hi)).1).2,(t.kn j (h.dom j p (t.hp j p hj)).1).2];exact h.inj i j o p (t.hp i o hi) (t.hp j p hj) hne
 obj id o hi:=(h.obj id o (t.hp id o hi)).tr t hi (h.dom id o (t.hp id o hi)).1
theorem GK.fb (g:Gh)(c:Cf)(B:Nat):GK g ⟨g.base,g.M0,B⟩ c c:=⟨fun _ _ h=>h,fun _ _ _=>.inl rfl,fun _ h=>⟨h,rfl⟩,fun _ _ h=>h,fun _ _ _=>rfl⟩
theorem GK.unfb (g:Gh)(c:Cf)(B:Nat):GK ⟨g.base,g.M0,B⟩ g c c:=⟨fun _ _ h=>h,fun _ _ _=>.inl rfl,fun _ h=>⟨h,rfl⟩,fun _ _ h=>h,fun _ _ _=>rfl⟩
end
def E6:List Deferred->World->World
 |[],w=>w
 |d::b,w=>E6 b (match d.target with | .collected r=>w.putObj r (.deferred none) |_=>w)
theorem iB (ds:List Deferred)(w:World):(E6 ds w).os=w.os/\(E6 ds w).tape=w.tape/\(E6 ds w).output=w.output/\(E6 ds w).drawn=w.drawn/\(E6 ds w).heap.size=w.heap.size:=by
 induction ds generalizing w with
 |nil=>exact⟨rfl,rfl,rfl,rfl,rfl⟩
 |cons d ds b=>
  unfold E6;split
  ·rename_i r _;have⟨h,j,k,l,m⟩:=b (w.putObj r (.deferred none));exact⟨h,j,k,l,m.trans (by simp)⟩
  exact b w
theorem iC {B:Nat}:∀ {b:List Deferred} {w:World},Do B b w->∀k:Nat,(E6 b w).heap[k]? =w.heap[k]? \/(B<=k/\w.heap[k]? =some (.deferred (some [])))
 |[],_,_,_=>.inl rfl
 |d::b,w,⟨⟨r,p,t,j,l⟩,v⟩,k=>by
  have z:Do B b (w.putObj r (.deferred none)):=by
   clear j;induction b with
   |nil=>trivial
   |cons e b h=>
    have⟨⟨q,A,m,C,E⟩,F⟩:=v;have G:q≠r:=fun H=>l e (Lp ..) (H▸m);exact⟨⟨q,A,m,(World.putObj_heap_other G).trans C,E⟩,h (fun x I=>l x (Lk _ I)) F⟩
  unfold E6;rw[t];have h:=iC z k;by_cases e:k=r
  ·subst e;exact .inr ⟨p,j⟩
  rw[World.putObj_heap_other e] at h;exact h
theorem Z7 {P:Program}{fn:Func}{j:Array Value}{R:Ending->World->Prop}{B:Nat}:∀ {b:List Deferred} {w:World},Do B b w->(∃v,(results fn j).run P (E6 b w)= .ok v (E6 b w)/\R (.returned v) (E6 b w))->LeavesInM Fence.wide 0 P fn j R b .returning w
 |[],_,_,h=>h
 |d::b,w,⟨⟨r,J,k,l,m⟩,t⟩,h=>by
  refine⟨by simp,.inl ⟨r,w.putObj r (.deferred none),k,run_takeDeferred l,Z7 (B:=B) ?_ ?_⟩⟩
  ·clear h l
   induction b with
   |nil=>trivial
   |cons e b z=>
    have⟨⟨q,A,p,C,E⟩,F⟩:=t;have G:q≠r:=fun H=>m e (Lp ..) (H▸p);exact⟨⟨q,A,p,(World.putObj_heap_other G).trans C,E⟩,z (fun x I=>m x (Lk _ I)) F⟩
  unfold E6 at h;rw[k] at h;exact h
section
variable {P:Program}{tab:Nat->TI}{g:Gh}{N:Nat}
theorem EM.taken {c:Cf}(d:EM g s c a N):EM g s ⟨c.hp,c.φ,E6 a.defers c.w,c.kn⟩ { a with defers:=[] } N/\(∀x u,A6 g c x u->A6 g ⟨c.hp,c.φ,E6 a.defers c.w,c.kn⟩ x u)/\
  ∀k,(E6 a.defers c.w).heap[k]? =c.w.heap[k]? \/(g.fb<=k/\c.w.heap[k]? =some (.deferred (some []))):=by
 have⟨r,v,w,z,j⟩:=iB a.defers c.w;have m:=iC d.dfs.2;have t:GK g g c ⟨c.hp,c.φ,E6 a.defers c.w,c.kn⟩:=⟨fun b k l=>⟨by simp only[j];exact l.1,l.2⟩,fun b k _=>(m k).imp_right (·.2),fun id h=>⟨h,rfl⟩,fun _ _ h=>h,fun id o p=>(m _).resolve_right fun e=>d.hr.not_mark p e.2⟩;have q:HR g ⟨c.hp,c.φ,E6 a.defers c.w,c.kn⟩:=d.hr.tr t (by simp only[j];exact d.hr.le) (fun k l=>by simp only[j];exact d.hr.m0 k l) (fun id o p=>(d.hr.dom id o p).2.1) (by simp only[j];exact Lc _);exact⟨⟨d.hp,q,d.kn,fun x=>(d.fr x).tr t,d.size,by simp only[j];exact d.dfs.1,trivial⟩,fun _ _ h=>h.tr t,m⟩
theorem iD {fn:Func}{d:Code}{b:Array Value}{w:World}{R:Ending->World->Prop}(l:P.funcs[f]? =some fn)(m:fn.body=some d)
  (h:d.wp P (fun e a' w'=>(e= .normal\/e= .ret)/\∃B,Do B a'.defers w'/\∃v,(results fn a'.tmps).run P (E6 a'.defers w')= .ok v (E6 a'.defers w')/\R (.returned v) (E6 a'.defers w')) { tmps:=b++Array.replicate (fn.ntmps-b.size) undef,defers:=[] } w):Calls P f b w R:=
 callsIn_wide.1 (callsIn_of_wp_marks (n:=0) (F:=Fence.wide) l m trivial (wpIn_mono (wpIn_wide.2 h) fun e a' w' ⟨p,B,j,k⟩=>by
  rcases p with rfl |rfl
  ·exact Z7 j k
  exact Z7 j k))
theorem iE (E:Ad P tab){fn:Func}{c:Cf}{s':St}{nx:Nat}(j:EM ⟨g.base,g.M0,c.w.heap.size⟩ s' c' a' N)(b:CR c c')(F:nx<=s'.nx)(G:∀i,c'.kn i->c.kn i\/nx<=i):
  (∃v hp',Fj tab fn.results s'=some v/\GJ hp' s'.hp/\R v hp' s'.nx)->∃B,Do B a'.defers c'.w/\∃v,(results fn a'.tmps).run P (E6 a'.defers c'.w)= .ok v (E6 a'.defers c'.w)/\∃u l d q,Ending.returned v= .returned u/\R l d.hp q/\d.w=E6 a'.defers c'.w/\CR c d/\HR g d/\A6 g d l u/\nx<=q/\∀i,d.kn i->c.kn i\/(nx<=i/\i<q):=by
 rintro⟨v,hp',H,I,J⟩;have⟨m,_,t⟩:=j.taken;have⟨u,K,L⟩:=rU E m H;have⟨M,O,S,U,V⟩:=iB a'.defers c'.w;have X:CR c ⟨c'.hp,c'.φ,E6 a'.defers c'.w,c'.kn⟩:=by
  refine⟨M.trans b.os,O.trans b.tape,S.trans b.output,by simp only[V];exact b.size,b.kn,fun k w Y=> ?_,b.muts,b.keep,fun id Z sz l aa ab hn hr=> ?_,by simp only[U];exact b.drawn⟩
  ·rcases t k with h |⟨h,_⟩
   ·exact h.trans (b.block k w Y)
   exact absurd h (Nat.not_le.2 w)
  have⟨es,v0,br,fz,k1,k2,k3⟩:=b.rows id Z sz l aa ab hn hr;refine⟨es,v0,br,fz,k1,k2,fun e=> ?_⟩;have⟨k4,k5,k6⟩:=k3 e;refine⟨k4,k5,fun ad T hc=> ?_⟩;have⟨ag,r,k8⟩:=k6 ad T hc;rcases t (c.φ id) with h |⟨_,h⟩
  ·exact⟨ag,h.trans r,k8⟩
  rw[h] at r;cases r
 have⟨z,p⟩:=CR.less m.hr (hp':=hp') fun i=>by
  have:c'.hp=s'.hp:=j.hp;rw[this];exact I.h i
 have A:=GK.unfb g ⟨hp',c'.φ,E6 a'.defers c'.w,c'.kn⟩ c.w.heap.size;exact⟨_,j.dfs.2,u,K,u,v,⟨hp',c'.φ,E6 a'.defers c'.w,c'.kn⟩,s'.nx,rfl,J,rfl,X.trans z,p.tr A p.le p.m0 (fun id o ho=>(p.dom id o ho).2.1) (Lc _),(L.ext z).tr A,F,fun i C=>(G i C).imp_right fun m=>⟨m,j.kn i C⟩⟩
theorem HR.fb {g:Gh}{c:Cf}(h:HR g c)(B:Nat):HR ⟨g.base,g.M0,B⟩ c:=h.tr (GK.fb g c B) h.le h.m0 (fun id o b=>(h.dom id o b).2.1) (Lc _)
end
end
section
open Go.RowKit
section
variable {P:Program}{tab:Nat->TI}
def DX (tab:Nat->TI)(rs:Array ResultVar)(R:AV->Hp->Nat->Prop)(e:Ex)(s:St):Prop:=
 match e with
 | .exit _=>False
 |_=>∃v hp',Fj tab rs s=some v/\GJ hp' s.hp/\R v hp' s.nx
theorem rV (m:Ad P tab)(z:P.follows .mixedOrders=true){fn:Func}{j:Code}(p:P.funcs[f]? =some fn)(q:fn.body=some j)(A:(fn.name== "runtime.NumGoroutine")=false)(C:Du fn.ntmps j=true){nx:Nat}
  (U:vs.length<=fn.ntmps) (h:W P tab j (DX tab fn.results R) ⟨D0 vs,hp,nx⟩):AT P f vs hp nx R:=by
 refine⟨⟨fn,p,A,by rw[q];rfl⟩,fun g c k E F G V H=> ?_⟩;refine iD p q (Code.wp_mono (fun e a' w' I=> ?_) (Z5 (g:=⟨g.base,g.M0,c.w.heap.size⟩) (N:=fn.ntmps) m z j _ _ c _ C h ⟨E,G.fb _,F,fun t=> ?_,by simp;omega,Lc _,trivial⟩))
 ·have⟨J,s',c',b,d,K,L,M,O,S⟩:=I;subst b;subst L;have r:=iE (fn:=fn) (R:=R) m K M O S;cases J with |normal=>exact⟨.inl rfl,r d⟩ |ret=>exact⟨.inr rfl,r d⟩ |exit n=>exact d.elim
 refine A6.tr (GK.fb g c _) ?_;show A6 g c (vs.getD t (.tu [])) _;by_cases v:t<vs.length
 ·have w:vs[t]? =some vs[t]:=Le v;have⟨u,b,d⟩:=H t _ w;have l:vs.getD t (.tu [])=vs[t]:=by simp[List.getD,w]
  rw[l,LJ,NJ (by omega),b];exact d
 have l:vs.getD t (.tu [])= .tu []:=by simp[List.getD,Nl (OE v)]
 rw[l];have T:(k++Array.replicate (fn.ntmps-k.size) undef).getD t undef=undef:=by
  rw[LJ,Bl (by omega)];by_cases b:t-k.size<fn.ntmps-k.size
  ·simp[b]
  simp[b]
 rw[T];exact XD c
def Fk (d:D)(h:Bool)(v:AV)(hp':Hp)(j:Nat):Prop:=∃b is,toR hp' v=some (d,b,is)/\(h=true->b=false)
theorem Z8 {ds:List D}{d:D}{t:Bool}(h:AT P f (ds.map (CI true)) AK 0 (Fk d t)):AM P f ds d t:=by
 refine⟨h.1,fun w l X Y Z aa=> ?_⟩;have hr:HR ⟨w.heap.size,l,w.heap.size⟩ ⟨AK,fun _=>0,w,fun _=>False⟩:=⟨Lc _,Y,fun _ _ h=>by simp[AK] at h,fun _ _ _ _ h=>by simp[AK] at h,fun _ _ h=>by simp[AK] at h⟩;refine(h.2 ⟨w.heap.size,l,w.heap.size⟩ ⟨AK,fun _=>0,w,fun _=>False⟩ X rfl (fun _ h=>h.elim) hr (by simpa using Z) (fun j x p=> ?_)).mono fun e w' ⟨u,v,c',ab,G,⟨b,is,q,F⟩,r,z,H,I,_,_⟩=> ?_
 ·rw[Ln,La] at p;obtain⟨d,G,rfl⟩:=p;have⟨u,q,F⟩:=aa j d G;have r:Dc w (Im ⟨w.heap.size,l,w.heap.size⟩ ⟨AK,fun _=>0,w,fun _=>False⟩ true) d u:=F.mono (fun _ _=>rfl) fun k m=>⟨m.1,m.2,fun _ _ h=>by simp[AK] at h,by simp⟩;refine⟨u,q,?_⟩;cases d with
  |ag J=>exact r
  |tu J=>cases F
  |v x=>exact(RC.toRA (c:=⟨AK,fun _=>0,w,fun _=>False⟩) r).toAt
  |sl x=>exact(RC.toRA (c:=⟨AK,fun _=>0,w,fun _=>False⟩) r).toAt
  |pt x y=>exact(RC.toRA (c:=⟨AK,fun _=>0,w,fun _=>False⟩) r).toAt
  |mp x=>exact(RC.toRA (c:=⟨AK,fun _=>0,w,fun _=>False⟩) r).toAt
 subst r;refine⟨u,G,⟨⟨z.os,z.tape,z.output,z.size,fun k m=>z.block k m fun id o ho=>by simp[AK] at ho⟩,z.drawn⟩,?_⟩;have K:∀k,Im ⟨w.heap.size,l,w.heap.size⟩ c' b k->k<c'.w.heap.size/\¬l k/\(t=true->w.heap.size<=k):=fun k m=>⟨m.1,m.2.1,fun hf=>m.2.2.2 (F hf)⟩;have L:∀i,(∃M O v S T,c'.hp i=some (.rw M O v S T))->c'.φ i<c'.w.heap.size/\¬l (c'.φ i)/\(t=true->w.heap.size<=c'.φ i):=fun i ⟨M,O,v,S,T,A⟩=>by
  have⟨_,C,E⟩:=H.dom i _ A;exact⟨E,C.2,fun _=>C.1⟩
 unfold toR at q;split at q
 ·rename_i J;have⟨⟨ad,b',ak⟩,U,V⟩:=La.1 q;simp only[LE] at V;obtain⟨rfl,rfl,rfl⟩:=V;have⟨vs,hv,hn,hc⟩:=I;have⟨C,E⟩:=T9 H rfl (fun k=>k<c'.w.heap.size/\¬l k/\(t=true->w.heap.size<=k)) (fun j=>vs.getD j undef) U (XB fun j x p=>let ⟨y,k1,k2⟩:=hc j x p;⟨y,k1,k2.toAt⟩) K fun i A=>L i (UA U i A);refine⟨vs,hv,by omega,fun j x p=>⟨_,XC (by have:=(Lb.1 p).1;omega),(E j x p).1⟩⟩
 have⟨C,E,_⟩:=T7 H rfl (fun k=>k<c'.w.heap.size/\¬l k/\(t=true->w.heap.size<=k)) q I K fun i A=>L i (T8 q i A);cases d with
 |tu ds=>exact absurd rfl (E ds)
 |_=>exact C
theorem AT.mono {nx:Nat}{b:AV->Hp->Nat->Prop}(h:AT P f vs hp nx R)(d:∀v hp nx,R v hp nx->b v hp nx):AT P f vs hp nx b:=
 ⟨h.1,fun g c j k l m p q=>(h.2 g c j k l m p q).mono fun _ _ ⟨u,v,c',r,t,w,z⟩=>⟨u,v,c',r,t,d _ _ _ w,z⟩⟩
theorem rW {f:AV}{nx:Nat}{K j:AV->Hp->Nat->Prop}(h:Mm P f vs hp nx K)(k:∀v hp nx,K v hp nx->j v hp nx):Mm P f vs hp nx j:=by
 unfold Mm at *;split at h
 ·rcases h with⟨l,b,is,d,m,p,q,r,t⟩ |h
  ·exact .inl ⟨l,b,is,d,m,p,q,r,k _ _ _ t⟩
  exact .inr (h.mono k)
 exact h.elim
theorem Z9 {b:Op}{K d:AV->Hp->Nat->Prop}(h:JL P tab b id s K)(j:∀v hp k,K v hp k->d v hp k):JL P tab b id s d:=by
 unfold JL at *;split at h
 ·exact rW h j
 split at h
 ·exact j _ _ _ h
 exact h.elim
theorem XF {y n d n':Prop}(h:Gc ops o s y n)(j:y->d)(b:n->n'):Gc ops o s d n':=by
 unfold Gc at *;split at h
 ·exact j h
 split at h
 ·exact b h
 split at h
 ·exact⟨fun e=>j (h.1 e),fun e=>b (h.2 e)⟩
 ·exact b h
 exact h.elim
theorem XG {ops:Array Oper}{d:Nat}{K j:St->Prop}(b:∀s,K s->j s):∀(l:List Nat) (s:St),WL P tab ops d K l s->WL P tab ops d j l s
 |[],s,h=>b s h
 |i::l,s,h=>by
  unfold WL at *;split at h
  ·exact XG b l s h
  exact XF h (fun h=>Z9 h fun _ _ _ h=>XG b l _ h) fun h=>XG b l _ h
theorem QB (x:Operand)(y z:Code)(Q:Ex->St->Prop)(s:St):W P tab (.cond x y z) Q s=(match ev s.fr x with | .v (.bool t)=>(t=true->W P tab y Q s)/\(t=false->W P tab z Q s) |_=>False):=rfl
end
end
section
open Go.RowKit
mutual
def CD:AV->List Nat
 | .pt i _=>[i]
 | .pr i _ _ _=>[i]
 | .so i _ _ _=>[i]
 | .mo i=>[i]
 | .ag b=>CS b
 | .tu b=>CS b
 | .fn _ b=>CS b
 |_=>[]
def CS:List AV->List Nat
 |[]=>[]
 |x::r=>CD x++CS r
end
theorem aA:∀(d b:List AV),CS (d++b)=CS d++CS b
 |[],b=>by simp[CS]
 |x::d,b=>by simp[CS,aA d b]
def Gd:Op->Bool
 | .move _ | .assign _ | .pick .. | .alloc _ | .box .. | .build .. | .nilCheck _ | .unOp .. | .fieldAddr .. | .extract .. | .makeFunc .. | .makeMap .. | .makeSlice .. | .index .. =>false
 |_=>true
def C4 (ρ:Operand->AV)(b:Op):List Nat:=if Gd b then CS (b.operands.toList.map ρ) else[]
theorem rX {xs:List AV}(h:x∈xs)(b:i∈CD x):i∈CS xs:=by
 induction xs with
 |nil=>cases h
 |cons y r d=>
  simp only[CS,Lw];rcases Lv.1 h with rfl |h
  ·exact .inl b
  exact .inr (d h)
theorem rY {ρ:Operand->AV}{b:Op}(d:Gd b=true){x:Operand}(h:x∈b.operands.toList)(j:i∈CD (ρ x)):i∈C4 ρ b:=by
 unfold C4;rw[if_pos d];exact rX (LG h) j
section
variable {tab:Nat->TI}{ρ ρ':Operand->AV}{hp hp':Hp}{id:Nat}
theorem aB (h:∀i∈CD x,hp i=hp' i):Ci hp x=Ci hp' x:=by
 cases x with
 |so i v o n=>simp only[Ci,h i (by simp[CD])]
 |v x=>cases x with |slice a n c=>cases a<;>cases n<;>cases c<;>rfl |_=>rfl
 |d x b=>cases x<;>rfl
 |_=>rfl
theorem aC:∀ {xs:List AV},(∀i∈CS xs,hp i=hp' i)->Dk hp xs=Dk hp' xs
 |[],_=>rfl
 |x::r,h=>by
  simp only[Dk,aB (x:=x) fun i hi=>h i (by simp[CS,hi]),aC (xs:=r) fun i hi=>h i (by simp[CS,hi])]
theorem rZ {x:AV}(h:∀i∈CD x,hp i=hp' i):FJ hp x=FJ hp' x:=by
 cases x with
 |ag cs=>simp only[FJ,aC (xs:=cs) fun i hi=>h i (by simpa [CD] using hi)]
 |d y b=>cases y<;>rfl
 |v y=>exact aB h
 |so i v o n=>exact aB h
 |tu cs=>rfl
 |fn f cs=>rfl
 |pt i o=>rfl
 |pr i v k o=>rfl
 |mo i=>rfl
 |un=>rfl
theorem aD:∀ {xs:List AV},(∀i∈CS xs,hp i=hp' i)->C8 hp xs=C8 hp' xs
 |[],_=>rfl
 |x::r,h=>by
  simp only[C8,rZ (x:=x) fun i hi=>h i (by simp[CS,hi]),aD (xs:=r) fun i hi=>h i (by simp[CS,hi])]
theorem iF {d:D}{b:Bool}(h:Ci hp x=some (d,b,is)):∀i∈is,i∈CD x:=by
 unfold Ci at h;split at h
 ·cases h;simp
 ·cases h;simp
 ·cases h
 ·cases h
 ·cases h;simp
 ·split at h
  ·split at h
   ·cases h;simp[CD]
   cases h
  cases h
 cases h
theorem aF:∀ {k:List AV} {j:List D} {b:Bool} {is:List Nat},Dk hp k=some (j,b,is)->∀i∈is,i∈CS k
 |[],j,b,is,h=>by
  simp only[Dk,Lg,LE] at h;obtain⟨_,_,rfl⟩:=h;simp
 |x::r,j,b,is,h=>by
  unfold Dk at h;split at h
  ·rename_i d q t v w z l m;cases h;intro i p;simp only[CS,Lw];exact(Lw.1 p).imp (iF l i) (aF m i)
  cases h
theorem QC {d:D}{b:Bool}(h:FJ hp x=some (d,b,is)):∀i∈is,i∈CD x:=by
 unfold FJ at h;split at h
 ·have⟨⟨m,p,q⟩,k,j⟩:=La.1 h;simp only[LE] at j;obtain⟨_,_,rfl⟩:=j;exact fun i l=>by simpa [CD] using aF k i l
 ·cases h;simp
 exact iF h
theorem iG:∀ {k:List AV} {j:List D} {b:Bool} {is:List Nat},C8 hp k=some (j,b,is)->∀i∈is,i∈CS k
 |[],j,b,is,h=>by
  simp only[C8,Lg,LE] at h;obtain⟨_,_,rfl⟩:=h;simp
 |x::r,j,b,is,h=>by
  unfold C8 at h;split at h
  ·rename_i d q t v w z l m;cases h;intro i p;simp only[CS,Lw];exact(Lw.1 p).imp (QC l i) (iG m i)
  cases h
theorem aG:∀ {is:List Nat},(∀i∈is,hp i=hp' i)->frz hp is=frz hp' is
 |[],_=>rfl
 |i::r,h=>by simp only[frz,h i (by simp),aG (is:=r) fun i b=>h i (by simp[b])]
theorem rd (h:∀i∈CD x,hp i=hp' i):Gb hp x=Gb hp' x:=by
 cases x with
 |so i v o n=>simp only[Gb,h i (by simp[CD])]
 |d y b=>cases y<;>rfl
 |v y=>cases y with |slice a n c=>cases a<;>cases n<;>cases c<;>rfl |_=>rfl
 |_=>rfl
theorem rf {cs:List AV}(h:EB x=some cs):∀i∈CS cs,i∈CD x:=by
 have k:∀ {x:AV},∀i∈CS [x],i∈CD x:=fun i j=>by simpa [CS] using j
 have l:∀(cs:List D) (b:Bool),CS (cs.map (CI b))= []:=by
  intro cs b;induction cs with |nil=>rfl |cons d r m=>cases d<;>simp[CS,CI,CD,m]
 cases x with
 |ag p=>simp only[EB,Lg] at h;subst h;exact fun i j=>by simpa [CD] using j
 |d y b=>cases y with |ag q=>simp only[EB,Lg] at h;subst h;rw[l];simp |tu q=>simp[EB] at h |_=>simp only[EB,Lg] at h;subst h;exact k
 |tu p=>simp[EB] at h
 |un=>simp[EB] at h
 |_=>simp only[EB,Lg] at h;subst h;exact k
theorem iH (d:List (Nat × Nat)):∀(j:List (Nat × Operand)) (b:List AV),(∀p∈j,ρ p.2=ρ' p.2)->KG d ρ b j=KG d ρ' b j
 |[],b,_=>rfl
 |(i,x)::r,b,h=>by
  have k:=h (i,x) (by simp);simp only[KG,k];split
  ·split
   ·exact iH d r _ fun p hp=>h p (by simp[hp])
   rfl
  rfl
theorem rg {h:Nat}{d b:Option Operand}(j:∀x∈d,ρ x=ρ' x)(k:∀x∈b,ρ x=ρ' x):HQ ρ h d b=HQ ρ' h d b:=by
 unfold HQ;cases d with
 |none=>cases b with |none=>rfl |some y=>simp only[k y rfl]
 |some x=>cases b with |none=>simp only[j x rfl] |some y=>simp only[j x rfl,k y rfl]
theorem rh {op:Op}(hρ:∀x∈op.operands.toList,ρ x=ρ' x)(hh:∀i∈C4 ρ op,hp i=hp' i):Cc tab ρ hp id op=Cc tab ρ' hp' id op:=by
 have key:Gd op=true->∀x∈op.operands.toList,∀i∈CD (ρ x),hp i=hp' i:=fun hl x hx i hi=>hh i (rY hl hx hi);have one1:∀x∈op.operands.toList,ρ x=ρ' x:=fun x hx=>hρ x hx;have one:Gd op=true->∀x∈op.operands.toList,ρ x=ρ' x/\∀i∈CD (ρ' x),hp i=hp' i:=fun hl x hx=>⟨hρ x hx,fun i hi=>key hl x hx i (by rw[hρ x hx];exact hi)⟩;clear key hh hρ
 cases op with
 |move x=>simp only[Cc,(one1 x (by simp[Op.operands]))]
 |assign x=>simp only[Cc,(one1 x (by simp[Op.operands]))]
 |pick x y z=>simp only[Cc,(one1 x (by simp[Op.operands])),(one1 y (by simp[Op.operands])),(one1 z (by simp[Op.operands]))]
 |alloc T=>rfl
 |box T x=>simp only[Cc,(one1 x (by simp[Op.operands]))]
 |build T ps=>
  simp only[Cc];rw[iH (ρ:=ρ) (ρ':=ρ') (tab T).offs ps.toList _ fun p hp=>(one1 p.2 (by simp only[Op.operands,Oq];exact LG hp))]
 |load T x=>
  obtain⟨h1,h2⟩:=one rfl x (by simp[Op.operands]);simp only[Cc,h1];cases hx:ρ' x with |pt i off=>simp only[h2 i (by simp[hx,CD])] |pr i v k off=>simp only[h2 i (by simp[hx,CD])] |d y b=>cases y<;>rfl |_=>rfl
 |store T x y=>
  obtain⟨h1,h2⟩:=one rfl x (by simp[Op.operands]);obtain⟨h3,h4⟩:=one rfl y (by simp[Op.operands]);simp only[Cc,h1,h3];cases hx:ρ' x with
  |pt i off=>
   cases hc:EB (ρ' y) with |none=>rfl |some xs=>simp only[h2 i (by simp[hx,CD])]
  |pr i v k off=>
   cases hc:EB (ρ' y) with
   |none=>rfl
   |some xs=>
    have hl:∀i∈CS xs,hp i=hp' i:=fun i hi=>h4 i (rf hc i hi);simp only[h2 i (by simp[hx,CD]),aC (xs:=xs) hl];cases hd:Dk hp' xs with
    |none=>
     cases hp' i with
     |none=>rfl
     |some o=>cases o with |rw es sz v br fz=>cases fz<;>rfl |_=>rfl
    |some p=>
     obtain⟨ds,b,is⟩:=p;have hfr:=aG (hp:=hp) (hp':=hp') (is:=is) fun i hi=>hl i (aF hd i hi);cases hp' i with
     |none=>rfl
     |some o=>cases o with
      |rw es sz v br fz=>
       cases fz
       ·dsimp only;rw[hfr]
       ·rfl
      |_=>rfl
  |_=>rfl
 |nilCheck x=>simp only[Cc,(one1 x (by simp[Op.operands]))]
 |binOp op T x y T'=>
  obtain⟨h1,h2⟩:=one rfl x (by simp[Op.operands]);simp only[Cc,h1,(one1 y (by simp[Op.operands]))];congr 1;unfold GH;split
  ·rename_i i v o n e _;rw[h2 i (by simp[e,CD])]
  ·rfl
 |unOp op T x=>simp only[Cc,(one1 x (by simp[Op.operands]))]
 |convert s t x=>
  obtain⟨h1,h2⟩:=one rfl x (by simp[Op.operands]);simp only[Cc,h1];cases(tab s).ok with
  |false=>rfl
  |true=>
   cases hk:(tab t).kind with
   |string=>
    cases hx:ρ' x with |so i v o n=>simp only[h2 i (by simp[hx,CD])] |v y=>cases y<;>rfl |_=>rfl
   |int k=>
    cases hx:ρ' x with |v y=>cases y<;>rfl |_=>rfl
   |_=>rfl
 |fieldAddr T x f=>simp only[Cc,(one1 x (by simp[Op.operands]))]
 |indexAddr T x i=>
  obtain⟨h1,h2⟩:=one rfl x (by simp[Op.operands]);simp only[Cc,h1,(one1 i (by simp[Op.operands]))];cases hn:EY (ρ' i) with
  |none=>
   cases hx:ρ' x with |d y b=>cases y<;>rfl |_=>rfl
  |some n=>
   cases hx:ρ' x with |so i v o n=>simp only[h2 i (by simp[hx,CD])] |d y b=>cases y<;>rfl |_=>rfl
 |index T x i=>simp only[Cc,(one1 x (by simp[Op.operands])),(one1 i (by simp[Op.operands]))]
 |slice T x lo hi mx=>
  cases mx with
  |some m=>rfl
  |none=>
   obtain⟨h1,h2⟩:=one rfl x (by simp[Op.operands]);have hb:∀len,HQ ρ len lo hi=HQ ρ' len lo hi:=fun len=>rg (fun y hy=>(one1 y (by simp only[Option.mem_def] at hy;subst hy;simp[Op.operands]))) fun y hy=>(one1 y (by simp only[Option.mem_def] at hy;subst hy;simp[Op.operands]));simp only[Cc,h1,hb];cases hk:(tab T).kind with
   |slice=>
    cases hx:ρ' x with
    |so i v o n=>simp only[h2 i (by simp[hx,CD])]
    |d y b=>cases y<;>rfl
    |v y=>cases y with |slice a n c=>cases a<;>cases n<;>cases c<;>rfl |_=>rfl
    |_=>rfl
   |string=>
    cases hx:ρ' x with |v y=>cases y<;>rfl |_=>rfl
   |_=>rfl
 |extract x i=>simp only[Cc,(one1 x (by simp[Op.operands]))]
 |makeFunc f first caps=>
  cases f with
  |func f=>
   have e:caps.toList.map ρ=caps.toList.map ρ':=Np fun x hx=>(one1 x (by simp only[Op.operands,Ia,Lw];exact .inr hx));simp only[Cc,e]
  |_=>rfl
 |buildSlice T n ps=>
  have e:(ps.toList.map fun p=>ρ p.2)=ps.toList.map fun p=>ρ' p.2:=Np fun p hp=>(one1 p.2 (by simp only[Op.operands,Oq];exact LG hp));have hl:∀i∈CS (ps.toList.map fun p=>ρ' p.2),hp i=hp' i:=by
   intro i hi
   have:∀(l:List (Nat × Operand)),(∀p∈l,p∈ps.toList)->i∈CS (l.map fun p=>ρ' p.2)->hp i=hp' i:=by
    intro l;induction l with
    |nil=>intro _ h;simp[CS] at h
    |cons p r ih=>
     intro hl h;simp only[Lh,CS,Lw] at h;rcases h with h |h
     ·exact(one rfl p.2 (by simp only[Op.operands,Oq];exact LG (hl p (by simp)))).2 i h
     exact ih (fun p hp=>hl p (by simp[hp])) h
   exact this ps.toList (fun _ h=>h) hi
  simp only[Cc,e,aD hl];split
  ·cases hd:C8 hp' (ps.toList.map fun p=>ρ' p.2) with
   |none=>rfl
   |some x=>
    obtain⟨ds,b,is⟩:=x;simp only[aG (hp:=hp) (hp':=hp') (is:=is) fun i hi=>hl i (iG hd i hi)]
  ·rfl
 |makeMap T r=>cases r<;>rfl
 |lookup T x k ok=>
  obtain⟨h1,h2⟩:=one rfl x (by simp[Op.operands]);simp only[Cc,h1,(one1 k (by simp[Op.operands]))];cases hx:ρ' x with
  |mo i=>simp only[h2 i (by simp[hx,CD])]
  |d y b=>cases y<;>rfl
  |v y=>cases y with |map r=>cases r<;>rfl |_=>rfl
  |_=>rfl
 |mapUpdate T m k x=>
  obtain⟨h1,h2⟩:=one rfl m (by simp[Op.operands]);simp only[Cc,h1,(one1 k (by simp[Op.operands])),(one1 x (by simp[Op.operands]))];cases hx:ρ' m with |mo i=>simp only[h2 i (by simp[hx,CD])] |_=>rfl
 |insert T m k x=>
  obtain⟨h1,h2⟩:=one rfl m (by simp[Op.operands]);simp only[Cc,h1,(one1 k (by simp[Op.operands])),(one1 x (by simp[Op.operands]))];cases hx:ρ' m with |mo i=>simp only[h2 i (by simp[hx,CD])] |_=>rfl
 |mapEntry T m k=>
  obtain⟨h1,h2⟩:=one rfl m (by simp[Op.operands]);simp only[Cc,h1,(one1 k (by simp[Op.operands]))];cases hx:ρ' m with |mo i=>simp only[h2 i (by simp[hx,CD])] |_=>rfl
 |entryStore T m st x=>
  obtain⟨h1,h2⟩:=one rfl m (by simp[Op.operands]);simp only[Cc,h1,(one1 st (by simp[Op.operands])),(one1 x (by simp[Op.operands]))];cases hx:ρ' m with
  |mo i=>
   cases hn:EY (ρ' st) with |none=>rfl |some j=>simp only[h2 i (by simp[hx,CD])]
  |_=>rfl
 |makeSlice T l c=>simp only[Cc,(one1 l (by simp[Op.operands])),(one1 c (by simp[Op.operands]))]
 |call c=>
  obtain⟨callee,args,ty⟩:=c;cases callee with
  |builtin b=>
   have ha:∀x∈args.toList,ρ x=ρ' x/\∀i∈CD (ρ' x),hp i=hp' i:=fun x hx=>one rfl x (by simp[Op.operands,Call.operands] at hx⊢;exact hx);cases b with
   |min=>
    simp only[Cc];split
    ·rename_i x y e1;rw[(ha x (by rw[e1];simp)).1,(ha y (by rw[e1];simp)).1]
    ·rfl
   |clear=>
    simp only[Cc];split
    ·rename_i x T e1 e2;obtain⟨h1,h2⟩:=ha x (by rw[e1];simp);rw[h1];cases hx:ρ' x with
     |so i v o n=>simp only[h2 i (by simp[hx,CD])]
     |v y=>cases y with |slice a n c=>cases a<;>cases n<;>cases c<;>rfl |_=>rfl
     |_=>rfl
    ·rfl
   |len=>
    simp only[Cc];split
    ·rename_i x T e1 e2;rw[(ha x (by rw[e1];simp)).1]
    ·rfl
   |cap=>
    simp only[Cc];split
    ·rename_i x T e1 e2;rw[(ha x (by rw[e1];simp)).1]
    ·rfl
   |append=>
    simp only[Cc];split
    ·rename_i x y T T' e1 e2;obtain⟨h1,h2⟩:=ha x (by rw[e1];simp);obtain⟨h3,h4⟩:=ha y (by rw[e1];simp);rw[h1,h3,rd h4];cases hr:Gb hp' (ρ' y) with
     |none=>rfl
     |some r=>
      cases hx:ρ' x with
      |so i v o n=>simp only[h2 i (by simp[hx,CD])]
      |v y=>cases y with |slice a n c=>cases a<;>cases n<;>cases c<;>rfl |_=>rfl
      |_=>rfl
    ·rfl
   |_=>rfl
  |_=>rfl
 |_=>rfl
end
end
end Go.Proofs.YtnmkbmefohakmaaGreat.Ab
