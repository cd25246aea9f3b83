/-
 Regions, calls and code of the machine are the true ones.
-/
import Derived.Orders
import Derived.RangeFuncLeaves
import Derived.RangeFuncRecord
import Derived.Test.YtnmkbmefohakmaaGreatAbB
set_option linter.all false
namespace Go.Proofs.YtnmkbmefohakmaaGreat.Ab
variable {R:AV->Hp->Nat->Prop}{a a':Act}{c':Cf}{e:Exit}{f:FuncId}{g:Gh}{hp:Hp}{i id n:Nat}{o:Oper}{ops:Array Oper}{s:St}{u:Value}{vs:List AV}{w':World}{x y:AV}
section
open Go.RowKit
inductive Ex where
 |normal |ret |exit (n:Nat)
def Ex.up:Ex->Exit
 | .normal=>.normal
 | .ret=>.ret
 | .exit n=>.exit n
def Mp (P:Program)(f:FuncId):Prop:=∃b,P.funcs[f]? =some b/\(b.name== "runtime.NumGoroutine")=false/\b.body.isSome=true
def AI (P:Program)(f:FuncId)(ds:List D)(d:D)(fr:Bool):Prop:=Mp P f/\∀(w:World) (b:Nat->Prop) (h:Array Value),(∀k,b k->k<w.heap.size)->h.size=ds.length->(∀(j:Nat) (x:D),ds[j]? =some x->∃u,h[j]? =some u/\Dj w (fun k=>k<w.heap.size/\¬b k) x u)->Calls P f h w fun e w'=>∃u,e= .returned u/\(Below w.heap.size w w'/\w.drawn<=w'.drawn)/\RV w' (fun k=>k<w'.heap.size/\¬b k/\(fr=true->w.heap.size<=k)) d u
def AU (P:Program)(f:FuncId)(vs:List AV)(hp:Hp)(nx:Nat)(R:AV->Hp->Nat->Prop):Prop:=Mp P f/\∀(g:Gh) (c:Cf) (b:Array Value),c.hp=hp->(∀i,c.kn i->i<nx)->HR g c->b.size=vs.length->(∀(j:Nat) (x:AV),vs[j]? =some x->∃u,b[j]? =some u/\Au g c x u)->Calls P f b c.w fun e w'=>∃u v c' d,e= .returned u/\R v c'.hp d/\c'.w=w'/\CP c c'/\HR g c'/\Au g c' v u/\nx<=d/\∀i,c'.kn i->c.kn i\/(nx<=i/\i<d)
def MF (P:Program)(f:AV)(vs:List AV)(hp:Hp)(nx:Nat)(K:AV->Hp->Nat->Prop):Prop:=
 match f with
 | .fn g j=>(∃k b is d h,Cj hp (vs++j)=some (k,b,is)/\AI P g k d h/\(is= []\/h=true)/\K (CE (!h&&b) d) hp nx)\/AU P g (vs++j) hp nx K
 |_=>False
def IS (P:Program)(tab:Nat->TI)(op:Op)(id:Nat)(s:St)(K:AV->Hp->Nat->Prop):Prop:=
 match op with
 | .call { callee:=.value f,args, .. }=>MF P (ev s.fr f) (args.toList.map (ev s.fr)) s.hp s.nx K
 |op=>match CM tab (ev s.fr) s.hp id op with
  |some (v,b)=>K v (CC b s.hp) s.nx
  |none=>False
def Ga (ops:Array Oper)(o:Oper)(s:St)(h no:Prop):Prop:=
 match o.guard with
 |none=>h
 |some (j,t)=>match (ops[j]?).bind (·.dst) with
  |none=>no
  |some d=>match s.fr d with
   | .v (.bool b)=>(b=t->h)/\(b= !t->no)
   | .tu []=>no
   |_=>False
def CJ (d:Option Nat)(v:AV)(fr:Fr):Fr:=match d with
 |some t=>upd t v fr
 |none=>fr
def WL (P:Program)(tab:Nat->TI)(ops:Array Oper)(b:Nat)(K:St->Prop):List Nat->St->Prop
 |[],s=>K s
 |i::r,s=>match ops[i]? with
  |none=>WL P tab ops b K r s
  |some o=>Ga ops o s (IS P tab o.op (b+i) s fun v hp d=>WL P tab ops b K r ⟨CJ o.dst v s.fr,hp,d⟩) (WL P tab ops b K r ⟨CJ o.dst (.tu []) s.fr,s.hp,s.nx⟩)
structure JZ (s' s:St):Prop where
 fr:∀t,s'.fr t= .un\/s'.fr t=s.fr t
 hp:∀i,s'.hp i=none\/s'.hp i=s.hp i
 nx:s.nx<=s'.nx
mutual
def CY (ρ:Nat->Option Nat):AV->Option AV
 | .pt i o=>(ρ i).map fun j=>.pt j o
 | .pr i v k o=>(ρ i).map fun j=>.pr j v k o
 | .so i v o n=>(ρ i).map fun j=>.so j v o n
 | .mo i=>(ρ i).map .mo
 | .ag d=>(ED ρ d).map .ag
 | .tu d=>(ED ρ d).map .tu
 | .fn f d=>(ED ρ d).map (.fn f)
 | .v x=>some (.v x)
 | .d x b=>some (.d x b)
 | .un=>some .un
def ED (ρ:Nat->Option Nat):List AV->Option (List AV)
 |[]=>some []
 |c::r=>match CY ρ c,ED ρ r with
  |some d,some b=>some (d::b)
  |_,_=>none
end
def Et (ρ:Nat->Option Nat):List (Value × AV)->Option (List (Value × AV))
 |[]=>some []
 |(x,c)::r=>match CY ρ c,Et ρ r with
  |some d,some b=>some ((x,d)::b)
  |_,_=>none
def Cc (ρ:Nat->Option Nat):AO->Option AO
 | .bx d=>(ED ρ d).map .bx
 | .rw b h v j k=>some (.rw b h v j k)
 | .mo b l=>(Et ρ b).map fun b=>.mo b l
structure Ren (n:Nat) (ρ:Nat->Option Nat) (s' s:St):Prop where
 old:∀i,i<n->ρ i=some i
 new:∀i j,n<=i->ρ i=some j->n<=j/\i<s'.nx
 inj:∀i i' j,ρ i=some j->ρ i'=some j->i=i'
 fr:∀t,s'.fr t= .un\/CY ρ (s'.fr t)=some (s.fr t)
 hp:∀i o,s'.hp i=some o->∃j o',ρ i=some j/\Cc ρ o=some o'/\s.hp j=some o'
 nx:n<=s'.nx
inductive KP (hp hp':Hp):AV->AV->Prop
 |same (x:AV):KP hp hp' x x
 |dat (x:AV) (d:D) (b b':Bool) (is:List Nat) (h:Ce hp x=some (d,b,is)) (hb:b=true->b'=true) (hi:∀i∈is,∀o,hp' i=some o->o.fz=true):KP hp hp' x (.d d b')
inductive Ja (hp hp':Hp):List AV->List AV->Prop
 |nil:Ja hp hp' [] []
 |cons {x y:AV} {xs ys:List AV} (h:KP hp hp' x y) (hs:Ja hp hp' xs ys):Ja hp hp' (x::xs) (y::ys)
inductive KQ (hp hp':Hp):AV->AV->Prop
 |same (x:AV):KQ hp hp' x x
 |un (x:AV):KQ hp hp' x .un
 |ag {cs ds:List AV} (h:Ja hp hp' cs ds):KQ hp hp' (.ag cs) (.ag ds)
 |dat (x:AV) (d:D) (b b':Bool) (is:List Nat) (h:Ek hp x=some (d,b,is)) (hb:b=true->b'=true) (hi:∀i∈is,∀o,hp' i=some o->o.fz=true):KQ hp hp' x (.d d b')
inductive KR (hp hp':Hp):AO->AO->Prop
 |same (o:AO):KR hp hp' o o
 |fz (es:List (List D)) (sz v:Nat) (br fz:Bool):KR hp hp' (.rw es sz v br fz) (.rw es sz v br true)
 |bx {cs ds:List AV} (h:Ja hp hp' cs ds):KR hp hp' (.bx cs) (.bx ds)
structure jW (s' s:St):Prop where
 fr:∀t,KQ s.hp s'.hp (s.fr t) (s'.fr t)
 hp:∀i o',s'.hp i=some o'->∃o,s.hp i=some o/\KR s.hp s'.hp o o'
 nx:s.nx<=s'.nx
inductive CH (n:Nat):St->St->Prop
 |weak {s' s:St} (h:JZ s' s):CH n s' s
 |ren {s' s:St} (ρ:Nat->Option Nat) (h:Ren n ρ s' s):CH n s' s
 |dat {s' s:St} (h:jW s' s):CH n s' s
 |trans {s' m s:St} (h:CH n s' m) (h2:CH n m s):CH n s' s
def W (P:Program)(tab:Nat->TI):Code->(Ex->St->Prop)->St->Prop
 | .skip,Q,s=>Q .normal s
 | .label _,Q,s=>Q .normal s
 | .ret,Q,s=>Q .ret s
 | .exit n,Q,s=>Q (.exit n) s
 | .seq a b,Q,s=>W P tab a (fun e s'=>match e with | .normal=>W P tab b Q s' |e=>Q e s') s
 | .cond c a b,Q,s=>match ev s.fr c with
  | .v (.bool t)=>(t=true->W P tab a Q s)/\(t=false->W P tab b Q s)
  |_=>False
 | .block n a,Q,s=>W P tab a (fun e s'=>match e with | .exit m=>if m=n then Q .normal s' else Q (.exit m) s' |e=>Q e s') s
 | .region _ ops k,Q,s=>match k with
  |false=>WL P tab ops s.nx (Q .normal) (List.range ops.size) ⟨s.fr,s.hp,s.nx+ops.size⟩
  |true=>∀t,WL P tab ops s.nx (Q .normal) (Region.linearise .any ops t) ⟨s.fr,s.hp,s.nx+ops.size⟩
 | .loop a,Q,s=>∀X:St->Prop,(∀d,W P tab a (fun e s'=>match e with | .normal=>X s' |e=>Q e s') d->X d)->(∀h j,CH s.nx h j->X h->X j)->X s
 |_,_,_=>False
def D2 (N:Nat):Code->Bool
 | .region _ ops _=>ops.all fun o=>match o.dst with |some d=>decide (d<N) |none=>true
 | .seq a b=>D2 N a&&D2 N b
 | .cond _ a b=>D2 N a&&D2 N b
 | .block _ a=>D2 N a
 | .loop a=>D2 N a
 | .rangeFunc _ h a b=>(h.all fun p=>decide (p<N))&&D2 N a&&D2 N b
 |_=>true
def Dn (B:Nat):List Deferred->World->Prop
 |[],_=>True
 |d::b,w=>(∃r,B<=r/\d.target= .collected r/\w.heap[r]? =some (.deferred (some []))/\∀e∈b,e.target≠ .collected r)/\Dn B b w
theorem Dn.to {B:Nat}{w:World}:∀ {b:List Deferred},(∀d∈b,∀r:Nat,d.target= .collected r->w.heap[r]? =some (.deferred (some []))->w'.heap[r]? =w.heap[r]?)->Dn B b w->Dn B b w'
 |[],_,_=>trivial
 |d::_,h,⟨⟨r,l,j,k,m⟩,p⟩=>⟨⟨r,l,j,(h d (Lo ..) r j k).trans k,m⟩,Dn.to (fun e q=>h e (Lj _ q)) p⟩
theorem HR.not_mark {c:Cf}(h:HR g c){o:AO}(d:c.hp id=some o):c.w.heap[c.φ id]? ≠some (.deferred (some [])):=fun e=>by
 have:=h.obj id o d;cases o with
 |bx l=>have⟨T,vs,b,_⟩:=this;rw[b] at e;cases e
 |rw j m v p q=>have⟨_,_,T,vs,C,b,_⟩:=this;rw[b] at e;cases e
 |mo j r=>have⟨t,k,b,_⟩:=this;rw[b] at e;cases e
theorem Dn.ext {c:Cf}{B:Nat}{ds:List Deferred}(h:Dn B ds c.w)(d:HR g c)(j:CP c c'):Dn B ds c'.w:=
 h.to fun _ _ k _ b=>j.block k (LW.1 b).1 fun _ _ l _ e=>d.not_mark l (e▸b)
def YC (B:Nat)(ds:List Deferred)(w:World):Prop:=B<=w.heap.size/\Dn B ds w
theorem YC.ext {c:Cf}{B:Nat}{ds:List Deferred}(h:YC B ds c.w)(d:HR g c)(b:CP c c'):YC B ds c'.w:=⟨Lv h.1 b.size,h.2.ext d b⟩
structure EF (g:Gh) (s:St) (c:Cf) (a:Act) (N:Nat):Prop where
 hp:c.hp=s.hp
 hr:HR g c
 kn:∀i,c.kn i->i<s.nx
 fr:∀t,Au g c (s.fr t) (a.tmps.getD t undef)
 size:a.tmps.size=N
 dfs:YC g.fb a.defers c.w
section
variable {P:Program}{tab:Nat->TI}{g:Gh}{N:Nat}
theorem RE (c:Cf)(x:Value):Au g c (MC x) x:=by
 unfold MC;split
 ·rename_i k;split
  ·rename_i h;refine⟨k,rfl,by simp,fun j y d=> ?_⟩;rw[Lp,La] at d;obtain⟨z,b,rfl⟩:=d;exact⟨z,by simpa using b,RA.v z (LP.1 h z (Lz b))⟩
  trivial
 ·trivial
 rename_i b l;refine RA.v x ?_;cases x<;>first |rfl |(exact absurd rfl (b _)) |(exact absurd rfl (l _))
theorem MG {c:Cf}(h:∀t,Au g c (s.fr t) (a.tmps.getD t undef))(x:Operand):Au g c (ev s.fr x) (a.eval x):=by
 cases x with
 |tmp t=>exact h t
 |const v=>exact RE c v
 |func f=>
  have:=RA.fn (g:=g) (c:=c) f [] (fun _=>undef) 0 rfl (fun j x h=>by simp at h);exact this
 |global n=>trivial
theorem jX {c:Cf}(h:∀t,Au g c (s.fr t) (a.tmps.getD t undef))(b:CP c c'){d:Option Nat}(j:∀t,d=some t->t<a.tmps.size){v:AV}(l:Au g c' v u):
  ∀t,Au g c' (CJ d v s.fr t) ((a.put d u).tmps.getD t undef):=by
 intro t;cases d with
 |none=>exact(h t).ext b
 |some k=>
  simp only[CJ,Act.put];by_cases e:t=k
  ·subst e
   have:=j t rfl;rw[Ap];simpa [Array.getD,this] using l
  rw[Ai _ _ e]
  have:(a.tmps.setIfInBounds k u).getD t undef=a.tmps.getD t undef:=by
   simp only[LI];rw[BE (fun m=>e m.symm)]
  rw[this];exact(h t).ext b
theorem jY (a:Act)(d:Option Nat)(u:Value):(a.put d u).tmps.size=a.tmps.size:=by cases d<;>simp[Act.put]
theorem bQ (a:Act)(d:Option Nat)(u:Value):(a.put d u).defers=a.defers:=by cases d<;>rfl
theorem bR {f:Operand}{d:Array Operand}{j:Array TypeId}(l:o.op= .call { callee:=.value f,args:=d,argTypes:=j }){k:FuncId}(m:Mp P k){h:Array Value}(p:a.eval f= .func (.func k) #[] h)(w:World):
  (execOp a.eval o).run P w= .ok (.enter k (d.map a.eval++h)) w:=by
 have⟨q,r,t,v⟩:=m;have⟨b,z⟩:=NJ.1 v;have A:¬q.name= "runtime.NumGoroutine" :=by simpa using t
 unfold execOp;simp[l,resolve,p,Deferred.ofValue,invoke,callFunc,program,Sem.run,r,A,z]
theorem YD {b:Array Value}{xs:List AV}{R:AV->Value->Prop}(h:∀(j:Nat) (x:AV),xs[j]? =some x->∃u,b[j]? =some u/\R x u):∀(j:Nat) (x:AV),xs[j]? =some x->R x (b.getD j undef):=by
 intro j x d;have⟨u,k,l⟩:=h j x d;rw[LI,k];exact l
theorem bS {c:Cf}(h:∀t,Au g c (s.fr t) (a.tmps.getD t undef))(b:Array Operand){k:List AV}{us:Nat->Value}(p:k.length=n)(q:∀(j:Nat) (x:AV),k[j]? =some x->RA g c x (us j)):
  (b.map a.eval++Array.ofFn (n:=n) fun j=>us j).size=(b.toList.map (ev s.fr)++k).length/\∀(j:Nat) (x:AV),(b.toList.map (ev s.fr)++k)[j]? =some x->∃u,(b.map a.eval++Array.ofFn (n:=n) fun j=>us j)[j]? =some u/\Au g c x u:=by
 refine⟨by simp[p],fun j x d=> ?_⟩;by_cases l:j<b.size
 ·rw[NP (by simpa using l),Lp,La] at d;obtain⟨y,m,rfl⟩:=d;refine⟨a.eval y,?_,MG h y⟩;rw[NN (by simpa using l),Oa];rw[NT] at m;rw[m];rfl
 rw[Nm (by simp;omega)] at d;simp only[LE,NR] at d;have r:=(Lb.1 d).1;refine⟨us (j-b.size),?_,(q _ _ d).toAt⟩;rw[Br (by simp;omega),LD (by simp;omega)];simp
theorem YE {b:Array Value}{j:Nat}(h:j<b.size):b[j]? =some (b.getD j undef):=by simp[Array.getD,h]
theorem jZ {c:Cf}(l:EF g s c a N){f:Operand}{B:Array Operand}{ty:Array TypeId}(q:o.op= .call { callee:=.value f,args:=B,argTypes:=ty }){k:FuncId}{G:List AV}(H:ev s.fr f= .fn k G)
  {ds:List D} {b:Bool} {is:List Nat} {d:D} {fr:Bool} (S:Cj s.hp (B.toList.map (ev s.fr)++G)=some (ds,b,is)) (hp:AI P k ds d fr) (r:is= []\/fr=true) {K:Value->World->Prop}
  (h:∀u c',c'.hp=c.hp->c'.kn=c.kn->CP c c'->HR g c'->Au g c' (CE (!fr&&b) d) u->K u c'.w):
  ∃t,(execOp a.eval o).run P c.w= .ok (.enter k t) c.w/\Calls P k t c.w fun e w'=>∃u,e= .returned u/\K u w':=by
 have J:=MG l.fr f;rw[H] at J;generalize hF:a.eval f=fv at J;cases(show RA g c (.fn k G) fv from J) with
 |fn _ _ us n L Z=>
  have⟨aa,T⟩:=bS l.fr B L Z;refine⟨_,bR q hp.1 hF c.w,?_⟩;generalize (B.map a.eval++Array.ofFn (n:=n) fun j=>us j)=t at aa T;have⟨_,hp⟩:=hp;have U:∀(I:Nat->Prop),(∀k,Im g c b k->I k)->(∀i∈is,I (c.φ i))->t.size=ds.length/\∀(j:Nat) (x:D),ds[j]? =some x->∃u,t[j]? =some u/\Dj c.w I x u:=by
   intro I C w;have⟨g1,g2⟩:=VA l.hr l.hp I (fun j=>t.getD j undef) S (YD T) C w;refine⟨by omega,fun j x V=>⟨_,YE (by have:=(Lb.1 V).1;omega),(g2 j x V).1⟩⟩
  have X:∀(I:Nat->Prop) (u:Value) (w':World),Below c.w.heap.size c.w w'/\c.w.drawn<=w'.drawn->RV w' I d u->(∀k,I k->k<w'.heap.size/\(c.w.heap.size<=k\/Im g c (!fr&&b) k))->K u w':=by
   intro I u w' ⟨p,ab⟩ E hI;have z:CP c ⟨c.hp,c.φ,w',c.kn⟩:=⟨p.os,p.tape,p.output,p.size,fun _ h=>h,fun k m _=>p.block k m,fun id o q H=>.inr ⟨o,q,H,rfl⟩,fun _ _ h=>⟨rfl,h⟩,
    fun id F _ v Y fz m hr=>⟨F,v,Y,fz,hr,Lc _,fun _=>⟨rfl,rfl,fun ad _ e=>⟨ad,(p.block _ (l.hr.dom id _ hr).2.2).trans e,rfl⟩⟩⟩,ab⟩
   have ak:HR g ⟨c.hp,c.φ,w',c.kn⟩:=⟨Lv l.hr.le p.size,fun k m=>LF (l.hr.m0 k m) p.size,fun id o q=>⟨(l.hr.dom id o q).1,(l.hr.dom id o q).2.1,LF (l.hr.dom id o q).2.2 p.size⟩,l.hr.inj,fun id o q=>(l.hr.obj id o q).ext z rfl (p.block _ (l.hr.dom id o q).2.2)⟩;refine h u ⟨c.hp,c.φ,w',c.kn⟩ rfl rfl z ak ?_;have A:RV w' (Im g ⟨c.hp,c.φ,w',c.kn⟩ (!fr&&b)) d u:=E.mono (fun _ _=>rfl) fun k m=>by
    have⟨C,w⟩:=hI k m;rcases w with w |w
    ·refine⟨C,fun hm=> ?_,fun id o q _ e=> ?_,fun _=>Lv l.hr.le w⟩
     ·have:=l.hr.m0 k hm
      have:=l.hr.le;omega
     have:=(l.hr.dom id o q).2.2;simp only at e;omega
    exact w.ext z
   cases d with |v x=>exact(RC.toRA (c:=⟨c.hp,c.φ,w',c.kn⟩) A).toAt |sl F=>exact(RC.toRA (c:=⟨c.hp,c.φ,w',c.kn⟩) A).toAt |pt cs aq=>exact(RC.toRA (c:=⟨c.hp,c.φ,w',c.kn⟩) A).toAt |mp F=>exact(RC.toRA (c:=⟨c.hp,c.φ,w',c.kn⟩) A).toAt |ag cs=>exact A |tu cs=>exact A
  by_cases M:fr=true
  ·subst M;have⟨O,Q⟩:=U (fun k=>k<c.w.heap.size/\¬False) (fun k m=>⟨m.1,fun h=>h⟩) (fun i r=>by
    have⟨F,sz,v,Y,fz,C⟩:=TG S i r;exact⟨(l.hr.dom i _ (l.hp▸C)).2.2,fun h=>h⟩)
   refine(hp c.w (fun _=>False) t (fun _ h=>h.elim) O Q).mono fun e w' ⟨u,z,p,E⟩=>⟨u,z,X _ u w' p E fun k m=>⟨m.1,.inl (m.2.2 rfl)⟩⟩
  have h0:is= []:=by
   rcases r with r |r
   ·exact r
   exact absurd r M
  subst h0;have ao:fr=false:=by simpa using M
  subst ao;have⟨O,Q⟩:=U (fun k=>k<c.w.heap.size/\¬(k<c.w.heap.size/\¬Im g c b k)) (fun k m=>⟨m.1,fun h=>h.2 m⟩) (fun i r=>by simp at r);refine(hp c.w (fun k=>k<c.w.heap.size/\¬Im g c b k) t (fun _ h=>h.1) O Q).mono fun e w' ⟨u,z,p,E⟩=>⟨u,z,X _ u w' p E fun k m=>⟨m.1,?_⟩⟩;by_cases ap:k<c.w.heap.size
  ·refine .inr ?_
   have:Im g c b k:=Bx fun L=>m.2.1 ⟨ap,L⟩
   simpa using this
  exact .inl (by omega)
end
end
section
open Go.RowKit
section
variable {P:Program}{tab:Nat->TI}{g:Gh}{N:Nat}
theorem ja {c:Cf}{w no:Prop}(z:EF g s c a N)(h:Ga ops o s w no):(Region.wanted o (yielded ops a.tmps)=true/\w)\/(Region.wanted o (yielded ops a.tmps)=false/\no):=by
 unfold Ga at h;unfold Region.wanted;split at h
 ·rename_i e;rw[e];exact .inl ⟨rfl,h⟩
 rename_i j t e;rw[e];split at h
 ·rename_i l;refine .inr ⟨?_,h⟩;simp[yielded,l]
 rename_i d l;split at h
 ·rename_i b v;have m:=z.fr d;rw[v] at m;have k:=m.v.1;have q:a.tmps[d]? =some (.bool b):=by
   rw[LI] at k;cases r:a.tmps[d]? with |none=>rw[r] at k;cases k |some x=>rw[r] at k;simp only[Nw] at k;rw[k]
  by_cases p:b=t
  ·refine .inl ⟨?_,h.1 p⟩;simp[yielded,l,q,p]
  refine .inr ⟨?_,h.2 (by cases b<;>cases t<;>simp_all)⟩;simp[yielded,l,q,p]
 ·rename_i v;have m:=z.fr d;rw[v] at m;have⟨vs,k,_,_⟩:=m;refine .inr ⟨?_,h⟩;have q:∀b,a.tmps[d]? ≠some (.bool b):=fun b p=>by
   rw[LI,p] at k;cases k
  simp only[yielded,l,LU];cases r:a.tmps[d]? with
  |none=>rfl
  |some x=>
   cases x with |bool b=>exact absurd r (q b) |_=>rfl
 exact h.elim
theorem YF (c:Cf):Au g c (.tu []) undef:=⟨#[],rfl,rfl,fun j x h=>by simp at h⟩
theorem bT (M:Ad P tab){ops:Array Oper}{r:Nat}{K:St->Prop}{Q:Exit->Act->World->Prop}(O:∀(i:Nat) (o:Oper) (d:Nat),ops[i]? =some o->o.dst=some d->d<N):
  ∀(l:List Nat) (s:St) (c:Cf) (a:Act),l.Nodup->(∀i∈l,i<ops.size)->WL P tab ops r K l s->EF g s c a N->(∀j,c.kn j->∀i∈l,j≠r+i)->r+ops.size<=s.nx->
   (∀s' c' a',K s'->EF g s' c' a' N->CP c c'->s.nx<=s'.nx->(∀i,c'.kn i->c.kn i\/r<=i)->a'.defers=a.defers->Q .normal a' c'.w)->wpOps P ops Q l a c.w
 |[],s,c,a,_,_,h,m,_,_,I=>I s c a h m (CP.refl c) (Lc _) (fun _ h=>.inl h) rfl
 |i::l,s,c,a,hn,S,h,m,T,ab,I=>by
  have⟨ap,ad⟩:=Na.1 hn;unfold WL at h;unfold wpOps;cases J:ops[i]? with
  |none=>
   rw[J] at h;exact bT M O l s c a ad (fun i B=>S i (Lj _ B)) h m (fun j p i B=>T j p i (Lj _ B)) ab I
  |some o=>
   rw[J] at h;have bd:i<ops.size:=(LW.1 J).1;have aq:∀t,o.dst=some t->t<a.tmps.size:=fun t e=>(by rw[m.size];exact O i o t J e);have ar:¬c.kn (r+i):=fun U=>T _ U i (Lo ..) rfl;have L:∀(c':Cf) (v:AV) (u:Value) (hp':Hp) (A:Nat),c'.hp=hp'->HR g c'->CP c c'->Au g c' v u->s.nx<=A->(∀j,c'.kn j->c.kn j\/j=r+i\/(s.nx<=j/\j<A))->WL P tab ops r K l ⟨CJ o.dst v s.fr,hp',A⟩->wpOps P ops Q l (a.put o.dst u) c'.w:=by
    intro c' v u hp' A C E w F z G h7;refine bT M O l _ c' _ ad (fun i B=>S i (Lj _ B)) h7 ⟨C,E,fun j p=> ?_,jX m.fr w aq F,by rw[jY];exact m.size,by rw[bQ];exact m.dfs.ext m.hr w⟩ (fun j p V X=> ?_) (Lv ab z) fun s' av a' k1 k2 k3 k4 k5 k6=>
     I s' av a' k1 k2 (w.trans k3) (Lv z k4) (fun j p=> ?_) (by rw[k6,bQ])
    ·have:=m.kn j;rcases G j p with q |q |q
     ·exact LF (m.kn j q) z
     ·simp only;omega
     exact q.2
    ·rcases G j p with q |q |q
     ·exact T j q V (Lj _ X)
     ·intro e
      have:V=i:=(by omega);subst this;exact ap X
     intro e
     have:=S V (Lj _ X);omega
    rcases k5 j p with q |q
    ·rcases G j q with Y |Y |Y
     ·exact .inl Y
     ·exact .inr (by omega)
     exact .inr (by omega)
    exact .inr q
   rcases ja m h with⟨hw,h⟩ |⟨hw,h⟩;rotate_left
   ·simp only[hw,Nr,if_false];refine L c (.tu []) undef s.hp s.nx m.hp m.hr (CP.refl c) (YF c) (Lc _) (fun j p=>.inl p) h
   simp only[hw,if_true];left;unfold IS at h;split at h
   ·rename_i f Z ag aE;have ak:o.op= .call { callee:=.value f,args:=Z,argTypes:=ag }:=aE;unfold MF at h;split at h
    ·rename_i k a0 hf;rcases h with⟨ds,b,is,d,fr,C,E,w,F⟩ |h
     ·have⟨be,z,G⟩:=jZ (K:=fun u w'=>wpOps P ops Q l (a.put o.dst u) w') m ak hf C E w fun u c' e1 e2 e3 e4 e5=>
       L c' _ u s.hp s.nx (e1.trans m.hp) e4 e3 e5 (Lc _) (fun j p=>.inl (by rw[e2] at p;exact p)) F
      unfold Oper.wp;rw[z,Oper.upon_enter];exact G.mono fun e w' ⟨u,he,U⟩=>by rw[he];exact U
     have⟨a1,a2⟩:=h;have aa:=MG m.fr f;rw[hf] at aa;generalize hF:a.eval f=fv at aa;cases(show RA g c (.fn k a0) fv from aa) with
     |fn _ _ us n a3 a4=>
      have⟨a5,a6⟩:=bS m.fr Z a3 a4;unfold Oper.wp;rw[bR ak a1 hF c.w,Oper.upon_enter];refine(a2 g c _ m.hp m.kn m.hr a5 a6).mono fun e w' ⟨u,v,c',A,he,hR,a7,C,E,w,F,z⟩=> ?_;rw[he,<-a7];exact L c' v u c'.hp A rfl E C w F (fun j p=>(z j p).imp_right .inr) hR
    exact h.elim
   split at h
   ·rename_i v δ hv;rw[<-m.hp] at hv;have⟨a8,u,w',H,a9,ba,bb⟩:=jV (o:=o) (a:=a) m.hr M (fun x=>MG m.fr x) ar hv;have ao:=L ⟨CC δ c.hp,a8,w',fun k=>c.kn k\/k=r+i⟩ v u (CC δ s.hp) s.nx (by rw[m.hp]) ba a9 bb (Lc _) (fun j p=>p.imp_right .inl) h;unfold Oper.wp;rcases H with H |⟨H,hu⟩
    ·rw[H];exact ao
    rw[H,Oper.upon_skip,<-hu];exact ao
   exact h.elim
theorem sZ (m:Region.Mode)(ops:Array Oper):∀(d t:Nat) (b:Array Bool),b.size=ops.size->
  (Region.linearise.go m ops d t b []).Nodup/\∀i∈Region.linearise.go m ops d t b [],i<ops.size/\b[i]? =some false:=by
 intro d;induction d with
 |zero=>intro t b _;simp[Region.linearise.go]
 |succ d v=>
  intro t b w;simp only[Region.linearise.go];split
  ·rename_i i z;rw[linearise_go_acc,OS,OV];have p:=Lz z;simp only[Nb,N9,Ln,NF] at p;obtain⟨A,k,_⟩:=p;have q:b[i]? =some false:=by
    rw[LI] at k;rw[LD (by omega)] at k⊢;simpa using k
   obtain⟨B,r⟩:=v (t / _) (b.setIfInBounds i true) (by simpa using w);refine⟨Na.2 ⟨fun C=> ?_,B⟩,fun j l=> ?_⟩
   ·obtain⟨_,h⟩:=r i C;rw[BY (by omega)] at h;cases h
   rcases Lr.1 l with rfl |l
   ·exact⟨A,q⟩
   obtain⟨h,E⟩:=r j l;refine⟨h,?_⟩;by_cases e:i=j
   ·subst e;exact q
   rwa [BE e] at E
  simp
theorem RF (ops:Array Oper)(t:Nat):(Region.linearise .any ops t).Nodup/\∀i∈Region.linearise .any ops t,i<ops.size:=by
 have⟨b,d⟩:=sZ .any ops ops.size t (Array.replicate ops.size false) (by simp);exact⟨b,fun i h=>(d i h).1⟩
theorem CP.world {c:Cf}(b:HR g c)(d:w'.heap=c.w.heap)(m:w'.os=c.w.os)(p:w'.tape=c.w.tape)(q:w'.output=c.w.output)(r:c.w.drawn<=w'.drawn:=by first |exact Lc _ |exact BB _):CP c ⟨c.hp,c.φ,w',c.kn⟩/\HR g ⟨c.hp,c.φ,w',c.kn⟩:=by
 have l:CP c ⟨c.hp,c.φ,w',c.kn⟩:=⟨m,p,q,by simp only[d];exact Lc _,fun _ h=>h,fun k _ _=>by simp only[d],fun id o j t=>.inr ⟨o,j,t,rfl⟩,fun _ _ h=>⟨rfl,h⟩,
  fun id w _ v z A _ h=>⟨w,v,z,A,h,Lc _,fun _=>⟨rfl,rfl,fun B _ e=>⟨B,by simp only[d];exact e,rfl⟩⟩⟩,r⟩
 exact⟨l,⟨by simp only[d];exact b.le,fun k C=>by simp only[d];exact b.m0 k C,fun id o j=>⟨(b.dom id o j).1,(b.dom id o j).2.1,by simp only[d];exact(b.dom id o j).2.2⟩,b.inj,fun id o j=>(b.obj id o j).ext l rfl (by simp only[d])⟩⟩
theorem CP.less {c:Cf}(k:HR g c){hp':Hp}(q:∀i,hp' i=none\/hp' i=c.hp i):CP c ⟨hp',c.φ,c.w,c.kn⟩/\HR g ⟨hp',c.φ,c.w,c.kn⟩:=by
 have b:∀i o,hp' i=some o->c.hp i=some o:=fun i o h=>by
  rcases q i with l |l
  ·rw[l] at h;cases h
  rw[<-l];exact h
 have m:CP c ⟨hp',c.φ,c.w,c.kn⟩:=⟨rfl,rfl,rfl,Lc _,fun _ h=>h,fun _ _ _=>rfl,fun id o d r=>.inr ⟨o,b id o d,r,rfl⟩,fun id _ h=>⟨rfl,fun o d=>h o (b id o d)⟩,
  fun id t _ v w z _ h=>⟨t,v,w,z,b id _ h,Lc _,fun _=>⟨rfl,rfl,fun A _ e=>⟨A,e,rfl⟩⟩⟩,Lc _⟩
 exact⟨m,⟨k.le,k.m0,fun id o d=>k.dom id o (b id o d),fun i j o p B C=>k.inj i j o p (b i o B) (b j p C),fun id o d=>(k.obj id o (b id o d)).ext m rfl rfl⟩⟩
theorem EF.weak {s':St}{c:Cf}(b:EF g s c a N)(d:JZ s' s):∃c',EF g s' c' a N/\c'.w=c.w/\CP c c'/\c'.kn=c.kn:=by
 have⟨j,k⟩:=CP.less b.hr (hp':=s'.hp) fun i=>by rw[b.hp];exact d.hp i
 refine⟨_,⟨rfl,k,fun i l=>LF (b.kn i l) d.nx,fun t=> ?_,b.size,b.dfs⟩,rfl,j,rfl⟩;rcases d.fr t with h |h
 ·rw[h];trivial
 rw[h];exact(b.fr t).ext j
def Dm (g:Gh)(N:Nat)(Q:Ex->St->Prop)(nx:Nat)(c:Cf)(e:Exit)(a':Act)(w':World):Prop:=∃b s' c',e=b.up/\Q b s'/\EF g s' c' a' N/\c'.w=w'/\CP c c'/\nx<=s'.nx/\∀i,c'.kn i->c.kn i\/nx<=i
theorem Dm.mono {Q d:Ex->St->Prop}{nx:Nat}{c:Cf}(h:Dm g N Q nx c e a' w')(j:∀b s,Q b s->d b s):Dm g N d nx c e a' w':=by
 have⟨b,s',c',k,l,m⟩:=h;exact⟨b,s',c',k,j b s' l,m⟩
theorem Dm.after {Q:Ex->St->Prop}{nx nx':Nat}{c:Cf}(h:Dm g N Q nx' c' e a' w')(j:CP c c')(d:nx<=nx')(k:∀i,c'.kn i->c.kn i\/nx<=i):Dm g N Q nx c e a' w':=by
 have⟨l,s',m,p,q,r,t,v,w,z⟩:=h;refine⟨l,s',m,p,q,r,t,j.trans v,Lv d w,fun i A=> ?_⟩;rcases z i A with b |b
 ·exact k i b
 exact .inr (Lv d b)
structure F0 (n:Nat) (c c':Cf):Prop where
 os:c'.w.os=c.w.os
 tape:c'.w.tape=c.w.tape
 output:c'.w.output=c.w.output
 size:c.w.heap.size<=c'.w.heap.size
 kn:∀id,id<n->c.kn id->c'.kn id
 block:∀k,k<c.w.heap.size->(∀id o,c.hp id=some o->o.fz=false->c.φ id≠k)->c'.w.heap[k]? =c.w.heap[k]?
 muts:∀id o',c'.hp id=some o'->o'.fz=false->c.w.heap.size<=c'.φ id\/∃id0 o,(id0=id\/(n<=id0/\n<=id))/\c.hp id0=some o/\o.fz=false/\c'.φ id=c.φ id0
 keep:∀id,id<n->c.kn id->(∀o,c.hp id=some o->o.isRw=false)->c'.φ id=c.φ id/\∀o',c'.hp id=some o'->o'.isRw=false
 rows:∀id es' sz v' br' fz',id<n->c.kn id->c'.hp id=some (.rw es' sz v' br' fz')->∃es v br fz,c.hp id=some (.rw es sz v br fz)/\v<=v'/\
  (v=v'->c'.φ id=c.φ id/\es.length=es'.length/\∀cur T,c.w.heap[c.φ id]? =some (.cells cur T (0,0))->∃cur',c'.w.heap[c.φ id]? =some (.cells cur' T (0,0))/\cur'.size=cur.size)
 drawn:c.w.drawn<=c'.w.drawn
theorem CP.toR {c:Cf}(h:CP c c'):F0 n c c':=
 ⟨h.os,h.tape,h.output,h.size,fun i _ b=>h.kn i b,h.block,fun id d j k=>(h.muts id d j k).imp_right fun⟨o,e⟩=>⟨id,o,.inl rfl,e⟩,fun i _=>h.keep i,fun i l m v p q _=>h.rows i l m v p q,h.drawn⟩
theorem F0.toE {c:Cf}(h:F0 n c c')(l:HR g c)(d:∀i,c.kn i->i<n):CP c c':=by
 refine⟨h.os,h.tape,h.output,h.size,fun i b=>h.kn i (d i b) b,h.block,fun id m p q=>(h.muts id m p q).imp_right ?_,fun i b=>h.keep i (d i b) b,fun i r t v w z b=>h.rows i r t v w z (d i b) b,h.drawn⟩;rintro⟨j,o,e |⟨e,_⟩,k,A⟩
 ·subst e;exact⟨o,k,A⟩
 have:=d j (l.dom j o k).1;omega
theorem F0.trans {a b c:Cf}(h:F0 n a b)(k:F0 n b c):F0 n a c:=by
 refine⟨k.os.trans h.os,k.tape.trans h.tape,k.output.trans h.output,Lv h.size k.size,fun i j J=>k.kn i j (h.kn i j J),?_,?_,?_,?_,Lv h.drawn k.drawn⟩
 ·intro x F G;refine(k.block x (LF F h.size) fun id o t w=> ?_).trans (h.block x F G);rcases h.muts id o t w with l |⟨z,A,_,l,q,p⟩
  ·omega
  rw[p];exact G z A l q
 ·intro id K t w;rcases k.muts id K t w with l |⟨z,A,d,l,q,p⟩
  ·exact .inl (Lv h.size l)
  rcases h.muts z A l q with r |⟨L,M,m,r,B,C⟩
  ·exact .inl (by rw[p];exact r)
  refine .inr ⟨L,M,?_,r,B,p.trans C⟩;rcases d with d |d<;>rcases m with m |m
  ·exact .inl (m.trans d)
  ·exact .inr ⟨m.1,d▸m.2⟩
  ·exact .inr ⟨m▸d.1,d.2⟩
  exact .inr ⟨m.1,d.2⟩
 ·intro id j v t;have⟨l,q⟩:=h.keep id j v t;have⟨p,r⟩:=k.keep id j (h.kn _ j v) q;exact⟨p.trans l,r⟩
 intro id O H Q S U j v V;have⟨X,v1,Y,Z,l,q,p⟩:=k.rows id O H Q S U j (h.kn _ j v) V;have⟨aa,v0,ab,ad,r,B,C⟩:=h.rows id X H v1 Y Z j v l;refine⟨aa,v0,ab,ad,r,Lv B q,fun e=> ?_⟩;have⟨g1,g2,g3⟩:=p (by omega);have⟨E,g5,g6⟩:=C (by omega);refine⟨g1.trans E,g5.trans g2,fun ag T hc=> ?_⟩;have⟨ak,d,m⟩:=g6 ag T hc;rw[<-E] at d;have⟨ao,I,e4⟩:=g3 ak T d;rw[E] at I;exact⟨ao,I,e4.trans m⟩
theorem YG {ρ:Nat->Option Nat}{o o':AO}(h:Cc ρ o=some o'):o'.fz=o.fz/\o'.isRw=o.isRw:=by
 cases o with
 |bx d=>simp only[Cc,La] at h;obtain⟨_,_,rfl⟩:=h;exact⟨rfl,rfl⟩
 |rw b j v k l=>simp only[Cc,Lf] at h;subst h;exact⟨rfl,rfl⟩
 |mo b m=>simp only[Cc,La] at h;obtain⟨_,_,rfl⟩:=h;exact⟨rfl,rfl⟩
theorem VG {ρ:Nat->Option Nat}:∀ {k b:List AV},ED ρ k=some b->k.length=b.length/\∀(j:Nat) (x:AV),k[j]? =some x->∃y,b[j]? =some y/\CY ρ x=some y
 |[],b,h=>by simp only[ED,Lf] at h;subst h;exact⟨rfl,fun j x h=>by simp at h⟩
 |c::r,b,h=>by
  simp only[ED] at h;split at h
  ·rename_i d v m p;simp only[Lf] at h;subst h;have⟨q,t⟩:=VG p;refine⟨by simp[q],fun j x l=> ?_⟩;cases j with |zero=>simp only[Nf,Lf] at l;subst l;exact⟨d,rfl,m⟩ |succ j=>exact t j x (by simpa using l)
  cases h
theorem jb {ρ:Nat->Option Nat}:∀ {l b:List (Value × AV)},Et ρ l=some b->l.length=b.length/\∀(j:Nat) (k:Value) (x:AV),l[j]? =some (k,x)->∃y,b[j]? =some (k,y)/\CY ρ x=some y
 |[],b,h=>by simp only[Et,Lf] at h;subst h;exact⟨rfl,fun j k x h=>by simp at h⟩
 |(w,c)::r,b,h=>by
  simp only[Et] at h;split at h
  ·rename_i d z p q;simp only[Lf] at h;subst h;have⟨t,v⟩:=jb q;refine⟨by simp[t],fun j k x m=> ?_⟩;cases j with
   |zero=>simp only[Nf,Lf,LB] at m;obtain⟨rfl,rfl⟩:=m;exact⟨d,rfl,p⟩
   |succ j=>exact v j k x (by simpa using m)
  cases h
section
variable {n:Nat}{ρ:Nat->Option Nat}{c c':Cf}{s s':St}
structure RG (ρ:Nat->Option Nat) (c c':Cf):Prop where
 w:c'.w=c.w
 kn:∀i j,ρ i=some j->c.kn j->c'.kn i
 φ:∀i j,ρ i=some j->c'.φ i=c.φ j
 hp:∀i o,c'.hp i=some o->∃j o',ρ i=some j/\Cc ρ o=some o'/\c.hp j=some o'
theorem Im.ren (h:RG ρ c c'){b:Bool}{k:Nat}(d:Im g c b k):Im g c' b k:=by
 have⟨l,m,p,q⟩:=d;refine⟨by rw[h.w];exact l,m,fun id o r t=> ?_,q⟩;have⟨j,v,w,z,A⟩:=h.hp id o r;rw[h.φ id j w];exact p j v A (by rw[(YG z).1];exact t)
theorem RC.ren (h:RG ρ c c'){b:Bool}{d:D}(j:RC c.w (Im g c b) d u):RC c'.w (Im g c' b) d u:=j.mono (fun _ _=>by rw[h.w]) fun _ k=>k.ren h
theorem RA.ren (h:RG ρ c c')(z:RA g c y u):∀ {x:AV},CY ρ x=some y->RA g c' x u:=by
 have E:∀i j,ρ i=some j->(∀o,c.hp j=some o->o.isRw=false)->∀o,c'.hp i=some o->o.isRw=false:=fun i j e A o l=>by
  have⟨I,F,k,B,C⟩:=h.hp i o l;rw[e] at k;cases k;rw[<-(YG B).2];exact A F C
 have G:∀i j,ρ i=some j->∀m p v q r,c'.hp i=some (.rw m p v q r)->c.hp j=some (.rw m p v q r):=fun i j e m p v q r l=>by
  have⟨I,F,k,B,C⟩:=h.hp i _ l;rw[e] at k;cases k;simp only[Cc,Lf] at B;subst B;exact C
 induction z with
 |v x J=>
  intro y e;cases y<;>simp[CY,La] at e;subst e;exact .v _ J
 |d x b u l=>
  intro y e;cases y<;>simp[CY,La] at e;obtain⟨rfl,rfl⟩:=e;exact .d _ _ u (l.ren h)
 |pt id H w A=>
  intro y e;cases y<;>simp[CY,La] at e;rename_i i o;obtain⟨_,k,rfl,rfl⟩:=e;rw[<-h.φ i _ k];exact .pt i _ (h.kn i _ k w) (E i _ k A)
 |mo id w A=>
  intro y e;cases y<;>simp[CY,La] at e;rename_i i;rw[<-h.φ i id e];exact .mo i (h.kn i id e w) (E i id e A)
 |pr id K i H u w hp l=>
  intro y e;cases y<;>simp[CY,La] at e;rename_i t _ _ _;obtain⟨_,k,rfl,rfl,rfl,rfl⟩:=e;refine .pr t _ _ _ u (h.kn t _ k w) hp fun m p v q r z=> ?_;rw[h.φ t _ k];exact l m p v q r (G t _ k m p v q r z)
 |so id K H U u w hp l=>
  intro y e;cases y<;>simp[CY,La] at e;rename_i t _ _ _;obtain⟨_,k,rfl,rfl,rfl,rfl⟩:=e;refine .so t _ _ _ u (h.kn t _ k w) hp fun m p v q r z=> ?_;rw[h.φ t _ k,h.w];exact l m p v q r (G t _ k m p v q r z)
 |fn f V L n w l M=>
  intro y e;cases y<;>simp[CY,La] at e;obtain⟨k,rfl⟩:=e;have⟨X,O⟩:=VG k;refine .fn _ _ L n (by omega) fun j x Q=> ?_;have⟨y,S,T⟩:=O j x Q;exact M j y S T
theorem Dk.ren (h:RG ρ c c')(e:CY ρ x=some y)(d:Dk g c y u):Dk g c' x u:=by
 unfold Dk;split
 ·trivial
 ·rename_i p;simp only[CY,La] at e;obtain⟨E,q,rfl⟩:=e;have⟨vs,k,m,l⟩:=d;have⟨F,r⟩:=VG q;refine⟨vs,k,by omega,fun j x t=> ?_⟩;have⟨y,v,w⟩:=r j x t;have⟨z,A,B⟩:=l j y v;exact⟨z,A,B.ren h w⟩
 ·rename_i p b;simp only[CY,Lf] at e;subst e;exact Dj.mono (fun _ _=>by rw[h.w]) (fun _ C=>C.ren h) d
 rename_i k m l;unfold Dk at d;split at d
 ·cases x<;>simp[CY,La] at e;exact absurd rfl k
 ·cases x<;>simp[CY,La] at e;exact absurd rfl (m _)
 ·cases x<;>simp[CY,La] at e;obtain⟨rfl,rfl⟩:=e;exact absurd rfl (l _ _)
 exact d.ren h e
theorem Au.ren (h:RG ρ c c')(e:CY ρ x=some y)(d:Au g c y u):Au g c' x u:=by
 unfold Au;split
 ·rename_i m;simp only[CY,La] at e;obtain⟨E,p,rfl⟩:=e;have⟨vs,k,l,q⟩:=d;have⟨F,r⟩:=VG p;refine⟨vs,k,by omega,fun j x t=> ?_⟩;have⟨y,v,w⟩:=r j x t;have⟨z,A,B⟩:=q j y v;exact⟨z,A,B.ren h w⟩
 ·rename_i m b;simp only[CY,Lf] at e;subst e;exact RV.mono (fun _ _=>by rw[h.w]) (fun _ C=>C.ren h) d
 rename_i k l;unfold Au at d;split at d
 ·cases x<;>simp[CY,La] at e;exact absurd rfl (k _)
 ·cases x<;>simp[CY,La] at e;obtain⟨rfl,rfl⟩:=e;exact absurd rfl (l _ _)
 exact Dk.ren h e d
theorem OK.ren (h:RG ρ c c'){j:Nat}(t:ρ i=some j){o o':AO}(e:Cc ρ o=some o')(w:OK g c j o'):OK g c' i o:=by
 cases o with
 |bx I=>
  simp only[Cc,La] at e;obtain⟨J,l,rfl⟩:=e;have⟨K,A⟩:=VG l;have⟨T,vs,m,B,p⟩:=w;refine⟨T,vs,by rw[h.w,h.φ i j t];exact m,by omega,fun k x E=> ?_⟩;have⟨y,q,r⟩:=A k x E;have⟨z,F,G⟩:=p k y q;exact⟨z,F,G.ren h r⟩
 |rw L X v br fz=>
  simp only[Cc,Lf] at e;subst e;have⟨m,B,T,vs,C,p,H,M,O,Q⟩:=w;refine⟨m,B,T,vs,C,by rw[h.w,h.φ i j t];exact p,H,M,O,fun a b I d l S=> ?_⟩;have⟨u,q,r⟩:=Q a b I d l S;exact⟨u,q,r.ren h⟩
 |mo L dl=>
  simp only[Cc,La] at e;obtain⟨J,l,rfl⟩:=e;have⟨K,A⟩:=jb l;have⟨U,k,m,B,p,H⟩:=w;refine⟨U,k,by rw[h.w,h.φ i j t];exact m,by omega,p,fun a x y E=> ?_⟩;have⟨z,q,r⟩:=A a x y E;have⟨e,F,G,V⟩:=H a x z q;exact⟨e,F,G,Dk.ren h r V⟩
theorem EF.ren {n:Nat}{s s':St}{c:Cf}{ρ:Nat->Option Nat}(z:EF g s c a N)(w:Ren n ρ s' s):∃c',EF g s' c' a N/\c'.w=c.w/\F0 n c c'/\∀i,c'.kn i->c.kn i\/n<=i:=by
 have m:RG ρ c ⟨s'.hp,fun i=>c.φ ((ρ i).getD 0),c.w,fun i=>∃j,ρ i=some j/\c.kn j⟩:=⟨rfl,fun i j A E=>⟨j,A,E⟩,fun i j h=>by simp[h],fun i o h=>by rw[z.hp];exact w.hp i o h⟩;have F:∀i,i<n->∀o,s'.hp i=some o->∃q,Cc ρ o=some q/\c.hp i=some q:=fun i d o h=>by
  have⟨j,q,b,l,r⟩:=m.hp i o h;rw[w.old i d] at b;cases b;exact⟨q,l,r⟩
 refine⟨⟨s'.hp,fun i=>c.φ ((ρ i).getD 0),c.w,fun i=>∃j,ρ i=some j/\c.kn j⟩,⟨rfl,⟨z.hr.le,z.hr.m0,?_,?_,?_⟩,?_,?_,z.size,z.dfs⟩,rfl,⟨rfl,rfl,rfl,Lc _,?_,fun _ _ _=>rfl,?_,?_,?_,Lc _⟩,?_⟩
 ·intro id o B;have⟨j,q,b,l,r⟩:=m.hp id o B;have⟨A,E,J⟩:=z.hr.dom j q r;rw[m.φ id j b];exact⟨⟨j,b,A⟩,E,J⟩
 ·intro i k o p d C K;have⟨j,q,b,l,r⟩:=m.hp i o d;have⟨G,L,H,V,M⟩:=m.hp k p C;rw[m.φ i j b,m.φ k G H];exact z.hr.inj j G q L r M fun e=>K (w.inj i k j b (e▸H))
 ·intro id o B;have⟨j,q,b,l,r⟩:=m.hp id o B;exact OK.ren m b l (z.hr.obj j q r)
 ·rintro i ⟨j,b,l⟩;by_cases d:i<n
  ·exact LF d w.nx
  exact(w.new i j (by omega) b).2
 ·intro t;rcases w.fr t with h |h
  ·rw[h];trivial
  exact Au.ren m h (z.fr t)
 ·intro id d C;exact⟨id,w.old id d,C⟩
 ·intro id o B O;have⟨j,q,b,l,r⟩:=m.hp id o B;refine .inr ⟨j,q,?_,r,by rw[(YG l).1];exact O,m.φ id j b⟩;by_cases d:id<n
  ·rw[w.old id d] at b;cases b;exact .inl rfl
  exact .inr ⟨(w.new id j (by omega) b).1,by omega⟩
 ·intro id d C B;refine⟨m.φ id id (w.old id d),fun q A=> ?_⟩;have⟨I,l,r⟩:=F id d q A;rw[<-(YG l).2];exact B I r
 ·intro id Q X v S T d C A;have⟨I,l,r⟩:=F id d _ A;simp only[Cc,Lf] at l;subst l;rw[m.φ id id (w.old id d)];exact⟨Q,v,S,T,r,Lc _,fun _=>⟨rfl,rfl,fun U _ e=>⟨U,e,rfl⟩⟩⟩
 rintro i ⟨j,b,l⟩;by_cases d:i<n
 ·rw[w.old i d] at b;cases b;exact .inl l
 exact .inr (by omega)
theorem EF.dat {s s':St}{c:Cf}{a:Act}(m:EF g s c a N)(Y:jW s' s):∃c',EF g s' c' a N/\c'.w=c.w/\CP c c'/\c'.kn=c.kn:=by
 have C:∀i l,s'.hp i=some l->∃o,c.hp i=some o/\KR c.hp s'.hp o l:=fun i l h=>by
  rw[m.hp];exact Y.hp i l h
 have J:CP c ⟨s'.hp,c.φ,c.w,c.kn⟩:=by
  refine⟨rfl,rfl,rfl,Lc _,fun _ h=>h,fun _ _ _=>rfl,?_,?_,?_,Lc _⟩
  ·intro id l E Q;have⟨o,r,w⟩:=C id l E;refine .inr ⟨o,r,?_,rfl⟩;cases w with |same=>exact Q |fz=>cases Q |bx _=>rfl
  ·intro id _ F;refine⟨rfl,fun l E=> ?_⟩;have⟨o,r,w⟩:=C id l E
   have:=F o r;cases w with |same=>exact this |fz=>exact this |bx _=>rfl
  intro id ab S v' ad ar _ hr;have⟨o,r,w⟩:=C id _ hr;cases w with
  |same=>exact⟨ab,v',ad,ar,r,Lc _,fun _=>⟨rfl,rfl,fun Z _ e=>⟨Z,e,rfl⟩⟩⟩
  |fz _ _ _ _ av=>exact⟨ab,v',ad,av,r,Lc _,fun _=>⟨rfl,rfl,fun Z _ e=>⟨Z,e,rfl⟩⟩⟩
 have ak:∀ {i:Nat} {o:AO} (b:Bool),c.hp i=some o->(∀l,s'.hp i=some l->l.fz=true)->Im g ⟨s'.hp,c.φ,c.w,c.kn⟩ b (c.φ i):=by
  intro i o b A Q;have⟨_,w,G⟩:=m.hr.dom i o A;refine⟨G,fun H=> ?_,fun j p z hp e=> ?_,fun _=>w.1⟩
  ·exact w.2 H
  by_cases e2:j=i
  ·subst e2;rw[Q p z] at hp;cases hp
  have⟨q,L,_⟩:=C j p z;exact m.hr.inj j i q o L A e2 e
 have ao:∀ {b B:Bool} {k:Nat},(b=true->B=true)->Im g c b k->Im g ⟨s'.hp,c.φ,c.w,c.kn⟩ B k:=by
  intro b B k M F
  have:=F.ext J;cases B with
  |true=>exact this.weak
  |false=>cases b with |true=>exact absurd (M rfl) (by decide) |false=>exact this
 have ap:∀ {x y:AV} {u:Value},KP c.hp s'.hp x y->RA g c x u->RA g ⟨s'.hp,c.φ,c.w,c.kn⟩ y u:=by
  intro x y u h I;cases h with
  |same=>exact I.ext J
  |dat d b B is h M A=>
   exact .d _ _ _ (U6 m.hr rfl I h (Im g ⟨s'.hp,c.φ,c.w,c.kn⟩ B) (fun k F=>ao M F) fun i H=>by
    have⟨O,S,v,fz,G⟩:=U8 h i H;exact ak B G (A i H))
 have aq:∀ {U V:List AV},Ja c.hp s'.hp U V->U.length=V.length/\∀(j:Nat) (y:AV),V[j]? =some y->∃x,U[j]? =some x/\KP c.hp s'.hp x y:=by
  intro U V h;induction h with
  |nil=>exact⟨rfl,fun j y h=>by simp at h⟩
  |cons h _ ih=>
   refine⟨by simp[ih.1],fun j y z=> ?_⟩;cases j with |zero=>simp at z;subst z;exact⟨_,rfl,h⟩ |succ j=>exact ih.2 j y (by simpa using z)
 refine⟨⟨s'.hp,c.φ,c.w,c.kn⟩,⟨rfl,⟨m.hr.le,m.hr.m0,?_,?_,?_⟩,fun i A=>LF (m.kn i A) Y.nx,?_,m.size,m.dfs⟩,rfl,J,rfl⟩
 ·intro id l E;have⟨o,r,_⟩:=C id l E;exact m.hr.dom id o r
 ·intro i j l p' A z aE;have⟨o,r,_⟩:=C i l A;have⟨p,w,_⟩:=C j p' z;exact m.hr.inj i j o p r w aE
 ·intro id l E;have⟨o,r,w⟩:=C id l E;have aa:=m.hr.obj id o r;cases w with
  |same=>exact aa.ext J rfl rfl
  |fz O S v br fz=>exact OK.ext (o:=.rw O S v br fz) J aa rfl rfl
  |bx h=>
   have⟨G,L⟩:=aq h;have⟨T,vs,k1,k2,k3⟩:=aa;refine⟨T,vs,k1,by omega,fun j y z=> ?_⟩;have⟨x,h5,h6⟩:=L j y z;have⟨u,h7,h8⟩:=k3 j x h5;exact⟨u,h7,ap h6 h8⟩
 intro t;have I:=m.fr t;have X:=Y.fr t;rw[<-m.hp] at X;generalize s.fr t=x at I X;generalize s'.fr t=y at X;cases X with
 |same=>exact I.ext J
 |un=>trivial
 |ag h=>
  have⟨G,L⟩:=aq h;have⟨vs,k1,k2,k3⟩:=I;refine⟨vs,k1,by omega,fun j y z=> ?_⟩;have⟨x,h5,h6⟩:=L j y z;have⟨u,h7,h8⟩:=k3 j x h5;exact⟨u,h7,ap h6 h8⟩
 |dat _ d b B is h M A=>
  have K:=X7 m.hr rfl (Im g ⟨s'.hp,c.φ,c.w,c.kn⟩ B) h I (fun k F=>ao M F) fun i H=>by
   have⟨O,S,v,br,fz,G⟩:=X8 h i H;exact ak B G (A i H)
  cases d with |v x=>exact RA.d _ _ _ K.1 |sl O=>exact RA.d _ _ _ K.1 |pt cs a0=>exact RA.d _ _ _ K.1 |mp O=>exact RA.d _ _ _ K.1 |ag cs=>exact K.1 |tu cs=>exact absurd rfl (K.2.1 cs)
theorem EF.weakR {n:Nat}{s s':St}{c:Cf}(p:EF g s c a N)(q:n<=s.nx)(b:CH n s' s):∃c',EF g s' c' a N/\c'.w=c.w/\F0 n c c'/\n<=s'.nx/\∀i,c'.kn i->c.kn i\/n<=i:=by
 induction b generalizing c with
 |weak b=>
  have⟨c',d,j,k,l⟩:=p.weak b;exact⟨c',d,j,k.toR,Lv q b.nx,fun i m=>.inl (l▸m)⟩
 |ren ρ b=>
  have⟨c',d,j,k,l⟩:=p.ren b;exact⟨c',d,j,k,b.nx,l⟩
 |dat b=>
  have⟨c',d,j,k,l⟩:=p.dat b;exact⟨c',d,j,k.toR,Lv q b.nx,fun i m=>.inl (l▸m)⟩
 |trans _ _ r t=>
  have⟨F,d,j,k,l,v⟩:=t p q;have⟨w,z,A,B,C,E⟩:=r d l;exact⟨w,z,A.trans j,k.trans B,C,fun i m=>(E i m).elim (fun h=>v i h) .inr⟩
end
def C7 (g:Gh)(N:Nat)(Q:Ex->St->Prop)(n:Nat)(c:Cf)(e:Exit)(a':Act)(w':World):Prop:=∃b s' c',e=b.up/\Q b s'/\EF g s' c' a' N/\c'.w=w'/\F0 n c c'/\n<=s'.nx/\∀i,c'.kn i->c.kn i\/n<=i
theorem Dm.toR {Q:Ex->St->Prop}{nx:Nat}{c:Cf}(h:Dm g N Q nx c e a' w')(b:n<=nx):C7 g N Q n c e a' w':=by
 have⟨d,s',c',j,k,l,m,p,q,r⟩:=h;exact⟨d,s',c',j,k,l,m,p.toR,Lv b q,fun i t=>(r i t).imp_right (Lv b)⟩
theorem C7.after {Q:Ex->St->Prop}{c:Cf}(h:C7 g N Q n c' e a' w')(d:F0 n c c')(j:∀i,c'.kn i->c.kn i\/n<=i):C7 g N Q n c e a' w':=by
 have⟨k,s',l,m,p,q,r,t,v,w⟩:=h;refine⟨k,s',l,m,p,q,r,d.trans t,v,fun i z=> ?_⟩;rcases w i z with b |b
 ·exact j i b
 exact .inr b
theorem C7.toE {Q:Ex->St->Prop}{c:Cf}(h:C7 g N Q n c e a' w')(b:HR g c)(d:∀i,c.kn i->i<n):Dm g N Q n c e a' w':=by
 have⟨j,s',c',k,l,m,p,q,r,t⟩:=h;exact⟨j,s',c',k,l,m,p,q.toE b d,r,t⟩
theorem jc (q:Ad P tab){Q:Ex->St->Prop}(m:D2 N (.region id ops false)=true){l:List Nat}(p:l.Nodup/\∀i∈l,i<ops.size){c c0:Cf}(b:EF g s c a N)(r:CP c0 c)(t:∀i,c.kn i->c0.kn i)
  (h:WL P tab ops s.nx (Q .normal) l ⟨s.fr,s.hp,s.nx+ops.size⟩):wpOps P ops (fun e a' w'=>Dm g N Q s.nx c0 e a' w'/\a'.defers=a.defers) l a c.w:=by
 refine bT q (fun i o d v w=> ?_) l ⟨s.fr,s.hp,s.nx+ops.size⟩ c a p.1 p.2 h ⟨b.hp,b.hr,fun i k=>LF (b.kn i k) (N6 _ _),b.fr,b.size,b.dfs⟩ (fun j z i _=> ?_) (Lc _) fun s' c' a' A B C E F G=>
  ⟨⟨.normal,s',c',rfl,A,B,rfl,r.trans C,Lv (N6 _ _) E,fun i k=>(F i k).imp_left (t i)⟩,G⟩
 ·simp only[D2,Ij] at m
  have:=m o (Ol v);rw[w] at this;simpa using this
 have:=b.kn j z;omega
theorem bU (V:Ad P tab)(X:P.follows .mixedOrders=true):∀(I:Code) (Q:Ex->St->Prop) (s:St) (c:Cf) (a:Act),D2 N I=true->W P tab I Q s->EF g s c a N->I.wp P (Dm g N Q s.nx c) a c.w:=by
 intro I;have J:∀ {Q:Ex->St->Prop} {s:St} {c:Cf} {a:Act} (A:Ex),Q A s->EF g s c a N->Dm g N Q s.nx c A.up a c.w:=fun A F d=>⟨A,_,_,rfl,F,d,rfl,CP.refl _,Lc _,fun _ h=>.inl h⟩;induction I with
 |skip=>exact fun Q s c a _ h d=>wp_skip (J .normal h d)
 |label l=>exact fun Q s c a _ h d=>wp_label (J .normal h d)
 |ret=>exact fun Q s c a _ h d=>wp_ret (J .ret h d)
 |exit n=>exact fun Q s c a _ h d=>wp_exit (J (.exit n) h d)
 |region id ops Y=>
  intro Q s c a p h d;cases Y with
  |false=>exact Code.wp_mono (Q:=fun e a' w'=>Dm g N Q s.nx c e a' w'/\a'.defers=a.defers) (fun _ _ _ h=>h.1) (wp_region (jc V p ⟨IE,fun i L=>N9.1 L⟩ d (CP.refl c) (fun _ h=>h) h))
  |true=>
   refine Code.wp_mono (Q:=fun e a' w'=>Dm g N Q s.nx c e a' w'/\a'.defers=a.defers) (fun _ _ _ h=>h.1) (wp_region_draw fun t=> ?_);simp only[Region.schedule,X,Oq,if_true];have⟨M,Z⟩:=CP.world d.hr (w':={ c.w with drawn:=c.w.drawn+1 }) rfl rfl rfl rfl;exact jc (id:=id) (c:=⟨c.hp,c.φ,{ c.w with drawn:=c.w.drawn+1 },c.kn⟩) V p (RF ops t) ⟨d.hp,Z,d.kn,fun t=>(d.fr t).ext M,d.size,d.dfs.ext d.hr M⟩ M (fun _ h=>h) (h t)
 |seq x y aa O=>
  intro Q s c a p h d;simp only[D2,Ln] at p;refine wp_seq (Code.wp_mono (fun e a' w' hp=> ?_) (aa _ s c a p.1 h d));have⟨A,s',c',G,j,q,B,r,v,w⟩:=hp;subst G;subst B;cases A with
  |normal=>exact Code.wp_mono (fun e a' w' hp=>Dm.after hp r v w) (O _ s' c' a' p.2 j q)
  |ret=>exact⟨.ret,s',c',rfl,j,q,rfl,r,v,w⟩
  |exit n=>exact⟨.exit n,s',c',rfl,j,q,rfl,r,v,w⟩
 |cond x y z O ab=>
  intro Q s c a p h d;simp only[D2,Ln] at p;unfold W at h;split at h
  ·rename_i t e;have hv:=(show Au g c (.v (.bool t)) (a.eval x) by rw[<-e];exact MG d.fr x).v.1;exact wp_cond_split hv (fun S=>O Q s c a p.1 (h.1 S) d) fun S=>ab Q s c a p.2 (h.2 S) d
  ·exact h.elim
 |block n x T=>
  intro Q s c a p h d;refine wp_block (Code.wp_mono (fun e a' w' hp=> ?_) (T _ s c a p h d));have⟨A,s',c',G,j,q,B,r,v,w⟩:=hp;subst G;cases A with
  |normal=>exact⟨.normal,s',c',rfl,j,q,B,r,v,w⟩
  |ret=>exact⟨.ret,s',c',rfl,j,q,B,r,v,w⟩
  |exit m=>
   simp only[Ex.up,Exit.inBlock];by_cases e:m=n
   ·rw[if_pos e];simp only[if_pos e] at j;exact⟨.normal,s',c',rfl,j,q,B,r,v,w⟩
   ·rw[if_neg e];simp only[if_neg e] at j;exact⟨.exit m,s',c',rfl,j,q,B,r,v,w⟩
 |loop x T=>
  intro Q s c a p h d;have ad:=h (fun K=>s.nx<=K.nx->∀(c:Cf) (a:Act),EF g K c a N->∀(b:Frame) (k:List Item) (C:List Frame),∃e a' w',C7 g N Q s.nx c e a' w'/\Arrives P (lone (b.at a (.code x:: .inLoop x::k)) C c.w) b k C e a' w') ?_ ?_ (Lc _) c a d
  ·intro b k C;have⟨e,a',w',F,E⟩:=ad b k C;exact⟨e,a',w',F.toE d.hr d.kn,.of_steps (.one step_loop) E⟩
  ·intro K hW H c a d b k C;have⟨e,U,ar,F,E⟩:=T _ K c a p hW d b (.inLoop x::k) C;have⟨A,s',c',G,j,q,B,r,v,w⟩:=F;subst G;subst B;cases A with
   |normal=>
    have⟨ag,ak,ao,ap,aq⟩:=j (Lv H v) c' U q b k C;exact⟨ag,ak,ao,C7.after ap r.toR fun i L=>(w i L).imp_right (Lv H),.of_steps (Steps.trans E (.one step_inLoop)) aq⟩
   |ret=>exact⟨_,U,_,Dm.toR ⟨.ret,s',c',rfl,j,q,rfl,r,v,w⟩ H,.pass (x:=.inLoop x) rfl (fun _ _=>.inl (by simp[Ex.up])) E⟩
   |exit n=>exact⟨_,U,_,Dm.toR ⟨.exit n,s',c',rfl,j,q,rfl,r,v,w⟩ H,.pass (x:=.inLoop x) rfl (fun _ _=>.inl (by simp[Ex.up])) E⟩
  ·intro s1 s2 hw hX H c a d b k C;have⟨c',G,j,q,B,r⟩:=d.weakR H hw;have⟨e,a',w',F,E⟩:=hX B c' a G b k C;rw[j] at E;exact⟨e,a',w',C7.after F q r,E⟩
 |_=>exact fun Q s c a _ h d=>h.elim
end
end
section
open Go.RowKit
def Pf:AV->Bool
 | .tu _ | .d (.tu _) _=>false
 |_=>true
def Pg (tab:Nat->TI)(s:St):ResultVar->Option AV
 | .tmp t=>if Pf (s.fr t) then some (s.fr t) else none
 | .cell x T=>if (tab T).ok then match s.fr x with
  | .pt i b=>match s.hp i with
   |some (.bx d)=>if (tab T).agg then(sub b (tab T).size d).map AV.ag else match d[b]? with
    |some v=>if Pf v then some v else none
    |none=>none
   |_=>none
  |_=>none else none
def Mq (tab:Nat->TI)(s:St):List ResultVar->Option (List AV)
 |[]=>some []
 |r::b=>match Pg tab s r,Mq tab s b with
  |some v,some vs=>some (v::vs)
  |_,_=>none
def EJ (tab:Nat->TI)(rs:Array ResultVar)(s:St):Option AV:=
 match Mq tab s rs.toList with
 |some [v]=>some v
 |some vs=>some (.tu vs)
 |none=>none
def Dw (vs:List AV):Fr:=fun t=>vs.getD t (.tu [])
structure Gi (hp' hp:Hp):Prop where
 h:∀i,hp' i=none\/hp' i=hp i
section
variable {P:Program}{tab:Nat->TI}{g:Gh}{N:Nat}
theorem jd {c:Cf}(h:Pf x=true)(j:Au g c x u):Dk g c x u:=by
 cases x with
 |tu k=>cases h
 |d x b=>cases x with |tu k=>cases h |_=>exact j
 |_=>exact j
theorem sa (w:Ad P tab){c:Cf}(d:EF g s c a N){r:ResultVar}{v:AV}(h:Pg tab s r=some v):
  ∃u,(match r with | .tmp t=>(pure (a.tmps.getD t undef):Sem Value) | .cell x T=>do loadVar T (<-asAddr (a.tmps.getD x undef))).run P c.w= .ok u c.w/\Dk g c v u:=by
 cases r with
 |tmp t=>
  simp only[Pg] at h;split at h
  ·rename_i F;cases h;exact⟨_,rfl,jd F (d.fr t)⟩
  ·cases h
 |cell x T=>
  simp only[Pg] at h;split at h;rotate_left
  ·cases h
  rename_i z;split at h;rotate_left
  ·cases h
  rename_i i b e;have G:=(show Au g c (.pt i b) (a.tmps.getD x undef) by rw[<-e];exact d.fr x).pt.1;split at h;rotate_left
  ·cases h
  rename_i S A;rw[<-d.hp] at A;have⟨U,vs,H,V,B⟩:=d.hr.obj i _ A;have C:∀k,c.w.cell? ⟨c.φ i,k,none⟩=vs[k]? :=fun k=>by simp[World.cell?,H]
  simp only[G,asAddr,Sem.run_bind,Sem.run_pure,Result.andThen_ok];split at h
  ·rename_i l;obtain⟨ys,I,rfl⟩:=La.1 h;have⟨h4,J,h6⟩:=Xz I;have K:=iW w z l c.w ⟨c.φ i,b,none⟩ ((vs.toList.drop b).take (tab T).size) (by rw[LC,Nv];simp;omega) (fun j u m=>by
    have⟨_,L⟩:=ME _ _ _ _ _ m;rw[IQ,C];simpa using L)
   refine⟨_,K,_,rfl,by simp;omega,fun j y E=> ?_⟩;rw[J] at E;have⟨m,M⟩:=ME _ _ _ _ _ E;have⟨u,p,q⟩:=B _ _ M;refine⟨u,?_,q⟩;rw[Nx,Nq,if_pos m,NV];simpa using p
  rename_i l;split at h
  ·rename_i v' O;split at h
   ·rename_i Q;cases h;have⟨u,p,q⟩:=B b v O;exact⟨u,iX w z (by simpa using l) c.w _ u ((C b).trans p),jd Q q.toAt⟩
   cases h
  cases h
theorem bV (l:Ad P tab){s:St}{c:Cf}{a:Act}(m:EF g s c a N):∀ {d:List ResultVar} {vs:List AV},Mq tab s d=some vs->
  ∃b:List Value,(d.mapM fun(r:ResultVar)=>match r with | .tmp t=>(pure (a.tmps.getD t undef):Sem Value) | .cell x T=>do loadVar T (<-asAddr (a.tmps.getD x undef))).run P c.w= .ok b c.w/\b.length=vs.length/\∀(j:Nat) (v:AV),vs[j]? =some v->∃u,b[j]? =some u/\Dk g c v u
 |[],vs,h=>by
  simp only[Mq,Lf] at h;subst h;exact⟨[],rfl,rfl,fun j v h=>by simp at h⟩
 |r::d,vs,h=>by
  simp only[Mq] at h;split at h
  ·rename_i v E p q;cases h;have⟨u,w,z⟩:=sa l m p;have⟨b,A,B,C⟩:=bV l m q;refine⟨u::b,?_,by simp[B],fun j v k=> ?_⟩
   ·rw[List.mapM_cons,Sem.run_bind,w,Result.andThen_ok,Sem.run_bind,A,Result.andThen_ok];rfl
   cases j with |zero=>simp at k;subst k;exact⟨u,rfl,z⟩ |succ j=>exact C j v (by simpa using k)
  cases h
theorem sd (p:Ad P tab){c:Cf}(q:EF g s c a N){fn:Func}{v:AV}(h:EJ tab fn.results s=some v):∃u,(results fn a.tmps).run P c.w= .ok u c.w/\Au g c v u:=by
 unfold EJ at h;have w:∀b:List Value,(fn.results.toList.mapM fun(r:ResultVar)=>match r with | .tmp t=>(pure (a.tmps.getD t undef):Sem Value) | .cell x T=>do loadVar T (<-asAddr (a.tmps.getD x undef))).run P c.w= .ok b c.w->
   (results fn a.tmps).run P c.w= .ok (if h:b.toArray.size=1 then b.toArray[0] else .tuple b.toArray) c.w:=by
  intro b z;unfold results;rw[Sem.run_bind,Array.mapM_eq_mapM_toList,Sem.run_map];refine(congrArg (fun r=>Result.andThen (Result.andThen r _) _) z).trans ?_;simp only[Result.andThen_ok];split<;>simp_all
 split at h
 ·rename_i x d;cases h;have⟨b,k,l,m⟩:=bV p q d
  match b,l with
  |[u],_=>
   have⟨H,A,B⟩:=m 0 v rfl;cases A;exact⟨u,by rw[w _ k];rfl,B.toAt⟩
 ·rename_i vs C d;cases h;have⟨b,k,l,m⟩:=bV p q d;refine⟨.tuple b.toArray,?_,b.toArray,rfl,by simpa using l,fun j x E=> ?_⟩
  ·rw[w _ k,dif_neg];intro e;simp only[Ng] at e
   match vs,(show vs.length=1 by omega) with |[x],_=>exact C x rfl
  have⟨u,F,G⟩:=m j x E;exact⟨u,by simpa using F,G⟩
 cases h
end
end
section
open Go.RowKit
theorem RC.via {w:World}{I F:Nat->Prop}(G:∀b,I b->w'.heap[b]? =w.heap[b]? \/w.heap[b]? =some (.deferred (some [])))(z:∀b,I b->F b){d:D}(h:RC w I d u):RC w' F d u:=by
 have H:∀(a:Addr) (v:Value),I a.block->w.cell? a=some v->w'.cell? a=some v:=fun a v K q=>by
  rcases G a.block K with h |h
  ·exact(World.cell?_of_block h).trans q
  unfold World.cell? at q;rw[h] at q;cases q
 induction h with
 |v x h=>exact .v x h
 |nl a c=>exact .nl a c
 |sl A b o c J B l m t C L p=>exact .sl A b o c J B (z b l) m t (fun i j E d M O=>H ⟨b,o+i*J+j,none⟩ _ l (C i j E d M O)) p
 |pt E Q b o B l m t p=>exact .pt E Q b o B (z b l) (fun j d e=>H ⟨b,o+j,none⟩ _ l (m j d e)) p
 |mp A r S k l m t C L p=>
  refine .mp A r S k (z r l) ?_ t C p;rcases G r l with h |h
  ·exact h.trans m
  rw[h] at m;cases m
structure Gj (g g':Gh) (c c':Cf):Prop where
 im:∀b k,Im g c b k->Im g' c' b k
 mem:∀b k,Im g c b k->c'.w.heap[k]? =c.w.heap[k]? \/c.w.heap[k]? =some (.deferred (some []))
 kn:∀id,c.kn id->c'.kn id/\c'.φ id=c.φ id
 hp:∀id o,c'.hp id=some o->c.hp id=some o
 row:∀id o,c'.hp id=some o->c'.w.heap[c.φ id]? =c.w.heap[c.φ id]?
section
variable {g g':Gh}{c c':Cf}
theorem RC.tr (t:Gj g g' c c'){b:Bool}{d:D}(h:RC c.w (Im g c b) d u):RC c'.w (Im g' c' b) d u:=h.via (t.mem b) (t.im b)
theorem Dj.tr (t:Gj g g' c c'){b:Bool}{d:D}(h:Dj c.w (Im g c b) d u):Dj c'.w (Im g' c' b) d u:=by
 unfold Dj at *;split at h
 ·have⟨vs,k,l,m⟩:=h;exact⟨vs,k,l,fun j d e=>let ⟨x,e1,e2⟩:=m j d e;⟨x,e1,e2.tr t⟩⟩
 exact h.tr t
theorem RV.tr (t:Gj g g' c c'){b:Bool}{d:D}(h:RV c.w (Im g c b) d u):RV c'.w (Im g' c' b) d u:=by
 unfold RV at *;split at h
 ·have⟨vs,k,l,m⟩:=h;exact⟨vs,k,l,fun j d e=>let ⟨x,e1,e2⟩:=m j d e;⟨x,e1,e2.tr t⟩⟩
 exact h.tr t
theorem RA.tr (t:Gj g g' c c')(h:RA g c x u):RA g' c' x u:=by
 induction h with
 |v x h=>exact .v x h
 |d x b u k=>exact .d x b u (k.tr t)
 |pt id l j p=>
  rw[<-(t.kn id j).2];exact .pt id l (t.kn id j).1 fun o h=>p o (t.hp id o h)
 |mo id j p=>
  rw[<-(t.kn id j).2];exact .mo id (t.kn id j).1 fun o h=>p o (t.hp id o h)
 |pr id q i l u j hp k=>
  refine .pr id q i l u (t.kn id j).1 hp fun r w v z A m=> ?_;rw[(t.kn id j).2];exact k r w v z A (t.hp id _ m)
 |so id q l B u j hp k=>
  refine .so id q l B u (t.kn id j).1 hp fun r w v z A m=> ?_;rw[(t.kn id j).2,t.row id _ m];exact k r w v z A (t.hp id _ m)
 |fn f C E n j _ F=>exact .fn f C E n j F
theorem Dk.tr (t:Gj g g' c c')(h:Dk g c x u):Dk g' c' x u:=by
 unfold Dk at *;split at h
 ·trivial
 ·have⟨vs,b,d,k⟩:=h;exact⟨vs,b,d,fun j x e=>let ⟨y,e1,e2⟩:=k j x e;⟨y,e1,e2.tr t⟩⟩
 ·exact Dj.tr t h
 exact RA.tr t h
theorem Au.tr (t:Gj g g' c c')(h:Au g c x u):Au g' c' x u:=by
 unfold Au at *;split at h
 ·have⟨vs,b,d,k⟩:=h;exact⟨vs,b,d,fun j x e=>let ⟨y,e1,e2⟩:=k j x e;⟨y,e1,e2.tr t⟩⟩
 ·exact RV.tr t h
 exact Dk.tr t h
theorem OK.tr (t:Gj g g' c c'){o:AO}(B:c'.hp id=some o)(E:c.kn id)(p:OK g c id o):OK g' c' id o:=by
 have q:=(t.kn id E).2;have r:=t.row id o B;cases o with
 |bx A=>
  have⟨T,vs,b,h,w⟩:=p;exact⟨T,vs,by rw[q,r];exact b,h,fun j x e=>let ⟨u,l,m⟩:=w j x e;⟨u,l,m.tr t⟩⟩
 |rw F L v M O=>
  have⟨b,h,T,vs,C,w,G,z,H,I⟩:=p;exact⟨b,h,T,vs,C,by rw[q,r];exact w,G,z,H,fun i j A d l m=>let ⟨u,e3,e4⟩:=I i j A d l m;⟨u,e3,e4.tr t⟩⟩
 |mo F Q=>
  have⟨J,k,b,h,K,z⟩:=p;exact⟨J,k,by rw[q,r];exact b,h,K,fun i x y e=>let ⟨e',l,m,e3⟩:=z i x y e;⟨e',l,m,e3.tr t⟩⟩
theorem HR.tr (t:Gj g g' c c')(h:HR g c)(d:g'.base<=c'.w.heap.size)(l:∀k,g'.M0 k->k<c'.w.heap.size)(m:∀id o,c'.hp id=some o->az g' (c.φ id))(q:c.w.heap.size<=c'.w.heap.size):HR g' c' where
 le:=d
 m0:=l
 dom id o hi:=by
  have⟨b,_,r⟩:=h.dom id o (t.hp id o hi);rw[(t.kn id b).2];exact⟨(t.kn id b).1,m id o hi,LF r q⟩
 inj i j o p hi hj hne:=by
  rw[(t.kn i (h.dom i o (t.hp i o hi)).1).2,(t.kn j (h.dom j p (t.hp j p hj)).1).2];exact h.inj i j o p (t.hp i o hi) (t.hp j p hj) hne
 obj id o hi:=(h.obj id o (t.hp id o hi)).tr t hi (h.dom id o (t.hp id o hi)).1
theorem Gj.fb (g:Gh)(c:Cf)(B:Nat):Gj g ⟨g.base,g.M0,B⟩ c c:=⟨fun _ _ h=>h,fun _ _ _=>.inl rfl,fun _ h=>⟨h,rfl⟩,fun _ _ h=>h,fun _ _ _=>rfl⟩
theorem Gj.unfb (g:Gh)(c:Cf)(B:Nat):Gj ⟨g.base,g.M0,B⟩ g c c:=⟨fun _ _ h=>h,fun _ _ _=>.inl rfl,fun _ h=>⟨h,rfl⟩,fun _ _ h=>h,fun _ _ _=>rfl⟩
end
def FB:List Deferred->World->World
 |[],w=>w
 |d::b,w=>FB b (match d.target with | .collected r=>w.putObj r (.deferred none) |_=>w)
theorem je (ds:List Deferred)(w:World):(FB ds w).os=w.os/\(FB ds w).tape=w.tape/\(FB ds w).output=w.output/\(FB ds w).drawn=w.drawn/\(FB ds w).heap.size=w.heap.size:=by
 induction ds generalizing w with
 |nil=>exact⟨rfl,rfl,rfl,rfl,rfl⟩
 |cons d ds b=>
  unfold FB;split
  ·rename_i r _;have⟨h,j,k,l,m⟩:=b (w.putObj r (.deferred none));exact⟨h,j,k,l,m.trans (by simp)⟩
  exact b w
theorem jf {B:Nat}:∀ {b:List Deferred} {w:World},Dn B b w->∀k:Nat,(FB b w).heap[k]? =w.heap[k]? \/(B<=k/\w.heap[k]? =some (.deferred (some [])))
 |[],_,_,_=>.inl rfl
 |d::b,w,⟨⟨r,p,t,j,l⟩,v⟩,k=>by
  have z:Dn B b (w.putObj r (.deferred none)):=by
   clear j;induction b with
   |nil=>trivial
   |cons e b h=>
    have⟨⟨q,A,m,C,E⟩,F⟩:=v;have G:q≠r:=fun H=>l e (Lo ..) (H▸m);exact⟨⟨q,A,m,(World.putObj_heap_other G).trans C,E⟩,h (fun x I=>l x (Lj _ I)) F⟩
  unfold FB;rw[t];have h:=jf z k;by_cases e:k=r
  ·subst e;exact .inr ⟨p,j⟩
  rw[World.putObj_heap_other e] at h;exact h
theorem bW {P:Program}{fn:Func}{j:Array Value}{R:Ending->World->Prop}{B:Nat}:∀ {b:List Deferred} {w:World},Dn B b w->(∃v,(results fn j).run P (FB b w)= .ok v (FB b w)/\R (.returned v) (FB b w))->LeavesInM Fence.wide 0 P fn j R b .returning w
 |[],_,_,h=>h
 |d::b,w,⟨⟨r,J,k,l,m⟩,t⟩,h=>by
  refine⟨by simp,.inl ⟨r,w.putObj r (.deferred none),k,run_takeDeferred l,bW (B:=B) ?_ ?_⟩⟩
  ·clear h l
   induction b with
   |nil=>trivial
   |cons e b z=>
    have⟨⟨q,A,p,C,E⟩,F⟩:=t;have G:q≠r:=fun H=>m e (Lo ..) (H▸p);exact⟨⟨q,A,p,(World.putObj_heap_other G).trans C,E⟩,z (fun x I=>m x (Lj _ I)) F⟩
  unfold FB at h;rw[k] at h;exact h
section
variable {P:Program}{tab:Nat->TI}{g:Gh}{N:Nat}
theorem EF.taken {c:Cf}(d:EF g s c a N):EF g s ⟨c.hp,c.φ,FB a.defers c.w,c.kn⟩ { a with defers:=[] } N/\(∀x u,Au g c x u->Au g ⟨c.hp,c.φ,FB a.defers c.w,c.kn⟩ x u)/\
  ∀k,(FB a.defers c.w).heap[k]? =c.w.heap[k]? \/(g.fb<=k/\c.w.heap[k]? =some (.deferred (some []))):=by
 have⟨r,v,w,z,j⟩:=je a.defers c.w;have m:=jf d.dfs.2;have t:Gj g g c ⟨c.hp,c.φ,FB a.defers c.w,c.kn⟩:=⟨fun b k l=>⟨by simp only[j];exact l.1,l.2⟩,fun b k _=>(m k).imp_right (·.2),fun id h=>⟨h,rfl⟩,fun _ _ h=>h,fun id o p=>(m _).resolve_right fun e=>d.hr.not_mark p e.2⟩;have q:HR g ⟨c.hp,c.φ,FB a.defers c.w,c.kn⟩:=d.hr.tr t (by simp only[j];exact d.hr.le) (fun k l=>by simp only[j];exact d.hr.m0 k l) (fun id o p=>(d.hr.dom id o p).2.1) (by simp only[j];exact Lc _);exact⟨⟨d.hp,q,d.kn,fun x=>(d.fr x).tr t,d.size,by simp only[j];exact d.dfs.1,trivial⟩,fun _ _ h=>h.tr t,m⟩
theorem jg {fn:Func}{d:Code}{b:Array Value}{w:World}{R:Ending->World->Prop}(l:P.funcs[f]? =some fn)(m:fn.body=some d)
  (h:d.wp P (fun e a' w'=>(e= .normal\/e= .ret)/\∃B,Dn B a'.defers w'/\∃v,(results fn a'.tmps).run P (FB a'.defers w')= .ok v (FB a'.defers w')/\R (.returned v) (FB a'.defers w')) { tmps:=b++Array.replicate (fn.ntmps-b.size) undef,defers:=[] } w):Calls P f b w R:=
 callsIn_wide.1 (callsIn_of_wp_marks (n:=0) (F:=Fence.wide) l m trivial (wpIn_mono (wpIn_wide.2 h) fun e a' w' ⟨p,B,j,k⟩=>by
  rcases p with rfl |rfl
  ·exact bW j k
  exact bW j k))
theorem jh (E:Ad P tab){fn:Func}{c:Cf}{s':St}{nx:Nat}(j:EF ⟨g.base,g.M0,c.w.heap.size⟩ s' c' a' N)(b:CP c c')(F:nx<=s'.nx)(G:∀i,c'.kn i->c.kn i\/nx<=i):
  (∃v hp',EJ tab fn.results s'=some v/\Gi hp' s'.hp/\R v hp' s'.nx)->∃B,Dn B a'.defers c'.w/\∃v,(results fn a'.tmps).run P (FB a'.defers c'.w)= .ok v (FB a'.defers c'.w)/\∃u l d q,Ending.returned v= .returned u/\R l d.hp q/\d.w=FB a'.defers c'.w/\CP c d/\HR g d/\Au g d l u/\nx<=q/\∀i,d.kn i->c.kn i\/(nx<=i/\i<q):=by
 rintro⟨v,hp',H,I,J⟩;have⟨m,_,t⟩:=j.taken;have⟨u,K,L⟩:=sd E m H;have⟨M,O,Q,S,U⟩:=je a'.defers c'.w;have V:CP c ⟨c'.hp,c'.φ,FB a'.defers c'.w,c'.kn⟩:=by
  refine⟨M.trans b.os,O.trans b.tape,Q.trans b.output,by simp only[U];exact b.size,b.kn,fun k w X=> ?_,b.muts,b.keep,fun id Y Z l aa ab hn hr=> ?_,by simp only[S];exact b.drawn⟩
  ·rcases t k with h |⟨h,_⟩
   ·exact h.trans (b.block k w X)
   exact absurd h (Nat.not_le.2 w)
  have⟨es,v0,br,fz,k1,k2,k3⟩:=b.rows id Y Z l aa ab hn hr;refine⟨es,v0,br,fz,k1,k2,fun e=> ?_⟩;have⟨k4,k5,k6⟩:=k3 e;refine⟨k4,k5,fun ad T hc=> ?_⟩;have⟨ag,r,k8⟩:=k6 ad T hc;rcases t (c.φ id) with h |⟨_,h⟩
  ·exact⟨ag,h.trans r,k8⟩
  rw[h] at r;cases r
 have⟨z,p⟩:=CP.less m.hr (hp':=hp') fun i=>by
  have:c'.hp=s'.hp:=j.hp;rw[this];exact I.h i
 have A:=Gj.unfb g ⟨hp',c'.φ,FB a'.defers c'.w,c'.kn⟩ c.w.heap.size;exact⟨_,j.dfs.2,u,K,u,v,⟨hp',c'.φ,FB a'.defers c'.w,c'.kn⟩,s'.nx,rfl,J,rfl,V.trans z,p.tr A p.le p.m0 (fun id o ho=>(p.dom id o ho).2.1) (Lc _),(L.ext z).tr A,F,fun i C=>(G i C).imp_right fun m=>⟨m,j.kn i C⟩⟩
theorem HR.fb {g:Gh}{c:Cf}(h:HR g c)(B:Nat):HR ⟨g.base,g.M0,B⟩ c:=h.tr (Gj.fb g c B) h.le h.m0 (fun id o b=>(h.dom id o b).2.1) (Lc _)
end
end
section
open Go.RowKit
section
variable {P:Program}{tab:Nat->TI}
def Dd (tab:Nat->TI)(rs:Array ResultVar)(R:AV->Hp->Nat->Prop)(e:Ex)(s:St):Prop:=
 match e with
 | .exit _=>False
 |_=>∃v hp',EJ tab rs s=some v/\Gi hp' s.hp/\R v hp' s.nx
theorem ji (m:Ad P tab)(z:P.follows .mixedOrders=true){fn:Func}{j:Code}(p:P.funcs[f]? =some fn)(q:fn.body=some j)(A:(fn.name== "runtime.NumGoroutine")=false)(B:D2 fn.ntmps j=true){nx:Nat}
  (S:vs.length<=fn.ntmps) (h:W P tab j (Dd tab fn.results R) ⟨Dw vs,hp,nx⟩):AU P f vs hp nx R:=by
 refine⟨⟨fn,p,A,by rw[q];rfl⟩,fun g c k C E F T G=> ?_⟩;refine jg p q (Code.wp_mono (fun e a' w' H=> ?_) (bU (g:=⟨g.base,g.M0,c.w.heap.size⟩) (N:=fn.ntmps) m z j _ _ c _ B h ⟨C,F.fb _,E,fun t=> ?_,by simp;omega,Lc _,trivial⟩))
 ·have⟨I,s',c',b,d,J,K,L,M,O⟩:=H;subst b;subst K;have r:=jh (fn:=fn) (R:=R) m J L M O;cases I with |normal=>exact⟨.inl rfl,r d⟩ |ret=>exact⟨.inr rfl,r d⟩ |exit n=>exact d.elim
 refine Au.tr (Gj.fb g c _) ?_;show Au g c (vs.getD t (.tu [])) _;by_cases v:t<vs.length
 ·have w:vs[t]? =some vs[t]:=Le v;have⟨u,b,d⟩:=G t _ w;have l:vs.getD t (.tu [])=vs[t]:=by simp[List.getD,w]
  rw[l,LI,NN (by omega),b];exact d
 have l:vs.getD t (.tu [])= .tu []:=by simp[List.getD,Nk (OI v)]
 rw[l];have Q:(k++Array.replicate (fn.ntmps-k.size) undef).getD t undef=undef:=by
  rw[LI,Br (by omega)];by_cases b:t-k.size<fn.ntmps-k.size
  ·simp[b]
  simp[b]
 rw[Q];exact YF c
def HA (d:D)(fr:Bool)(v:AV)(hp':Hp)(h:Nat):Prop:=∃b is,toR hp' v=some (d,b,is)/\(fr=true->b=false)
theorem VH {ds:List D}{d:D}{fr:Bool}(h:AU P f (ds.map (CE true)) AM 0 (HA d fr)):AI P f ds d fr:=by
 refine⟨h.1,fun w l T U V X=> ?_⟩;have Y:HR ⟨w.heap.size,l,w.heap.size⟩ ⟨AM,fun _=>0,w,fun _=>False⟩:=⟨Lc _,U,fun _ _ h=>by simp[AM] at h,fun _ _ _ _ h=>by simp[AM] at h,fun _ _ h=>by simp[AM] at h⟩;refine(h.2 ⟨w.heap.size,l,w.heap.size⟩ ⟨AM,fun _=>0,w,fun _=>False⟩ T rfl (fun _ h=>h.elim) Y (by simpa using V) (fun j x p=> ?_)).mono fun e w' ⟨u,v,c',Z,E,⟨b,is,q,C⟩,r,t,F,G,_,_⟩=> ?_
 ·rw[Lp,La] at p;obtain⟨d,E,rfl⟩:=p;have⟨u,q,C⟩:=X j d E;have r:Dj w (Im ⟨w.heap.size,l,w.heap.size⟩ ⟨AM,fun _=>0,w,fun _=>False⟩ true) d u:=C.mono (fun _ _=>rfl) fun k m=>⟨m.1,m.2,fun _ _ h=>by simp[AM] at h,by simp⟩;refine⟨u,q,?_⟩;cases d with
  |ag H=>exact r
  |tu H=>cases C
  |v x=>exact(RC.toRA (c:=⟨AM,fun _=>0,w,fun _=>False⟩) r).toAt
  |sl x=>exact(RC.toRA (c:=⟨AM,fun _=>0,w,fun _=>False⟩) r).toAt
  |pt x y=>exact(RC.toRA (c:=⟨AM,fun _=>0,w,fun _=>False⟩) r).toAt
  |mp x=>exact(RC.toRA (c:=⟨AM,fun _=>0,w,fun _=>False⟩) r).toAt
 subst r;refine⟨u,E,⟨⟨t.os,t.tape,t.output,t.size,fun k m=>t.block k m fun id o ho=>by simp[AM] at ho⟩,t.drawn⟩,?_⟩;have I:∀k,Im ⟨w.heap.size,l,w.heap.size⟩ c' b k->k<c'.w.heap.size/\¬l k/\(fr=true->w.heap.size<=k):=fun k m=>⟨m.1,m.2.1,fun hf=>m.2.2.2 (C hf)⟩;have J:∀i,(∃K L v M O,c'.hp i=some (.rw K L v M O))->c'.φ i<c'.w.heap.size/\¬l (c'.φ i)/\(fr=true->w.heap.size<=c'.φ i):=fun i ⟨K,L,v,M,O,z⟩=>by
  have⟨_,A,B⟩:=F.dom i _ z;exact⟨B,A.2,fun _=>A.1⟩
 unfold toR at q;split at q
 ·rename_i H;have⟨⟨aa,b',ab⟩,Q,S⟩:=La.1 q;simp only[LB] at S;obtain⟨rfl,rfl,rfl⟩:=S;have⟨vs,hv,hn,hc⟩:=G;have⟨A,B⟩:=VA F rfl (fun k=>k<c'.w.heap.size/\¬l k/\(fr=true->w.heap.size<=k)) (fun j=>vs.getD j undef) Q (YD fun j x p=>let ⟨y,k1,k2⟩:=hc j x p;⟨y,k1,k2.toAt⟩) I fun i z=>J i (TG Q i z);refine⟨vs,hv,by omega,fun j x p=>⟨_,YE (by have:=(Lb.1 p).1;omega),(B j x p).1⟩⟩
 have⟨A,B,_⟩:=X7 F rfl (fun k=>k<c'.w.heap.size/\¬l k/\(fr=true->w.heap.size<=k)) q G I fun i z=>J i (X8 q i z);cases d with
 |tu ds=>exact absurd rfl (B ds)
 |_=>exact A
theorem AU.mono {nx:Nat}{b:AV->Hp->Nat->Prop}(h:AU P f vs hp nx R)(d:∀v hp nx,R v hp nx->b v hp nx):AU P f vs hp nx b:=
 ⟨h.1,fun g c j k l m p q=>(h.2 g c j k l m p q).mono fun _ _ ⟨u,v,c',r,t,w,z⟩=>⟨u,v,c',r,t,d _ _ _ w,z⟩⟩
theorem se {f:AV}{nx:Nat}{K j:AV->Hp->Nat->Prop}(h:MF P f vs hp nx K)(k:∀v hp nx,K v hp nx->j v hp nx):MF P f vs hp nx j:=by
 unfold MF at *;split at h
 ·rcases h with⟨l,b,is,d,m,p,q,r,t⟩ |h
  ·exact .inl ⟨l,b,is,d,m,p,q,r,k _ _ _ t⟩
  exact .inr (h.mono k)
 exact h.elim
theorem bX {b:Op}{K d:AV->Hp->Nat->Prop}(h:IS P tab b id s K)(j:∀v hp k,K v hp k->d v hp k):IS P tab b id s d:=by
 unfold IS at *;split at h
 ·exact se h j
 split at h
 ·exact j _ _ _ h
 exact h.elim
theorem YH {y n d n':Prop}(h:Ga ops o s y n)(j:y->d)(b:n->n'):Ga ops o s d n':=by
 unfold Ga at *;split at h
 ·exact j h
 split at h
 ·exact b h
 split at h
 ·exact⟨fun e=>j (h.1 e),fun e=>b (h.2 e)⟩
 ·exact b h
 exact h.elim
theorem YI {ops:Array Oper}{d:Nat}{K j:St->Prop}(b:∀s,K s->j s):∀(l:List Nat) (s:St),WL P tab ops d K l s->WL P tab ops d j l s
 |[],s,h=>b s h
 |i::l,s,h=>by
  unfold WL at *;split at h
  ·exact YI b l s h
  exact YH h (fun h=>bX h fun _ _ _ h=>YI b l _ h) fun h=>YI b l _ h
theorem RH (x:Operand)(y z:Code)(Q:Ex->St->Prop)(s:St):W P tab (.cond x y z) Q s=(match ev s.fr x with | .v (.bool t)=>(t=true->W P tab y Q s)/\(t=false->W P tab z Q s) |_=>False):=rfl
end
end
section
open Go.RowKit
mutual
def CB:AV->List Nat
 | .pt i _=>[i]
 | .pr i _ _ _=>[i]
 | .so i _ _ _=>[i]
 | .mo i=>[i]
 | .ag b=>CG b
 | .tu b=>CG b
 | .fn _ b=>CG b
 |_=>[]
def CG:List AV->List Nat
 |[]=>[]
 |x::r=>CB x++CG r
end
theorem bY:∀(d b:List AV),CG (d++b)=CG d++CG b
 |[],b=>by simp[CG]
 |x::d,b=>by simp[CG,bY d b]
def G4:Op->Bool
 | .move _ | .assign _ | .pick .. | .alloc _ | .box .. | .build .. | .nilCheck _ | .unOp .. | .fieldAddr .. | .extract .. | .makeFunc .. | .makeMap .. | .makeSlice .. | .index .. =>false
 |_=>true
def Ct (ρ:Operand->AV)(b:Op):List Nat:=if G4 b then CG (b.operands.toList.map ρ) else[]
theorem sj {xs:List AV}(h:x∈xs)(b:i∈CB x):i∈CG xs:=by
 induction xs with
 |nil=>cases h
 |cons y r d=>
  simp only[CG,Ly];rcases Lr.1 h with rfl |h
  ·exact .inl b
  exact .inr (d h)
theorem sk {ρ:Operand->AV}{b:Op}(d:G4 b=true){x:Operand}(h:x∈b.operands.toList)(j:i∈CB (ρ x)):i∈Ct ρ b:=by
 unfold Ct;rw[if_pos d];exact sj (LH h) j
section
variable {tab:Nat->TI}{ρ ρ':Operand->AV}{hp hp':Hp}{id:Nat}
theorem bZ (h:∀i∈CB x,hp i=hp' i):Ce hp x=Ce hp' x:=by
 cases x with
 |so i v o n=>simp only[Ce,h i (by simp[CB])]
 |v x=>cases x with |slice a n c=>cases a<;>cases n<;>cases c<;>rfl |_=>rfl
 |d x b=>cases x<;>rfl
 |_=>rfl
theorem bc:∀ {xs:List AV},(∀i∈CG xs,hp i=hp' i)->DR hp xs=DR hp' xs
 |[],_=>rfl
 |x::r,h=>by
  simp only[DR,bZ (x:=x) fun i hi=>h i (by simp[CG,hi]),bc (xs:=r) fun i hi=>h i (by simp[CG,hi])]
theorem sm (h:∀i∈CB x,hp i=hp' i):Ek hp x=Ek hp' x:=by
 cases x with
 |ag cs=>simp only[Ek,bc (xs:=cs) fun i hi=>h i (by simpa [CB] using hi)]
 |d y b=>cases y<;>rfl
 |v y=>exact bZ h
 |so i v o n=>exact bZ h
 |tu cs=>rfl
 |fn f cs=>rfl
 |pt i o=>rfl
 |pr i v k o=>rfl
 |mo i=>rfl
 |un=>rfl
theorem bf:∀ {xs:List AV},(∀i∈CG xs,hp i=hp' i)->Cj hp xs=Cj hp' xs
 |[],_=>rfl
 |x::r,h=>by
  simp only[Cj,sm (x:=x) fun i hi=>h i (by simp[CG,hi]),bf (xs:=r) fun i hi=>h i (by simp[CG,hi])]
theorem jj {d:D}{b:Bool}{is:List Nat}(h:Ce hp x=some (d,b,is)):∀i∈is,i∈CB x:=by
 unfold Ce at h;split at h
 ·cases h;simp
 ·cases h;simp
 ·cases h
 ·cases h
 ·cases h;simp
 ·split at h
  ·split at h
   ·cases h;simp[CB]
   cases h
  cases h
 cases h
theorem bh:∀ {k:List AV} {j:List D} {b:Bool} {is:List Nat},DR hp k=some (j,b,is)->∀i∈is,i∈CG k
 |[],j,b,is,h=>by
  simp only[DR,Lf,LB] at h;obtain⟨_,_,rfl⟩:=h;simp
 |x::r,j,b,is,h=>by
  unfold DR at h;split at h
  ·rename_i d q t v w z l m;cases h;intro i p;simp only[CG,Ly];exact(Ly.1 p).imp (jj l i) (bh m i)
  cases h
theorem RI {d:D}{b:Bool}{is:List Nat}(h:Ek hp x=some (d,b,is)):∀i∈is,i∈CB x:=by
 unfold Ek at h;split at h
 ·have⟨⟨m,p,q⟩,k,j⟩:=La.1 h;simp only[LB] at j;obtain⟨_,_,rfl⟩:=j;exact fun i l=>by simpa [CB] using bh k i l
 ·cases h;simp
 exact jj h
theorem jk:∀ {k:List AV} {j:List D} {b:Bool} {is:List Nat},Cj hp k=some (j,b,is)->∀i∈is,i∈CG k
 |[],j,b,is,h=>by
  simp only[Cj,Lf,LB] at h;obtain⟨_,_,rfl⟩:=h;simp
 |x::r,j,b,is,h=>by
  unfold Cj at h;split at h
  ·rename_i d q t v w z l m;cases h;intro i p;simp only[CG,Ly];exact(Ly.1 p).imp (RI l i) (jk m i)
  cases h
theorem bi:∀ {is:List Nat},(∀i∈is,hp i=hp' i)->frz hp is=frz hp' is
 |[],_=>rfl
 |i::r,h=>by simp only[frz,h i (by simp),bi (is:=r) fun i b=>h i (by simp[b])]
theorem sq (h:∀i∈CB x,hp i=hp' i):GL hp x=GL hp' x:=by
 cases x with
 |so i v o n=>simp only[GL,h i (by simp[CB])]
 |d y b=>cases y<;>rfl
 |v y=>cases y with |slice a n c=>cases a<;>cases n<;>cases c<;>rfl |_=>rfl
 |_=>rfl
theorem su {cs:List AV}(h:Dv x=some cs):∀i∈CG cs,i∈CB x:=by
 have k:∀ {x:AV},∀i∈CG [x],i∈CB x:=fun i j=>by simpa [CG] using j
 have l:∀(cs:List D) (b:Bool),CG (cs.map (CE b))= []:=by
  intro cs b;induction cs with |nil=>rfl |cons d r m=>cases d<;>simp[CG,CE,CB,m]
 cases x with
 |ag p=>simp only[Dv,Lf] at h;subst h;exact fun i j=>by simpa [CB] using j
 |d y b=>cases y with |ag q=>simp only[Dv,Lf] at h;subst h;rw[l];simp |tu q=>simp[Dv] at h |_=>simp only[Dv,Lf] at h;subst h;exact k
 |tu p=>simp[Dv] at h
 |un=>simp[Dv] at h
 |_=>simp only[Dv,Lf] at h;subst h;exact k
theorem jl (d:List (Nat × Nat)):∀(j:List (Nat × Operand)) (b:List AV),(∀p∈j,ρ p.2=ρ' p.2)->MD d ρ b j=MD d ρ' b j
 |[],b,_=>rfl
 |(i,x)::r,b,h=>by
  have k:=h (i,x) (by simp);simp only[MD,k];split
  ·split
   ·exact jl d r _ fun p hp=>h p (by simp[hp])
   rfl
  rfl
theorem sy {h:Nat}{d b:Option Operand}(j:∀x∈d,ρ x=ρ' x)(k:∀x∈b,ρ x=ρ' x):IN ρ h d b=IN ρ' h d b:=by
 unfold IN;cases d with
 |none=>cases b with |none=>rfl |some y=>simp only[k y rfl]
 |some x=>cases b with |none=>simp only[j x rfl] |some y=>simp only[j x rfl,k y rfl]
theorem tA {op:Op}(hρ:∀x∈op.operands.toList,ρ x=ρ' x)(hh:∀i∈Ct ρ op,hp i=hp' i):CM tab ρ hp id op=CM tab ρ' hp' id op:=by
 have key:G4 op=true->∀x∈op.operands.toList,∀i∈CB (ρ x),hp i=hp' i:=fun hl x hx i hi=>hh i (sk hl hx hi);have one1:∀x∈op.operands.toList,ρ x=ρ' x:=fun x hx=>hρ x hx;have one:G4 op=true->∀x∈op.operands.toList,ρ x=ρ' x/\∀i∈CB (ρ' x),hp i=hp' i:=fun hl x hx=>⟨hρ x hx,fun i hi=>key hl x hx i (by rw[hρ x hx];exact hi)⟩;clear key hh hρ
 cases op with
 |move x=>simp only[CM,(one1 x (by simp[Op.operands]))]
 |assign x=>simp only[CM,(one1 x (by simp[Op.operands]))]
 |pick x y z=>simp only[CM,(one1 x (by simp[Op.operands])),(one1 y (by simp[Op.operands])),(one1 z (by simp[Op.operands]))]
 |alloc T=>rfl
 |box T x=>simp only[CM,(one1 x (by simp[Op.operands]))]
 |build T ps=>
  simp only[CM];rw[jl (ρ:=ρ) (ρ':=ρ') (tab T).offs ps.toList _ fun p hp=>(one1 p.2 (by simp only[Op.operands,Ov];exact LH hp))]
 |load T x=>
  obtain⟨h1,h2⟩:=one rfl x (by simp[Op.operands]);simp only[CM,h1];cases hx:ρ' x with |pt i off=>simp only[h2 i (by simp[hx,CB])] |pr i v k off=>simp only[h2 i (by simp[hx,CB])] |d y b=>cases y<;>rfl |_=>rfl
 |store T x y=>
  obtain⟨h1,h2⟩:=one rfl x (by simp[Op.operands]);obtain⟨h3,h4⟩:=one rfl y (by simp[Op.operands]);simp only[CM,h1,h3];cases hx:ρ' x with
  |pt i off=>
   cases hc:Dv (ρ' y) with |none=>rfl |some xs=>simp only[h2 i (by simp[hx,CB])]
  |pr i v k off=>
   cases hc:Dv (ρ' y) with
   |none=>rfl
   |some xs=>
    have hl:∀i∈CG xs,hp i=hp' i:=fun i hi=>h4 i (su hc i hi);simp only[h2 i (by simp[hx,CB]),bc (xs:=xs) hl];cases hd:DR hp' xs with
    |none=>
     cases hp' i with
     |none=>rfl
     |some o=>cases o with |rw es sz v br fz=>cases fz<;>rfl |_=>rfl
    |some p=>
     obtain⟨ds,b,is⟩:=p;have hfr:=bi (hp:=hp) (hp':=hp') (is:=is) fun i hi=>hl i (bh hd i hi);cases hp' i with
     |none=>rfl
     |some o=>cases o with
      |rw es sz v br fz=>
       cases fz
       ·dsimp only;rw[hfr]
       ·rfl
      |_=>rfl
  |_=>rfl
 |nilCheck x=>simp only[CM,(one1 x (by simp[Op.operands]))]
 |binOp op T x y T'=>
  obtain⟨h1,h2⟩:=one rfl x (by simp[Op.operands]);simp only[CM,h1,(one1 y (by simp[Op.operands]))];congr 1;unfold Fz;split
  ·rename_i i v o n e _;rw[h2 i (by simp[e,CB])]
  ·rfl
 |unOp op T x=>simp only[CM,(one1 x (by simp[Op.operands]))]
 |convert s t x=>
  obtain⟨h1,h2⟩:=one rfl x (by simp[Op.operands]);simp only[CM,h1];cases(tab s).ok with
  |false=>rfl
  |true=>
   cases hk:(tab t).kind with
   |string=>
    cases hx:ρ' x with |so i v o n=>simp only[h2 i (by simp[hx,CB])] |v y=>cases y<;>rfl |_=>rfl
   |int k=>
    cases hx:ρ' x with |v y=>cases y<;>rfl |_=>rfl
   |_=>rfl
 |fieldAddr T x f=>simp only[CM,(one1 x (by simp[Op.operands]))]
 |indexAddr T x i=>
  obtain⟨h1,h2⟩:=one rfl x (by simp[Op.operands]);simp only[CM,h1,(one1 i (by simp[Op.operands]))];cases hn:EI (ρ' i) with
  |none=>
   cases hx:ρ' x with |d y b=>cases y<;>rfl |_=>rfl
  |some n=>
   cases hx:ρ' x with |so i v o n=>simp only[h2 i (by simp[hx,CB])] |d y b=>cases y<;>rfl |_=>rfl
 |index T x i=>simp only[CM,(one1 x (by simp[Op.operands])),(one1 i (by simp[Op.operands]))]
 |slice T x lo hi mx=>
  cases mx with
  |some m=>rfl
  |none=>
   obtain⟨h1,h2⟩:=one rfl x (by simp[Op.operands]);have hb:∀len,IN ρ len lo hi=IN ρ' len lo hi:=fun len=>sy (fun y hy=>(one1 y (by simp only[Option.mem_def] at hy;subst hy;simp[Op.operands]))) fun y hy=>(one1 y (by simp only[Option.mem_def] at hy;subst hy;simp[Op.operands]));simp only[CM,h1,hb];cases hk:(tab T).kind with
   |slice=>
    cases hx:ρ' x with
    |so i v o n=>simp only[h2 i (by simp[hx,CB])]
    |d y b=>cases y<;>rfl
    |v y=>cases y with |slice a n c=>cases a<;>cases n<;>cases c<;>rfl |_=>rfl
    |_=>rfl
   |string=>
    cases hx:ρ' x with |v y=>cases y<;>rfl |_=>rfl
   |_=>rfl
 |extract x i=>simp only[CM,(one1 x (by simp[Op.operands]))]
 |makeFunc f first caps=>
  cases f with
  |func f=>
   have e:caps.toList.map ρ=caps.toList.map ρ':=Ns fun x hx=>(one1 x (by simp only[Op.operands,Id,Ly];exact .inr hx));simp only[CM,e]
  |_=>rfl
 |buildSlice T n ps=>
  have e:(ps.toList.map fun p=>ρ p.2)=ps.toList.map fun p=>ρ' p.2:=Ns fun p hp=>(one1 p.2 (by simp only[Op.operands,Ov];exact LH hp));have hl:∀i∈CG (ps.toList.map fun p=>ρ' p.2),hp i=hp' i:=by
   intro i hi
   have:∀(l:List (Nat × Operand)),(∀p∈l,p∈ps.toList)->i∈CG (l.map fun p=>ρ' p.2)->hp i=hp' i:=by
    intro l;induction l with
    |nil=>intro _ h;simp[CG] at h
    |cons p r ih=>
     intro hl h;simp only[Li,CG,Ly] at h;rcases h with h |h
     ·exact(one rfl p.2 (by simp only[Op.operands,Ov];exact LH (hl p (by simp)))).2 i h
     exact ih (fun p hp=>hl p (by simp[hp])) h
   exact this ps.toList (fun _ h=>h) hi
  simp only[CM,e,bf hl];split
  ·cases hd:Cj hp' (ps.toList.map fun p=>ρ' p.2) with
   |none=>rfl
   |some x=>
    obtain⟨ds,b,is⟩:=x;simp only[bi (hp:=hp) (hp':=hp') (is:=is) fun i hi=>hl i (jk hd i hi)]
  ·rfl
 |makeMap T r=>cases r<;>rfl
 |lookup T x k ok=>
  obtain⟨h1,h2⟩:=one rfl x (by simp[Op.operands]);simp only[CM,h1,(one1 k (by simp[Op.operands]))];cases hx:ρ' x with
  |mo i=>simp only[h2 i (by simp[hx,CB])]
  |d y b=>cases y<;>rfl
  |v y=>cases y with |map r=>cases r<;>rfl |_=>rfl
  |_=>rfl
 |mapUpdate T m k x=>
  obtain⟨h1,h2⟩:=one rfl m (by simp[Op.operands]);simp only[CM,h1,(one1 k (by simp[Op.operands])),(one1 x (by simp[Op.operands]))];cases hx:ρ' m with |mo i=>simp only[h2 i (by simp[hx,CB])] |_=>rfl
 |insert T m k x=>
  obtain⟨h1,h2⟩:=one rfl m (by simp[Op.operands]);simp only[CM,h1,(one1 k (by simp[Op.operands])),(one1 x (by simp[Op.operands]))];cases hx:ρ' m with |mo i=>simp only[h2 i (by simp[hx,CB])] |_=>rfl
 |mapEntry T m k=>
  obtain⟨h1,h2⟩:=one rfl m (by simp[Op.operands]);simp only[CM,h1,(one1 k (by simp[Op.operands]))];cases hx:ρ' m with |mo i=>simp only[h2 i (by simp[hx,CB])] |_=>rfl
 |entryStore T m st x=>
  obtain⟨h1,h2⟩:=one rfl m (by simp[Op.operands]);simp only[CM,h1,(one1 st (by simp[Op.operands])),(one1 x (by simp[Op.operands]))];cases hx:ρ' m with
  |mo i=>
   cases hn:EI (ρ' st) with |none=>rfl |some j=>simp only[h2 i (by simp[hx,CB])]
  |_=>rfl
 |makeSlice T l c=>simp only[CM,(one1 l (by simp[Op.operands])),(one1 c (by simp[Op.operands]))]
 |call c=>
  obtain⟨callee,args,ty⟩:=c;cases callee with
  |builtin b=>
   have ha:∀x∈args.toList,ρ x=ρ' x/\∀i∈CB (ρ' x),hp i=hp' i:=fun x hx=>one rfl x (by simp[Op.operands,Call.operands] at hx⊢;exact hx);cases b with
   |min=>
    simp only[CM];split
    ·rename_i x y e1;rw[(ha x (by rw[e1];simp)).1,(ha y (by rw[e1];simp)).1]
    ·rfl
   |clear=>
    simp only[CM];split
    ·rename_i x T e1 e2;obtain⟨h1,h2⟩:=ha x (by rw[e1];simp);rw[h1];cases hx:ρ' x with
     |so i v o n=>simp only[h2 i (by simp[hx,CB])]
     |v y=>cases y with |slice a n c=>cases a<;>cases n<;>cases c<;>rfl |_=>rfl
     |_=>rfl
    ·rfl
   |len=>
    simp only[CM];split
    ·rename_i x T e1 e2;rw[(ha x (by rw[e1];simp)).1]
    ·rfl
   |cap=>
    simp only[CM];split
    ·rename_i x T e1 e2;rw[(ha x (by rw[e1];simp)).1]
    ·rfl
   |append=>
    simp only[CM];split
    ·rename_i x y T T' e1 e2;obtain⟨h1,h2⟩:=ha x (by rw[e1];simp);obtain⟨h3,h4⟩:=ha y (by rw[e1];simp);rw[h1,h3,sq h4];cases hr:GL hp' (ρ' y) with
     |none=>rfl
     |some r=>
      cases hx:ρ' x with
      |so i v o n=>simp only[h2 i (by simp[hx,CB])]
      |v y=>cases y with |slice a n c=>cases a<;>cases n<;>cases c<;>rfl |_=>rfl
      |_=>rfl
    ·rfl
   |_=>rfl
  |_=>rfl
 |_=>rfl
end
end
end Go.Proofs.YtnmkbmefohakmaaGreat.Ab
