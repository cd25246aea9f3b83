/-
 Open orders: what commutes.
-/
import Derived.Test.YtnmkbmefohakmaaGreatAbC
set_option linter.all false
namespace Go.Proofs.YtnmkbmefohakmaaGreat.Ab
open Go.RowKit
structure C7 where
 ids:List Nat
 ks:List Nat
 g:Bool
def De (xs a:List Nat):Bool:=xs.any fun x=>a.contains x
def IN (a b:C7):Bool:=De a.ks (b.ids++b.ks)||De b.ks a.ids||(a.g&&b.g)
def Df:Nat:=340282366920938463463374607431768211456
def FQ (a:C7):Bool:=a.g&&a.ids.contains Df
def Fl (a b:C7):Bool:=IN a b||((FQ a&& !b.ks.isEmpty)||(FQ b&& !a.ks.isEmpty))
theorem QD {a b:C7}(h:IN a b=true):Fl a b=true:=by simp[Fl,h]
def UI (ids:List Nat)(a hp:Hp):Prop:=(∀i∈ids,a i=hp i)/\(Df∈ids->a=hp)
def GL (o:Oper):List Nat:=o.after.toList.filterMap fun e=>if Region.binds .any e then some e.on else none
def aH:List Oper->List (List Nat)->List (List Nat)
 |[],a=>a
 |o::r,a=>aH r (a++[(GL o++(GL o).flatMap fun k=>a.getD k []).eraseDups])
def Kx (ops:Array Oper):List (List Nat):=aH ops.toList []
def QE (ops:Array Oper)(o:Oper):List Nat:=
 (o.op.operands.toList.filterMap fun x=>match x with | .tmp t=>some t |_=>none)++(match o.guard with |some (j,_)=>(((ops[j]?).bind (·.dst)).toList) |none=>[])
def Mn (ops:Array Oper)(a b:Oper):Bool:=
 (match a.dst with |some d=>(QE ops b).contains d||b.dst==some d |none=>false)||(match b.dst with |some d=>(QE ops a).contains d |none=>false)
def SJ (ops:Array Oper)(c:List (List Nat))(rs:List C7):Bool:=
 (List.range ops.size).all fun j=>(List.range j).all fun i=>
  (c.getD j []).contains i||(match ops[i]?,ops[j]? with |some a,some b=> !Mn ops a b |_,_=>true)&&(match rs[i]?,rs[j]? with |some a,some b=> !Fl a b |_,_=>true)
def Jh (ops:Array Oper):Bool:=ops.toList.zipIdx.all fun p=>(GL p.1).all fun k=>decide (k<p.2)
def Gz (ops:Array Oper)(rs:List C7):Bool:=Jh ops&&SJ ops (Kx ops) rs
def UJ (P:Program)(g:FuncId)(vs:List AV)(hp:Hp)(nx:Nat)(ids:List Nat)(v:AV)(δ:List (Nat × AO))(nx':Nat):Prop:=∀a:Hp,UI ids a hp->AT P g vs a nx fun b c d=>b=v/\c=CL δ a/\d=nx'
def HV (P:Program)(tab:Nat->TI)(op:Op)(id nx:Nat)(a:Fr)(hp:Hp)(K:AV->List (Nat × AO)->List Nat->Option Nat->Prop):Prop:=
 match op with
 | .call { callee:=.value f,args, .. }=>match ev a f with
  | .fn g h=>(∃j b is d e,C8 hp (args.toList.map (ev a)++h)=some (j,b,is)/\AM P g j d e/\(is= []\/e=true)/\K (CI (!e&&b) d) [] (C4 (ev a) op) none)\/
   ∃k v c l,UJ P g (args.toList.map (ev a)++h) hp nx k v c l/\K v c k (some l)
  |_=>False
 |op=>match Cc tab (ev a) hp id op with
  |some (v,c)=>K v c (C4 (ev a) op) none
  |none=>False
def WD (P:Program)(tab:Nat->TI)(ops:Array Oper)(e:Nat)(K:St->Prop):Nat->Nat->List Oper->List C7->Fr->Hp->Prop
 |a,_,[],d,b,c=>Gz ops d.reverse=true/\K ⟨b,c,a⟩
 |a,i,o::r,d,b,c=>Gc ops o ⟨b,c,a⟩ (HV P tab o.op (e+i) a b c fun v f g n=>WD P tab ops e K (n.getD a) (i+1) r (⟨g,f.map (·.1),n.isSome⟩::d) (CM o.dst v b) (CL f c)) (WD P tab ops e K a (i+1) r (⟨[],[],false⟩::d) (CM o.dst (.tu []) b) c)
variable {S S':Nat->Bool}{i:Nat}{ops:Array Oper}
section
variable {P:Program}{tab:Nat->TI}
theorem ri {xs:List Nat}{x:Nat}(h:x∈xs.eraseDups):x∈xs:=by
 exact(List.mem_eraseDups).1 h
theorem rj (a:Nat->Nat->Prop)(n:∀i j k,a i j->a j k->a i k)(f:∀(i:Nat) (o:Oper),ops[i]? =some o->∀k∈GL o,a k i):
  ∀i j,j∈(Kx ops).getD i []->a j i:=by
 have p:∀(l:List Oper) (b:List (List Nat)),(∀(k:Nat) (o:Oper),l[k]? =some o->ops[b.length+k]? =some o)->(∀i j,j∈b.getD i []->a j i)->∀i j,j∈(aH l b).getD i []->a j i:=by
  intro l;induction l with
  |nil=>exact fun b _ h=>h
  |cons o r q=>
   intro b g m;refine q _ (fun k s t=> ?_) fun i j c=> ?_
   ·have:=g (k+1) s (by simpa using t);rw[Ld,Lo,Nv,BN 1 k];exact this
   by_cases u:i<b.length
   ·rw[List.getD,NK u] at c;exact m i j c
   rw[List.getD,Nn (by omega)] at c;by_cases v:i=b.length
   ·subst v;simp only[BM,Nc,Nw] at c;have d:=g 0 o rfl;rw[NP] at d;have w:=ri c;rcases Lw.1 w with e |e
    ·exact f _ o d j e
    have⟨k,x,y⟩:=Oh.1 e;exact n j k _ (m k j y) (f _ o d k x)
   rw[Nl (by simp;omega)] at c;simp at c
 exact p ops.toList [] (fun k o h=>by simpa using h) fun i j h=>by simp at h
def Co (ops:Array Oper)(v:Nat->AV)(fr0:Fr)(S:Nat->Bool):Nat->Fr
 |0=>fr0
 |k+1=>if S k then CM ((ops[k]?).bind (·.dst)) (v k) (Co ops v fr0 S k) else Co ops v fr0 S k
def CY (δ:Nat->List (Nat × AO))(hp0:Hp)(S:Nat->Bool):Nat->Hp
 |0=>hp0
 |k+1=>if S k then CL (δ k) (CY δ hp0 S k) else CY δ hp0 S k
def Cv (m:Nat->Option Nat)(nx:Nat)(S:Nat->Bool):Nat->Nat
 |0=>nx
 |k+1=>if S k then(m k).getD (Cv m nx S k) else Cv m nx S k
def KJ:List (Nat × AO)->Nat->Option AO
 |[],_=>none
 |(k,o)::r,x=>match KJ r x with
  |some a=>some a
  |none=>if x=k then some o else none
theorem SK:∀(a:List (Nat × AO)) (h:Hp) (x:Nat),CL a h x=match KJ a x with |some o=>some o |none=>h x
 |[],h,x=>rfl
 |(k,o)::r,h,x=>by
  simp only[CL,SK r,KJ];cases KJ r x with
  |some b=>rfl
  |none=>
   by_cases e:x=k
   ·subst e;simp[upd]
   simp[upd,e]
theorem aI {δ:List (Nat × AO)}{x:Nat}(h:x∉δ.map (·.1)):KJ δ x=none:=by
 induction δ with
 |nil=>rfl
 |cons p r a=>
  have⟨k,o⟩:=p;simp only[Lh,Lv,not_or] at h;simp[KJ,a h.2,h.1]
theorem XH (d:Option Nat)(v:AV)(a:Fr)(t:Nat):CM d v a t=if d=some t then v else a t:=by
 cases d with
 |none=>simp[CM]
 |some k=>
  by_cases e:t=k
  ·subst e;simp[CM,upd]
  have:¬k=t:=fun h=>e h.symm
  simp[CM,upd,e,this]
theorem kU_ {ops:Array Oper}{v:Nat->AV}{fr0:Fr}{S S':Nat->Bool}{t:Nat}:∀n,(∀j,j<n->(ops[j]?).bind (·.dst)=some t->S j=S' j)->Co ops v fr0 S n t=Co ops v fr0 S' n t
 |0,_=>rfl
 |n+1,h=>by
  have d:=kU_ (v:=v) (fr0:=fr0) n fun j e=>h j (by omega);have a:∀S:Nat->Bool,Co ops v fr0 S (n+1) t=if S n=true/\(ops[n]?).bind (·.dst)=some t then v n else Co ops v fr0 S n t:=by
   intro S;simp only[Co];by_cases b:S n=true
   ·simp[b,XH]
   simp[b]
  rw[a S,a S',d];by_cases c:(ops[n]?).bind (·.dst)=some t
  ·rw[h n (by omega) c]
  simp[c]
theorem wr_ {δ:Nat->List (Nat × AO)}{hp0:Hp}{S S':Nat->Bool}{x:Nat}:∀n,(∀j,j<n->x∈(δ j).map (·.1)->S j=S' j)->CY δ hp0 S n x=CY δ hp0 S' n x
 |0,_=>rfl
 |n+1,h=>by
  have a:=wr_ (δ:=δ) (hp0:=hp0) n fun j d=>h j (by omega);by_cases b:x∈(δ n).map (·.1)
  ·have e:=h n (by omega) b;simp only[CY,e];split
   ·simp only[SK,a]
   exact a
  have c:∀S:Nat->Bool,CY δ hp0 S (n+1) x=CY δ hp0 S n x:=by
   intro S;simp only[CY];split
   ·simp[SK,aI b]
   rfl
  rw[c S,c S',a]
theorem XI {m:Nat->Option Nat}{nx:Nat}{S S':Nat->Bool}:∀n,(∀j,j<n->(m j).isSome=true->S j=S' j)->Cv m nx S n=Cv m nx S' n
 |0,_=>rfl
 |n+1,h=>by
  have a:=XI (m:=m) (nx:=nx) n fun j c=>h j (by omega);simp only[Cv,a];cases b:m n with |none=>simp |some k=>rw[h n (by omega) (by rw[b];rfl)]
theorem iI {m:Nat->Option Nat}{nx:Nat}(i:Nat):∀n,Cv m nx (fun k=>decide (k<i)) (i+n)=Cv m nx (fun k=>decide (k<i)) i
 |0=>rfl
 |n+1=>by rw[<-Nv];simp only[Cv];rw[if_neg (by simp),iI i n]
theorem aJ {m:Nat->Option Nat}{nx:Nat}:∀n,(∀j,j<n->S j=S' j)->Cv m nx S n=Cv m nx S' n
 |n,h=>XI n fun j a _=>h j a
theorem rm {m:Nat->Option Nat}{nx:Nat}(a:∀j,S' j=(S j||j==i))(n:Nat)(d:i<n)(r:∀j,i<j->j<n->S j=true->(m i).isSome=true->(m j).isSome=false):
  Cv m nx S' n=(m i).getD (Cv m nx S n):=by
 cases b:m i with
 |none=>
  refine XI n fun j _ f=> ?_;rw[a]
  have:j≠i:=fun e=>by subst e;rw[b] at f;cases f
  simp[this]
 |some k=>
  have s:∀n,i<n->(∀j,i<j->j<n->S j=true->(m j).isSome=false)->Cv m nx S' n=k:=by
   intro n;induction n with
   |zero=>intro h;omega
   |succ n t=>
    intro d g;simp only[Cv];by_cases e:n=i
    ·subst e;rw[if_pos (by simp[a]),b];rfl
    have l:=t (by omega) fun j c o=>g j c (by omega);split
    ·rename_i p;have u:S n=true:=by
      rw[a] at p;simpa [e] using p
     have:=g n (by omega) (by omega) u;cases v:m n with |none=>exact l |some q=>rw[v] at this;cases this
    exact l
  exact s n d fun j c o w=>r j c o w (by rw[b];rfl)
theorem aK {m a:Nat->Option Nat}{nx:Nat}{S:Nat->Bool}:∀n,(∀k,k<n->m k=a k)->Cv m nx S n=Cv a nx S n
 |0,_=>rfl
 |n+1,h=>by simp only[Cv,aK n fun k b=>h k (by omega),h n (by omega)]
theorem iJ {ops:Array Oper}{v:Nat->AV}{fr0:Fr}(i:Nat):∀n,Co ops v fr0 (fun k=>decide (k<i)) (i+n)=Co ops v fr0 (fun k=>decide (k<i)) i
 |0=>rfl
 |n+1=>by rw[<-Nv];simp only[Co];rw[if_neg (by simp),iJ i n]
theorem aL {δ:Nat->List (Nat × AO)}{hp0:Hp}(i:Nat):∀n,CY δ hp0 (fun k=>decide (k<i)) (i+n)=CY δ hp0 (fun k=>decide (k<i)) i
 |0=>rfl
 |n+1=>by rw[<-Nv];simp only[CY];rw[if_neg (by simp),aL i n]
theorem aM {v:Nat->AV}{fr0:Fr}:∀n,(∀j,j<n->S j=S' j)->Co ops v fr0 S n=Co ops v fr0 S' n
 |n,h=>funext fun _=>kU_ n fun j a _=>h j a
theorem XJ {δ:Nat->List (Nat × AO)}{hp0:Hp}:∀n,(∀j,j<n->S j=S' j)->CY δ hp0 S n=CY δ hp0 S' n
 |n,h=>funext fun _=>wr_ n fun j a _=>h j a
theorem rp {v:Nat->AV}{fr0:Fr}(b:∀j,S' j=(S j||j==i)):∀n,i<n->(∀j,i<j->j<n->S j=true->∀d,(ops[i]?).bind (·.dst)=some d->(ops[j]?).bind (·.dst)≠some d)->
  Co ops v fr0 S' n=CM ((ops[i]?).bind (·.dst)) (v i) (Co ops v fr0 S n):=by
 intro n f o;funext t;rw[XH];by_cases a:(ops[i]?).bind (·.dst)=some t;rotate_left
 ·rw[if_neg a];refine kU_ n fun j _ p=> ?_;rw[b]
  have:j≠i:=fun e=>a (e▸p)
  simp[this]
 rw[if_pos a];have q:∀n,i<n->(∀j,i<j->j<n->S j=true->(ops[j]?).bind (·.dst)≠some t)->Co ops v fr0 S' n t=v i:=by
  intro n;induction n with
  |zero=>intro h;omega
  |succ n r=>
   intro f g;simp only[Co];by_cases e:n=i
   ·subst e;rw[if_pos (by simp[b]),XH,if_pos a]
   have k:=r (by omega) fun j c l=>g j c (by omega);split
   ·rename_i m;have s:S n=true:=by
     rw[b] at m;simpa [e] using m
    rw[XH,if_neg (g n (by omega) (by omega) s)];exact k
   exact k
 exact q n f fun j c l u=>o j c l u t a
theorem rq {δ:Nat->List (Nat × AO)}{hp0:Hp}(g:∀j,S' j=(S j||j==i))(n:Nat)(s:i<n)(z:∀j,i<j->j<n->S j=true->∀x∈(δ i).map (·.1),x∉(δ j).map (·.1)):
  CY δ hp0 S' n=CL (δ i) (CY δ hp0 S n):=by
 funext x;by_cases f:x∈(δ i).map (·.1);rotate_left
 ·rw[SK,aI f];refine wr_ n fun j _ A=> ?_;rw[g]
  have:j≠i:=fun e=>f (e▸A)
  simp[this]
 -- the last word on x is i's
 have B:∀n,i<n->(∀j,i<j->j<n->S j=true->x∉(δ j).map (·.1))->CY δ hp0 S' n x=CL (δ i) (CY δ hp0 S i) x/\(∀h:Hp,CL (δ i) h x=CL (δ i) (CY δ hp0 S i) x):=by
  intro n;have C:∃o,KJ (δ i) x=some o:=by
   have:∀δ:List (Nat × AO),x∈δ.map (·.1)->∃o,KJ δ x=some o:=by
    intro δ;induction δ with
    |nil=>intro h;simp at h
    |cons p r l=>
     have⟨k,o⟩:=p;intro h;simp only[KJ];cases E:KJ r x with
     |some t=>exact⟨t,rfl⟩
     |none=>
      by_cases e:x=k
      ·exact⟨o,by simp[e]⟩
      simp only[Lh,Lv] at h;rcases h with h |h
      ·exact absurd h e
      have⟨t,u⟩:=l h;rw[E] at u;cases u
   exact this _ f
  have⟨o,F⟩:=C;have d:∀h:Hp,CL (δ i) h x=some o:=fun h=>by rw[SK,F]
  induction n with
  |zero=>intro h;omega
  |succ n l=>
   intro s v;refine⟨?_,fun h=>by rw[d,d]⟩;rw[d];simp only[CY];by_cases e:n=i
   ·subst e;rw[if_pos (by simp[g]),d]
   have m:=(l (by omega) fun j q w=>v j q (by omega)).1;rw[d] at m;split
   ·rename_i y;have G:S n=true:=by
     rw[g] at y;simpa [e] using y
    rw[SK,aI (v n (by omega) (by omega) G)];exact m
   exact m
 have⟨q,w⟩:=B n s fun j a b c=>z j a b c x f;rw[q];exact(w _).symm
end
end Go.Proofs.YtnmkbmefohakmaaGreat.Ab
