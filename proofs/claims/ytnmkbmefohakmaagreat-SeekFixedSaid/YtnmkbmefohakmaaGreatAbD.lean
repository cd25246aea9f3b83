/-
 Open orders: what commutes.
-/
import Derived.Test.YtnmkbmefohakmaaGreatAbC
set_option linter.all false
namespace Go.Proofs.YtnmkbmefohakmaaGreat.Ab
open Go.RowKit
structure Cx where
 ids:List Nat
 ks:List Nat
 g:Bool
def De (xs a:List Nat):Bool:=xs.any fun x=>a.contains x
def Jb (a b:Cx):Bool:=De a.ks (b.ids++b.ks)||De b.ks a.ids||(a.g&&b.g)
def Df:Nat:=340282366920938463463374607431768211456
def Ff (a:Cx):Bool:=a.g&&a.ids.contains Df
def F1 (a b:Cx):Bool:=Jb a b||((Ff a&& !b.ks.isEmpty)||(Ff b&& !a.ks.isEmpty))
theorem RJ {a b:Cx}(h:Jb a b=true):F1 a b=true:=by simp[F1,h]
def VI (ids:List Nat)(a hp:Hp):Prop:=(∀i∈ids,a i=hp i)/\(Df∈ids->a=hp)
def Gk (o:Oper):List Nat:=o.after.toList.filterMap fun e=>if Region.binds .any e then some e.on else none
def bj:List Oper->List (List Nat)->List (List Nat)
 |[],a=>a
 |o::r,a=>bj r (a++[(Gk o++(Gk o).flatMap fun k=>a.getD k []).eraseDups])
def Mr (ops:Array Oper):List (List Nat):=bj ops.toList []
def RK (ops:Array Oper)(o:Oper):List Nat:=
 (o.op.operands.toList.filterMap fun x=>match x with | .tmp t=>some t |_=>none)++(match o.guard with |some (j,_)=>(((ops[j]?).bind (·.dst)).toList) |none=>[])
def Ph (ops:Array Oper)(a b:Oper):Bool:=
 (match a.dst with |some d=>(RK ops b).contains d||b.dst==some d |none=>false)||(match b.dst with |some d=>(RK ops a).contains d |none=>false)
def TN (ops:Array Oper)(c:List (List Nat))(rs:List Cx):Bool:=
 (List.range ops.size).all fun j=>(List.range j).all fun i=>
  (c.getD j []).contains i||(match ops[i]?,ops[j]? with |some a,some b=> !Ph ops a b |_,_=>true)&&(match rs[i]?,rs[j]? with |some a,some b=> !F1 a b |_,_=>true)
def KS (ops:Array Oper):Bool:=ops.toList.zipIdx.all fun p=>(Gk p.1).all fun k=>decide (k<p.2)
def HT (ops:Array Oper)(rs:List Cx):Bool:=KS ops&&TN ops (Mr ops) rs
def Pi (P:Program)(g:FuncId)(vs:List AV)(hp:Hp)(nx:Nat)(ids:List Nat)(v:AV)(δ:List (Nat × AO))(nx':Nat):Prop:=∀a:Hp,VI ids a hp->AU P g vs a nx fun b c d=>b=v/\c=CC δ a/\d=nx'
def TO (P:Program)(tab:Nat->TI)(op:Op)(id nx:Nat)(fr:Fr)(hp:Hp)(K:AV->List (Nat × AO)->List Nat->Option Nat->Prop):Prop:=
 match op with
 | .call { callee:=.value f,args, .. }=>match ev fr f with
  | .fn g e=>(∃h b is d c,Cj hp (args.toList.map (ev fr)++e)=some (h,b,is)/\AI P g h d c/\(is= []\/c=true)/\K (CE (!c&&b) d) [] (Ct (ev fr) op) none)\/
   ∃j v a k,Pi P g (args.toList.map (ev fr)++e) hp nx j v a k/\K v a j (some k)
  |_=>False
 |op=>match CM tab (ev fr) hp id op with
  |some (v,a)=>K v a (Ct (ev fr) op) none
  |none=>False
def WD (P:Program)(tab:Nat->TI)(ops:Array Oper)(e:Nat)(K:St->Prop):Nat->Nat->List Oper->List Cx->Fr->Hp->Prop
 |a,_,[],d,b,c=>HT ops d.reverse=true/\K ⟨b,c,a⟩
 |a,i,o::r,d,b,c=>Ga ops o ⟨b,c,a⟩ (TO P tab o.op (e+i) a b c fun v f g n=>WD P tab ops e K (n.getD a) (i+1) r (⟨g,f.map (·.1),n.isSome⟩::d) (CJ o.dst v b) (CC f c)) (WD P tab ops e K a (i+1) r (⟨[],[],false⟩::d) (CJ o.dst (.tu []) b) c)
variable {S':Nat->Bool}{i:Nat}{ops:Array Oper}
section
variable {P:Program}{tab:Nat->TI}
theorem tB {xs:List Nat}{x:Nat}(h:x∈xs.eraseDups):x∈xs:=by
 exact(List.mem_eraseDups).1 h
theorem tC (a:Nat->Nat->Prop)(n:∀i j k,a i j->a j k->a i k)(f:∀(i:Nat) (o:Oper),ops[i]? =some o->∀k∈Gk o,a k i):
  ∀i j,j∈(Mr ops).getD i []->a j i:=by
 have p:∀(l:List Oper) (b:List (List Nat)),(∀(k:Nat) (o:Oper),l[k]? =some o->ops[b.length+k]? =some o)->(∀i j,j∈b.getD i []->a j i)->∀i j,j∈(bj l b).getD i []->a j i:=by
  intro l;induction l with
  |nil=>exact fun b _ h=>h
  |cons o r q=>
   intro b g m;refine q _ (fun k s t=> ?_) fun i j c=> ?_
   ·have:=g (k+1) s (by simpa using t);rw[Ld,Ll,Ny,BT 1 k];exact this
   by_cases u:i<b.length
   ·rw[List.getD,NP u] at c;exact m i j c
   rw[List.getD,Nm (by omega)] at c;by_cases v:i=b.length
   ·subst v;simp only[BS,Nf,Nw] at c;have d:=g 0 o rfl;rw[NW] at d;have w:=tB c;rcases Ly.1 w with e |e
    ·exact f _ o d j e
    have⟨k,x,y⟩:=Oh.1 e;exact n j k _ (m k j y) (f _ o d k x)
   rw[Nk (by simp;omega)] at c;simp at c
 exact p ops.toList [] (fun k o h=>by simpa using h) fun i j h=>by simp at h
def Ch (ops:Array Oper)(v:Nat->AV)(fr0:Fr)(S:Nat->Bool):Nat->Fr
 |0=>fr0
 |k+1=>if S k then CJ ((ops[k]?).bind (·.dst)) (v k) (Ch ops v fr0 S k) else Ch ops v fr0 S k
def CV (δ:Nat->List (Nat × AO))(hp0:Hp)(S:Nat->Bool):Nat->Hp
 |0=>hp0
 |k+1=>if S k then CC (δ k) (CV δ hp0 S k) else CV δ hp0 S k
def Co (m:Nat->Option Nat)(nx:Nat)(S:Nat->Bool):Nat->Nat
 |0=>nx
 |k+1=>if S k then(m k).getD (Co m nx S k) else Co m nx S k
def FU:List (Nat × AO)->Nat->Option AO
 |[],_=>none
 |(k,o)::r,x=>match FU r x with
  |some a=>some a
  |none=>if x=k then some o else none
theorem RL:∀(a:List (Nat × AO)) (h:Hp) (x:Nat),CC a h x=match FU a x with |some o=>some o |none=>h x
 |[],h,x=>rfl
 |(k,o)::r,h,x=>by
  simp only[CC,RL r,FU];cases FU r x with
  |some b=>rfl
  |none=>
   by_cases e:x=k
   ·subst e;simp[upd]
   simp[upd,e]
theorem YJ {δ:List (Nat × AO)}{x:Nat}(h:x∉δ.map (·.1)):FU δ x=none:=by
 induction δ with
 |nil=>rfl
 |cons p r a=>
  have⟨k,o⟩:=p;simp only[Li,Lr,not_or] at h;simp[FU,a h.2,h.1]
theorem YK (d:Option Nat)(v:AV)(fr:Fr)(t:Nat):CJ d v fr t=if d=some t then v else fr t:=by
 cases d with
 |none=>simp[CJ]
 |some k=>
  by_cases e:t=k
  ·subst e;simp[CJ,upd]
  have:¬k=t:=fun h=>e h.symm
  simp[CJ,upd,e,this]
theorem wV_ {ops:Array Oper}{v:Nat->AV}{fr0:Fr}{S S':Nat->Bool}{t:Nat}:∀n,(∀j,j<n->(ops[j]?).bind (·.dst)=some t->S j=S' j)->Ch ops v fr0 S n t=Ch ops v fr0 S' n t
 |0,_=>rfl
 |n+1,h=>by
  have d:=wV_ (v:=v) (fr0:=fr0) n fun j e=>h j (by omega);have a:∀S:Nat->Bool,Ch ops v fr0 S (n+1) t=if S n=true/\(ops[n]?).bind (·.dst)=some t then v n else Ch ops v fr0 S n t:=by
   intro S;simp only[Ch];by_cases b:S n=true
   ·simp[b,YK]
   simp[b]
  rw[a S,a S',d];by_cases c:(ops[n]?).bind (·.dst)=some t
  ·rw[h n (by omega) c]
  simp[c]
theorem vE_ {δ:Nat->List (Nat × AO)}{hp0:Hp}{S S':Nat->Bool}{x:Nat}:∀n,(∀j,j<n->x∈(δ j).map (·.1)->S j=S' j)->CV δ hp0 S n x=CV δ hp0 S' n x
 |0,_=>rfl
 |n+1,h=>by
  have a:=vE_ (δ:=δ) (hp0:=hp0) n fun j d=>h j (by omega);by_cases b:x∈(δ n).map (·.1)
  ·have e:=h n (by omega) b;simp only[CV,e];split
   ·simp only[RL,a]
   exact a
  have c:∀S:Nat->Bool,CV δ hp0 S (n+1) x=CV δ hp0 S n x:=by
   intro S;simp only[CV];split
   ·simp[RL,YJ b]
   rfl
  rw[c S,c S',a]
theorem YL {m:Nat->Option Nat}{nx:Nat}{S S':Nat->Bool}:∀n,(∀j,j<n->(m j).isSome=true->S j=S' j)->Co m nx S n=Co m nx S' n
 |0,_=>rfl
 |n+1,h=>by
  have a:=YL (m:=m) (nx:=nx) n fun j c=>h j (by omega);simp only[Co,a];cases b:m n with |none=>simp |some k=>rw[h n (by omega) (by rw[b];rfl)]
theorem jm {m:Nat->Option Nat}{nx:Nat}(i:Nat):∀n,Co m nx (fun k=>decide (k<i)) (i+n)=Co m nx (fun k=>decide (k<i)) i
 |0=>rfl
 |n+1=>by rw[<-Ny];simp only[Co];rw[if_neg (by simp),jm i n]
theorem bk {m:Nat->Option Nat}{nx:Nat}{S:Nat->Bool}:∀n,(∀j,j<n->S j=S' j)->Co m nx S n=Co m nx S' n
 |n,h=>YL n fun j a _=>h j a
theorem tD {m:Nat->Option Nat}{nx:Nat}{S:Nat->Bool}(a:∀j,S' j=(S j||j==i))(n:Nat)(d:i<n)(r:∀j,i<j->j<n->S j=true->(m i).isSome=true->(m j).isSome=false):
  Co m nx S' n=(m i).getD (Co m nx S n):=by
 cases b:m i with
 |none=>
  refine YL n fun j _ f=> ?_;rw[a]
  have:j≠i:=fun e=>by subst e;rw[b] at f;cases f
  simp[this]
 |some k=>
  have s:∀n,i<n->(∀j,i<j->j<n->S j=true->(m j).isSome=false)->Co m nx S' n=k:=by
   intro n;induction n with
   |zero=>intro h;omega
   |succ n t=>
    intro d g;simp only[Co];by_cases e:n=i
    ·subst e;rw[if_pos (by simp[a]),b];rfl
    have l:=t (by omega) fun j c o=>g j c (by omega);split
    ·rename_i p;have u:S n=true:=by
      rw[a] at p;simpa [e] using p
     have:=g n (by omega) (by omega) u;cases v:m n with |none=>exact l |some q=>rw[v] at this;cases this
    exact l
  exact s n d fun j c o w=>r j c o w (by rw[b];rfl)
theorem bm {m a:Nat->Option Nat}{nx:Nat}{S:Nat->Bool}:∀n,(∀k,k<n->m k=a k)->Co m nx S n=Co a nx S n
 |0,_=>rfl
 |n+1,h=>by simp only[Co,bm n fun k b=>h k (by omega),h n (by omega)]
theorem jn {ops:Array Oper}{v:Nat->AV}{fr0:Fr}(i:Nat):∀n,Ch ops v fr0 (fun k=>decide (k<i)) (i+n)=Ch ops v fr0 (fun k=>decide (k<i)) i
 |0=>rfl
 |n+1=>by rw[<-Ny];simp only[Ch];rw[if_neg (by simp),jn i n]
theorem bn {δ:Nat->List (Nat × AO)}{hp0:Hp}(i:Nat):∀n,CV δ hp0 (fun k=>decide (k<i)) (i+n)=CV δ hp0 (fun k=>decide (k<i)) i
 |0=>rfl
 |n+1=>by rw[<-Ny];simp only[CV];rw[if_neg (by simp),bn i n]
theorem bp {v:Nat->AV}{fr0:Fr}{S:Nat->Bool}:∀n,(∀j,j<n->S j=S' j)->Ch ops v fr0 S n=Ch ops v fr0 S' n
 |n,h=>funext fun _=>wV_ n fun j a _=>h j a
theorem YM {δ:Nat->List (Nat × AO)}{hp0:Hp}{S:Nat->Bool}:∀n,(∀j,j<n->S j=S' j)->CV δ hp0 S n=CV δ hp0 S' n
 |n,h=>funext fun _=>vE_ n fun j a _=>h j a
theorem tE {v:Nat->AV}{fr0:Fr}{S:Nat->Bool}(b:∀j,S' j=(S j||j==i)):∀n,i<n->(∀j,i<j->j<n->S j=true->∀d,(ops[i]?).bind (·.dst)=some d->(ops[j]?).bind (·.dst)≠some d)->
  Ch ops v fr0 S' n=CJ ((ops[i]?).bind (·.dst)) (v i) (Ch ops v fr0 S n):=by
 intro n f o;funext t;rw[YK];by_cases a:(ops[i]?).bind (·.dst)=some t;rotate_left
 ·rw[if_neg a];refine wV_ n fun j _ p=> ?_;rw[b]
  have:j≠i:=fun e=>a (e▸p)
  simp[this]
 rw[if_pos a];have q:∀n,i<n->(∀j,i<j->j<n->S j=true->(ops[j]?).bind (·.dst)≠some t)->Ch ops v fr0 S' n t=v i:=by
  intro n;induction n with
  |zero=>intro h;omega
  |succ n r=>
   intro f g;simp only[Ch];by_cases e:n=i
   ·subst e;rw[if_pos (by simp[b]),YK,if_pos a]
   have k:=r (by omega) fun j c l=>g j c (by omega);split
   ·rename_i m;have s:S n=true:=by
     rw[b] at m;simpa [e] using m
    rw[YK,if_neg (g n (by omega) (by omega) s)];exact k
   exact k
 exact q n f fun j c l u=>o j c l u t a
theorem tF {δ:Nat->List (Nat × AO)}{hp0:Hp}{S:Nat->Bool}(g:∀j,S' j=(S j||j==i))(n:Nat)(s:i<n)(z:∀j,i<j->j<n->S j=true->∀x∈(δ i).map (·.1),x∉(δ j).map (·.1)):
  CV δ hp0 S' n=CC (δ i) (CV δ hp0 S n):=by
 funext x;by_cases f:x∈(δ i).map (·.1);rotate_left
 ·rw[RL,YJ f];refine vE_ n fun j _ A=> ?_;rw[g]
  have:j≠i:=fun e=>f (e▸A)
  simp[this]
 -- the last word on x is i's
 have B:∀n,i<n->(∀j,i<j->j<n->S j=true->x∉(δ j).map (·.1))->CV δ hp0 S' n x=CC (δ i) (CV δ hp0 S i) x/\(∀h:Hp,CC (δ i) h x=CC (δ i) (CV δ hp0 S i) x):=by
  intro n;have C:∃o,FU (δ i) x=some o:=by
   have:∀δ:List (Nat × AO),x∈δ.map (·.1)->∃o,FU δ x=some o:=by
    intro δ;induction δ with
    |nil=>intro h;simp at h
    |cons p r l=>
     have⟨k,o⟩:=p;intro h;simp only[FU];cases E:FU r x with
     |some t=>exact⟨t,rfl⟩
     |none=>
      by_cases e:x=k
      ·exact⟨o,by simp[e]⟩
      simp only[Li,Lr] at h;rcases h with h |h
      ·exact absurd h e
      have⟨t,u⟩:=l h;rw[E] at u;cases u
   exact this _ f
  have⟨o,F⟩:=C;have d:∀h:Hp,CC (δ i) h x=some o:=fun h=>by rw[RL,F]
  induction n with
  |zero=>intro h;omega
  |succ n l=>
   intro s v;refine⟨?_,fun h=>by rw[d,d]⟩;rw[d];simp only[CV];by_cases e:n=i
   ·subst e;rw[if_pos (by simp[g]),d]
   have m:=(l (by omega) fun j q w=>v j q (by omega)).1;rw[d] at m;split
   ·rename_i y;have G:S n=true:=by
     rw[g] at y;simpa [e] using y
    rw[RL,YJ (v n (by omega) (by omega) G)];exact m
   exact m
 have⟨q,w⟩:=B n s fun j a b c=>z j a b c x f;rw[q];exact(w _).symm
end
end Go.Proofs.YtnmkbmefohakmaaGreat.Ab
