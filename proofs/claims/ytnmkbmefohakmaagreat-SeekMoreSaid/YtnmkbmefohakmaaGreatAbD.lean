/-
 Open orders: what commutes.
-/
import Derived.Test.YtnmkbmefohakmaaGreatAbC
set_option linter.all false
namespace Go.Proofs.YtnmkbmefohakmaaGreat.Ab
open Go.RowKit
structure Cd where
 ids:List Nat
 ks:List Nat
 g:Bool
def DM (xs ys:List Nat):Bool:=xs.any fun x=>ys.contains x
def IF (a b:Cd):Bool:=DM a.ks (b.ids++b.ks)||DM b.ks a.ids||(a.g&&b.g)
def DN:Nat:=340282366920938463463374607431768211456
def Eu (a:Cd):Bool:=a.g&&a.ids.contains DN
def FL (a b:Cd):Bool:=IF a b||((Eu a&& !b.ks.isEmpty)||(Eu b&& !a.ks.isEmpty))
theorem Pt {a b:Cd}(h:IF a b=true):FL a b=true:=by simp[FL,h]
def TX (ids:List Nat)(hp1 hp:Hp):Prop:=(∀i∈ids,hp1 i=hp i)/\(DN∈ids->hp1=hp)
def F6 (o:Oper):List Nat:=o.after.toList.filterMap fun e=>if Region.binds .any e then some e.on else none
def ZA:List Oper->List (List Nat)->List (List Nat)
 |[],acc=>acc
 |o::r,acc=>ZA r (acc++[(F6 o++(F6 o).flatMap fun k=>acc.getD k []).eraseDups])
def Ku (ops:Array Oper):List (List Nat):=ZA ops.toList []
def Pu (ops:Array Oper)(o:Oper):List Nat:=
 (o.op.operands.toList.filterMap fun x=>match x with | .tmp t=>some t |_=>none)++(match o.guard with |some (j,_)=>(((ops[j]?).bind (·.dst)).toList) |none=>[])
def Me (ops:Array Oper)(a b:Oper):Bool:=
 (match a.dst with |some d=>(Pu ops b).contains d||b.dst==some d |none=>false)||(match b.dst with |some d=>(Pu ops a).contains d |none=>false)
def Rh (ops:Array Oper)(ps:List (List Nat))(rs:List Cd):Bool:=
 (List.range ops.size).all fun j=>(List.range j).all fun i=>
  (ps.getD j []).contains i||(match ops[i]?,ops[j]? with |some a,some b=> !Me ops a b |_,_=>true)&&(match rs[i]?,rs[j]? with |some a,some b=> !FL a b |_,_=>true)
def JW (ops:Array Oper):Bool:=ops.toList.zipIdx.all fun p=>(F6 p.1).all fun k=>decide (k<p.2)
def Gv (ops:Array Oper)(rs:List Cd):Bool:=JW ops&&Rh ops (Ku ops) rs
def Mf (P:Program)(g:FuncId)(vs:List AV)(hp:Hp)(nx:Nat)(ids:List Nat)(v:AV)(δ:List (Nat × AO))(nx':Nat):Prop:=∀hp1:Hp,TX ids hp1 hp->AK P g vs hp1 nx fun v2 hp2 nx2=>v2=v/\hp2=Av δ hp1/\nx2=nx'
def Ri (P:Program)(tab:Nat->TI)(op:Op)(id nx:Nat)(fr:Fr)(hp:Hp)(K:AV->List (Nat × AO)->List Nat->Option Nat->Prop):Prop:=
 match op with
 | .call { callee:=.value f,args, .. }=>match ev fr f with
  | .fn g caps=>(∃ds b is d fr',CT hp (args.toList.map (ev fr)++caps)=some (ds,b,is)/\AI P g ds d fr'/\(is= []\/fr'=true)/\K (Aw (!fr'&&b) d) [] (CX (ev fr) op) none)\/
   ∃ids v δ nx',Mf P g (args.toList.map (ev fr)++caps) hp nx ids v δ nx'/\K v δ ids (some nx')
  |_=>False
 |op=>match CB tab (ev fr) hp id op with
  |some (v,δ)=>K v δ (CX (ev fr) op) none
  |none=>False
def WD (P:Program)(tab:Nat->TI)(ops:Array Oper)(nx0:Nat)(K:St->Prop):Nat->Nat->List Oper->List Cd->Fr->Hp->Prop
 |nx,_,[],acc,fr,hp=>Gv ops acc.reverse=true/\K ⟨fr,hp,nx⟩
 |nx,i,o::r,acc,fr,hp=>Fx ops o ⟨fr,hp,nx⟩ (Ri P tab o.op (nx0+i) nx fr hp fun v δ ids n=>WD P tab ops nx0 K (n.getD nx) (i+1) r (⟨ids,δ.map (·.1),n.isSome⟩::acc) (A7 o.dst v fr) (Av δ hp)) (WD P tab ops nx0 K nx (i+1) r (⟨[],[],false⟩::acc) (A7 o.dst (.tu []) fr) hp)
section
variable {P:Program}{tab:Nat->TI}
theorem o9 {xs:List Nat}{x:Nat}(h:x∈xs.eraseDups):x∈xs:=by
 exact(List.mem_eraseDups).1 h
theorem pA {ops:Array Oper}(Bf:Nat->Nat->Prop)(htr:∀i j k,Bf i j->Bf j k->Bf i k)(hdir:∀(i:Nat) (o:Oper),ops[i]? =some o->∀k∈F6 o,Bf k i):
  ∀i j,j∈(Ku ops).getD i []->Bf j i:=by
 have key:∀(l:List Oper) (acc:List (List Nat)),(∀(k:Nat) (o:Oper),l[k]? =some o->ops[acc.length+k]? =some o)->(∀i j,j∈acc.getD i []->Bf j i)->∀i j,j∈(ZA l acc).getD i []->Bf j i:=by
  intro l;induction l with
  |nil=>exact fun acc _ h=>h
  |cons o r ih=>
   intro acc hl hacc;refine ih _ (fun k o' hk=> ?_) fun i j hj=> ?_
   ·have:=hl (k+1) o' (by simpa using hk);rw[Lf,Lr,Nu,BM 1 k];exact this
   by_cases hi:i<acc.length
   ·rw[List.getD,Nq hi] at hj;exact hacc i j hj
   rw[List.getD,L8 (by omega)] at hj;by_cases hi2:i=acc.length
   ·subst hi2;simp only[B6,LV,Nw] at hj;have ho:=hl 0 o rfl;rw[NS] at ho;have hj2:=o9 hj;rcases Ls.1 hj2 with h1 |h1
    ·exact hdir _ o ho j h1
    obtain⟨k,h2,h3⟩:=Ob.1 h1;exact htr j k _ (hacc k j h3) (hdir _ o ho k h2)
   rw[LX (by simp;omega)] at hj;simp at hj
 exact key ops.toList [] (fun k o h=>by simpa using h) fun i j h=>by simp at h
def CU (ops:Array Oper)(v:Nat->AV)(fr0:Fr)(S:Nat->Bool):Nat->Fr
 |0=>fr0
 |k+1=>if S k then A7 ((ops[k]?).bind (·.dst)) (v k) (CU ops v fr0 S k) else CU ops v fr0 S k
def CJ (δ:Nat->List (Nat × AO))(hp0:Hp)(S:Nat->Bool):Nat->Hp
 |0=>hp0
 |k+1=>if S k then Av (δ k) (CJ δ hp0 S k) else CJ δ hp0 S k
def CY (m:Nat->Option Nat)(nx:Nat)(S:Nat->Bool):Nat->Nat
 |0=>nx
 |k+1=>if S k then(m k).getD (CY m nx S k) else CY m nx S k
def Em:List (Nat × AO)->Nat->Option AO
 |[],_=>none
 |(k,o)::r,x=>match Em r x with
  |some o'=>some o'
  |none=>if x=k then some o else none
theorem Pv:∀(δ:List (Nat × AO)) (h:Hp) (x:Nat),Av δ h x=match Em δ x with |some o=>some o |none=>h x
 |[],h,x=>rfl
 |(k,o)::r,h,x=>by
  simp only[Av,Pv r,Em];cases Em r x with
  |some o'=>rfl
  |none=>
   by_cases e:x=k
   ·subst e;simp[upd]
   simp[upd,e]
theorem WK {δ:List (Nat × AO)}{x:Nat}(h:x∉δ.map (·.1)):Em δ x=none:=by
 induction δ with
 |nil=>rfl
 |cons p r ih=>
  obtain⟨k,o⟩:=p;simp only[Lk,Lm,not_or] at h;simp[Em,ih h.2,h.1]
theorem WM (d:Option Nat)(v:AV)(fr:Fr)(t:Nat):A7 d v fr t=if d=some t then v else fr t:=by
 cases d with
 |none=>simp[A7]
 |some k=>
  by_cases e:t=k
  ·subst e;simp[A7,upd]
  have:¬k=t:=fun h=>e h.symm
  simp[A7,upd,e,this]
theorem vV_ {ops:Array Oper}{v:Nat->AV}{fr0:Fr}{S S':Nat->Bool}{t:Nat}:∀n,(∀j,j<n->(ops[j]?).bind (·.dst)=some t->S j=S' j)->CU ops v fr0 S n t=CU ops v fr0 S' n t
 |0,_=>rfl
 |n+1,h=>by
  have ih:=vV_ (v:=v) (fr0:=fr0) n fun j hj=>h j (by omega);have one:∀S:Nat->Bool,CU ops v fr0 S (n+1) t=if S n=true/\(ops[n]?).bind (·.dst)=some t then v n else CU ops v fr0 S n t:=by
   intro S;simp only[CU];by_cases hS:S n=true
   ·simp[hS,WM]
   simp[hS]
  rw[one S,one S',ih];by_cases hd:(ops[n]?).bind (·.dst)=some t
  ·rw[h n (by omega) hd]
  simp[hd]
theorem zI_ {δ:Nat->List (Nat × AO)}{hp0:Hp}{S S':Nat->Bool}{x:Nat}:∀n,(∀j,j<n->x∈(δ j).map (·.1)->S j=S' j)->CJ δ hp0 S n x=CJ δ hp0 S' n x
 |0,_=>rfl
 |n+1,h=>by
  have ih:=zI_ (δ:=δ) (hp0:=hp0) n fun j hj=>h j (by omega);by_cases hx:x∈(δ n).map (·.1)
  ·have e:=h n (by omega) hx;simp only[CJ,e];split
   ·simp only[Pv,ih]
   exact ih
  have one:∀S:Nat->Bool,CJ δ hp0 S (n+1) x=CJ δ hp0 S n x:=by
   intro S;simp only[CJ];split
   ·simp[Pv,WK hx]
   rfl
  rw[one S,one S',ih]
theorem WN {m:Nat->Option Nat}{nx:Nat}{S S':Nat->Bool}:∀n,(∀j,j<n->(m j).isSome=true->S j=S' j)->CY m nx S n=CY m nx S' n
 |0,_=>rfl
 |n+1,h=>by
  have ih:=WN (m:=m) (nx:=nx) n fun j hj=>h j (by omega);simp only[CY,ih];cases hm:m n with |none=>simp |some k=>rw[h n (by omega) (by rw[hm];rfl)]
theorem fX {m:Nat->Option Nat}{nx:Nat}(i:Nat):∀n,CY m nx (fun k=>decide (k<i)) (i+n)=CY m nx (fun k=>decide (k<i)) i
 |0=>rfl
 |n+1=>by rw[<-Nu];simp only[CY];rw[if_neg (by simp),fX i n]
theorem ZC {m:Nat->Option Nat}{nx:Nat}{S S':Nat->Bool}:∀n,(∀j,j<n->S j=S' j)->CY m nx S n=CY m nx S' n
 |n,h=>WN n fun j hj _=>h j hj
theorem pB {m:Nat->Option Nat}{nx:Nat}{S S':Nat->Bool}{i:Nat}(hS':∀j,S' j=(S j||j==i))(n:Nat)(hi:i<n)(hlast:∀j,i<j->j<n->S j=true->(m i).isSome=true->(m j).isSome=false):
  CY m nx S' n=(m i).getD (CY m nx S n):=by
 cases hm:m i with
 |none=>
  refine WN n fun j _ hd=> ?_;rw[hS']
  have:j≠i:=fun e=>by subst e;rw[hm] at hd;cases hd
  simp[this]
 |some k=>
  have key:∀n,i<n->(∀j,i<j->j<n->S j=true->(m j).isSome=false)->CY m nx S' n=k:=by
   intro n;induction n with
   |zero=>intro h;omega
   |succ n ih=>
    intro hi hl;simp only[CY];by_cases e:n=i
    ·subst e;rw[if_pos (by simp[hS']),hm];rfl
    have hrest:=ih (by omega) fun j h1 h2=>hl j h1 (by omega);split
    ·rename_i hs;have hs2:S n=true:=by
      rw[hS'] at hs;simpa [e] using hs
     have:=hl n (by omega) (by omega) hs2;cases hmn:m n with |none=>exact hrest |some q=>rw[hmn] at this;cases this
    exact hrest
  exact key n hi fun j h1 h2 h3=>hlast j h1 h2 h3 (by rw[hm];rfl)
theorem ZD {m m':Nat->Option Nat}{nx:Nat}{S:Nat->Bool}:∀n,(∀k,k<n->m k=m' k)->CY m nx S n=CY m' nx S n
 |0,_=>rfl
 |n+1,h=>by simp only[CY,ZD n fun k hk=>h k (by omega),h n (by omega)]
theorem fY {ops:Array Oper}{v:Nat->AV}{fr0:Fr}(i:Nat):∀n,CU ops v fr0 (fun k=>decide (k<i)) (i+n)=CU ops v fr0 (fun k=>decide (k<i)) i
 |0=>rfl
 |n+1=>by rw[<-Nu];simp only[CU];rw[if_neg (by simp),fY i n]
theorem ZE {δ:Nat->List (Nat × AO)}{hp0:Hp}(i:Nat):∀n,CJ δ hp0 (fun k=>decide (k<i)) (i+n)=CJ δ hp0 (fun k=>decide (k<i)) i
 |0=>rfl
 |n+1=>by rw[<-Nu];simp only[CJ];rw[if_neg (by simp),ZE i n]
theorem ZG {ops:Array Oper}{v:Nat->AV}{fr0:Fr}{S S':Nat->Bool}:∀n,(∀j,j<n->S j=S' j)->CU ops v fr0 S n=CU ops v fr0 S' n
 |n,h=>funext fun _=>vV_ n fun j hj _=>h j hj
theorem WO {δ:Nat->List (Nat × AO)}{hp0:Hp}{S S':Nat->Bool}:∀n,(∀j,j<n->S j=S' j)->CJ δ hp0 S n=CJ δ hp0 S' n
 |n,h=>funext fun _=>zI_ n fun j hj _=>h j hj
theorem pC {ops:Array Oper}{v:Nat->AV}{fr0:Fr}{S S':Nat->Bool}{i:Nat}(hS':∀j,S' j=(S j||j==i)):∀n,i<n->(∀j,i<j->j<n->S j=true->∀d,(ops[i]?).bind (·.dst)=some d->(ops[j]?).bind (·.dst)≠some d)->
  CU ops v fr0 S' n=A7 ((ops[i]?).bind (·.dst)) (v i) (CU ops v fr0 S n):=by
 intro n hi hlast;funext t;rw[WM];by_cases ht:(ops[i]?).bind (·.dst)=some t;rotate_left
 ·rw[if_neg ht];refine vV_ n fun j _ hd=> ?_;rw[hS']
  have:j≠i:=fun e=>ht (e▸hd)
  simp[this]
 rw[if_pos ht];have key:∀n,i<n->(∀j,i<j->j<n->S j=true->(ops[j]?).bind (·.dst)≠some t)->CU ops v fr0 S' n t=v i:=by
  intro n;induction n with
  |zero=>intro h;omega
  |succ n ih=>
   intro hi hl;simp only[CU];by_cases e:n=i
   ·subst e;rw[if_pos (by simp[hS']),WM,if_pos ht]
   have hrest:=ih (by omega) fun j h1 h2=>hl j h1 (by omega);split
   ·rename_i hs;have hs2:S n=true:=by
     rw[hS'] at hs;simpa [e] using hs
    rw[WM,if_neg (hl n (by omega) (by omega) hs2)];exact hrest
   exact hrest
 exact key n hi fun j h1 h2 h3=>hlast j h1 h2 h3 t ht
theorem pD {δ:Nat->List (Nat × AO)}{hp0:Hp}{S S':Nat->Bool}{i:Nat}(hS':∀j,S' j=(S j||j==i))(n:Nat)(hi:i<n)(hlast:∀j,i<j->j<n->S j=true->∀x∈(δ i).map (·.1),x∉(δ j).map (·.1)):
  CJ δ hp0 S' n=Av (δ i) (CJ δ hp0 S n):=by
 funext x;by_cases hx:x∈(δ i).map (·.1);rotate_left
 ·rw[Pv,WK hx];refine zI_ n fun j _ hd=> ?_;rw[hS']
  have:j≠i:=fun e=>hx (e▸hd)
  simp[this]
 -- the last word on x is i's
 have key:∀n,i<n->(∀j,i<j->j<n->S j=true->x∉(δ j).map (·.1))->CJ δ hp0 S' n x=Av (δ i) (CJ δ hp0 S i) x/\(∀h:Hp,Av (δ i) h x=Av (δ i) (CJ δ hp0 S i) x):=by
  intro n;have hov:∃o,Em (δ i) x=some o:=by
   have:∀δ:List (Nat × AO),x∈δ.map (·.1)->∃o,Em δ x=some o:=by
    intro δ;induction δ with
    |nil=>intro h;simp at h
    |cons p r ih=>
     obtain⟨k,o⟩:=p;intro h;simp only[Em];cases hr:Em r x with
     |some o'=>exact⟨o',rfl⟩
     |none=>
      by_cases e:x=k
      ·exact⟨o,by simp[e]⟩
      simp only[Lk,Lm] at h;rcases h with h |h
      ·exact absurd h e
      obtain⟨o',h'⟩:=ih h;rw[hr] at h';cases h'
   exact this _ hx
  obtain⟨o,ho⟩:=hov;have hall:∀h:Hp,Av (δ i) h x=some o:=fun h=>by rw[Pv,ho]
  induction n with
  |zero=>intro h;omega
  |succ n ih=>
   intro hi hl;refine⟨?_,fun h=>by rw[hall,hall]⟩;rw[hall];simp only[CJ];by_cases e:n=i
   ·subst e;rw[if_pos (by simp[hS']),hall]
   have hrest:=(ih (by omega) fun j h1 h2=>hl j h1 (by omega)).1;rw[hall] at hrest;split
   ·rename_i hs;have hs2:S n=true:=by
     rw[hS'] at hs;simpa [e] using hs
    rw[Pv,WK (hl n (by omega) (by omega) hs2)];exact hrest
   exact hrest
 obtain⟨h1,h2⟩:=key n hi fun j a b c=>hlast j a b c x hx;rw[h1];exact(h2 _).symm
end
end Go.Proofs.YtnmkbmefohakmaaGreat.Ab
