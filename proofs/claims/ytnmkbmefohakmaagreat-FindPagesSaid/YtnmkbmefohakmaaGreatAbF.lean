/-
 Open orders: the order of the text is enough.
-/
import Derived.Test.YtnmkbmefohakmaaGreatAbC
namespace Go.Proofs.YtnmkbmefohakmaaGreat.Ab
open Go.RowKit
structure Rec where
 ids:List Nat
 ks:List Nat
 g:Bool
def meet (xs ys:List Nat):Bool:=xs.any fun x=>ys.contains x
def zZ_ (a b:Rec):Bool:=meet a.ks (b.ids++b.ks)||meet b.ks a.ids||(a.g&&b.g)
def sent:Nat:=340282366920938463463374607431768211456
def wild (a:Rec):Bool:=a.g&&a.ids.contains sent
def zj_ (a b:Rec):Bool:=zZ_ a b||((wild a&& !b.ks.isEmpty)||(wild b&& !a.ks.isEmpty))
theorem zk_ {a b:Rec}(h:zZ_ a b=true):zj_ a b=true:=by simp[zj_,h]
def Agree (ids:List Nat)(hp1 hp:Hp):Prop:=(∀i∈ids,hp1 i=hp i)/\(sent∈ids->hp1=hp)
def dirs (o:Oper):List Nat:=o.after.toList.filterMap fun e=>if Region.binds .any e then some e.on else none
def yJ_:List Oper->List (List Nat)->List (List Nat)
 |[],acc=>acc
 |o::r,acc=>yJ_ r (acc++[(dirs o++(dirs o).flatMap fun k=>acc.getD k []).eraseDups])
def gO_ (ops:Array Oper):List (List Nat):=yJ_ ops.toList []
def wp_ (ops:Array Oper)(o:Oper):List Nat:=
 (o.op.operands.toList.filterMap fun x=>match x with | .tmp t=>some t |_=>none)++(match o.guard with |some (j,_)=>(((ops[j]?).bind (·.dst)).toList) |none=>[])
def zy_ (ops:Array Oper)(a b:Oper):Bool:=
 (match a.dst with |some d=>(wp_ ops b).contains d||b.dst==some d |none=>false)||(match b.dst with |some d=>(wp_ ops a).contains d |none=>false)
def ko_ (ops:Array Oper)(ps:List (List Nat))(rs:List Rec):Bool:=
 (List.range ops.size).all fun j=>(List.range j).all fun i=>
  (ps.getD j []).contains i||(match ops[i]?,ops[j]? with |some a,some b=> !zy_ ops a b |_,_=>true)&&(match rs[i]?,rs[j]? with |some a,some b=> !zj_ a b |_,_=>true)
def early (ops:Array Oper):Bool:=ops.toList.zipIdx.all fun p=>(dirs p.1).all fun k=>decide (k<p.2)
def wq_ (ops:Array Oper)(rs:List Rec):Bool:=early ops&&ko_ ops (gO_ ops) rs
def m4_ (P:Program)(g:FuncId)(vs:List AV)(hp:Hp)(nx:Nat)(ids:List Nat)(v:AV)(δ:List (Nat × AO))(nx':Nat):Prop:=
 ∀hp1:Hp,Agree ids hp1 hp->InlOK P g vs hp1 nx fun v2 hp2 nx2=>v2=v/\hp2=upds δ hp1/\nx2=nx'
def execD (P:Program)(tab:Nat->TI)(op:Op)(id nx:Nat)(fr:Fr)(hp:Hp)(K:AV->List (Nat × AO)->List Nat->Option Nat->Prop):Prop:=
 match op with
 | .call { callee:=.value f,args, .. }=>match ev fr f with
  | .fn g caps=>(∃ds b is d fr',toDl hp (args.toList.map (ev fr)++caps)=some (ds,b,is)/\PureOK P g ds d fr'/\(is= []\/fr'=true)/\K (lift (!fr'&&b) d) [] (qG_ (ev fr) op) none)\/
   ∃ids v δ nx',m4_ P g (args.toList.map (ev fr)++caps) hp nx ids v δ nx'/\K v δ ids (some nx')
  |_=>False
 |op=>match ql_ tab (ev fr) hp id op with
  |some (v,δ)=>K v δ (qG_ (ev fr) op) none
  |none=>False
def WD (P:Program)(tab:Nat->TI)(ops:Array Oper)(nx0:Nat)(K:St->Prop):Nat->Nat->List Oper->List Rec->Fr->Hp->Prop
 |nx,_,[],acc,fr,hp=>wq_ ops acc.reverse=true/\K ⟨fr,hp,nx⟩
 |nx,i,o::r,acc,fr,hp=>xC_ ops o ⟨fr,hp,nx⟩
   (execD P tab o.op (nx0+i) nx fr hp fun v δ ids n=>WD P tab ops nx0 K (n.getD nx) (i+1) r (⟨ids,δ.map (·.1),n.isSome⟩::acc) (putS o.dst v fr) (upds δ hp))
   (WD P tab ops nx0 K nx (i+1) r (⟨[],[],false⟩::acc) (putS o.dst (.tu []) fr) hp)
section
variable {P:Program}{tab:Nat->TI}
theorem uM_ {xs:List Nat}{x:Nat}(h:x∈xs.eraseDups):x∈xs:=by
 exact(List.mem_eraseDups).1 h
theorem bQ_ {ops:Array Oper}(Bf:Nat->Nat->Prop)(htr:∀i j k,Bf i j->Bf j k->Bf i k)(hdir:∀(i:Nat) (o:Oper),ops[i]? =some o->∀k∈dirs o,Bf k i):
  ∀i j,j∈(gO_ ops).getD i []->Bf j i:=by
 have key:∀(l:List Oper) (acc:List (List Nat)),(∀(k:Nat) (o:Oper),l[k]? =some o->ops[acc.length+k]? =some o)->(∀i j,j∈acc.getD i []->Bf j i)->∀i j,j∈(yJ_ l acc).getD i []->Bf j i:=by
  intro l;induction l with
  |nil=>exact fun acc _ h=>h
  |cons o r ih=>
   intro acc hl hacc;refine ih _ (fun k o' hk=> ?_) fun i j hj=> ?_
   ·have:=hl (k+1) o' (by simpa using hk)
    grind
   ·by_cases hi:i<acc.length
    ·grind
    ·rw[List.getD,List.getElem?_append_right (by omega)] at hj
     by_cases hi2:i=acc.length
     ·subst hi2
      simp only[Nat.sub_self,List.getElem?_cons_zero,Option.getD_some] at hj;have ho:=hl 0 o rfl;rw[Nat.add_zero] at ho;have hj2:=uM_ hj;grind
     grind
 exact key ops.toList [] (fun k o h=>by simpa using h) fun i j h=>by simp at h
def frAt (ops:Array Oper)(v:Nat->AV)(fr0:Fr)(S:Nat->Bool):Nat->Fr
 |0=>fr0
 |k+1=>if S k then putS ((ops[k]?).bind (·.dst)) (v k) (frAt ops v fr0 S k) else frAt ops v fr0 S k
def hpAt (δ:Nat->List (Nat × AO))(hp0:Hp)(S:Nat->Bool):Nat->Hp
 |0=>hp0
 |k+1=>if S k then upds (δ k) (hpAt δ hp0 S k) else hpAt δ hp0 S k
def nxAt (m:Nat->Option Nat)(nx:Nat)(S:Nat->Bool):Nat->Nat
 |0=>nx
 |k+1=>if S k then(m k).getD (nxAt m nx S k) else nxAt m nx S k
def ovr:List (Nat × AO)->Nat->Option AO
 |[],_=>none
 |(k,o)::r,x=>match ovr r x with
  |some o'=>some o'
  |none=>if x=k then some o else none
theorem vW_:∀(δ:List (Nat × AO)) (h:Hp) (x:Nat),upds δ h x=match ovr δ x with |some o=>some o |none=>h x
 |[],h,x=>rfl
 |(k,o)::r,h,x=>by
  simp only[upds,vW_ r,ovr];grind [ovr,upd]
theorem gP_ {δ:List (Nat × AO)}{x:Nat}(h:x∉δ.map (·.1)):ovr δ x=none:=by
 induction δ with
 |nil=>rfl
 |cons p r ih=>
  simp_all [List.map_cons,List.mem_cons,not_or,ovr]
theorem k3_ (d:Option Nat)(v:AV)(fr:Fr)(t:Nat):putS d v fr t=if d=some t then v else fr t:=by
 cases d with
 |none=>simp[putS]
 |some k=>
  by_cases e:t=k
  ·subst e;simp[putS,upd]
  ·have:¬k=t:=fun h=>e h.symm
   simp[putS,upd,e,this]
theorem vX_ {ops:Array Oper}{v:Nat->AV}{fr0:Fr}{S S':Nat->Bool}{t:Nat}:∀n,(∀j,j<n->(ops[j]?).bind (·.dst)=some t->S j=S' j)->frAt ops v fr0 S n t=frAt ops v fr0 S' n t
 |0,_=>rfl
 |n+1,h=>by
  have ih:=vX_ (v:=v) (fr0:=fr0) n fun j hj=>h j (by omega);have one:∀S:Nat->Bool,frAt ops v fr0 S (n+1) t=if S n=true/\(ops[n]?).bind (·.dst)=some t then v n else frAt ops v fr0 S n t:=by
   intro S;simp only[frAt];by_cases hS:S n=true
   ·simp[hS,k3_]
   ·simp[hS]
  grind
theorem z0_ {δ:Nat->List (Nat × AO)}{hp0:Hp}{S S':Nat->Bool}{x:Nat}:∀n,(∀j,j<n->x∈(δ j).map (·.1)->S j=S' j)->hpAt δ hp0 S n x=hpAt δ hp0 S' n x
 |0,_=>rfl
 |n+1,h=>by
  have ih:=z0_ (δ:=δ) (hp0:=hp0) n fun j hj=>h j (by omega);by_cases hx:x∈(δ n).map (·.1)
  ·have e:=h n (by omega) hx
   simp only[hpAt,e];split
   ·simp only[vW_,ih]
   ·exact ih
  ·have one:∀S:Nat->Bool,hpAt δ hp0 S (n+1) x=hpAt δ hp0 S n x:=by
    intro S;simp only[hpAt];split
    ·simp[vW_,gP_ hx]
    ·rfl
   rw[one S,one S',ih]
theorem vY_ {m:Nat->Option Nat}{nx:Nat}{S S':Nat->Bool}:∀n,(∀j,j<n->(m j).isSome=true->S j=S' j)->nxAt m nx S n=nxAt m nx S' n
 |0,_=>rfl
 |n+1,h=>by
  have ih:=vY_ (m:=m) (nx:=nx) n fun j hj=>h j (by omega);simp only[nxAt,ih];cases hm:m n with
  |none=>simp
  |some k=>rw[h n (by omega) (by rw[hm];rfl)]
theorem bR_ {m:Nat->Option Nat}{nx:Nat}(i:Nat):∀n,nxAt m nx (fun k=>decide (k<i)) (i+n)=nxAt m nx (fun k=>decide (k<i)) i
 |0=>rfl
 |n+1=>by rw[<-Nat.add_assoc];simp only[nxAt];rw[if_neg (by simp),bR_ i n]
theorem gQ_ {m:Nat->Option Nat}{nx:Nat}{S S':Nat->Bool}:∀n,(∀j,j<n->S j=S' j)->nxAt m nx S n=nxAt m nx S' n
 |n,h=>vY_ n fun j hj _=>h j hj
theorem ro_ {m:Nat->Option Nat}{nx:Nat}{S S':Nat->Bool}{i:Nat}(hS':∀j,S' j=(S j||j==i))(n:Nat)(hi:i<n)(hlast:∀j,i<j->j<n->S j=true->(m i).isSome=true->(m j).isSome=false):
  nxAt m nx S' n=(m i).getD (nxAt m nx S n):=by
 cases hm:m i with
 |none=>
  refine vY_ n fun j _ hd=> ?_;rw[hS']
  have:j≠i:=fun e=>by subst e;rw[hm] at hd;cases hd
  simp[this]
 |some k=>
  have key:∀n,i<n->(∀j,i<j->j<n->S j=true->(m j).isSome=false)->nxAt m nx S' n=k:=by
   intro n;induction n with
   |zero=>intro h;omega
   |succ n ih=>
    intro hi hl;simp only[nxAt];by_cases e:n=i
    ·grind
    ·have hrest:=ih (by omega) fun j h1 h2=>hl j h1 (by omega)
     split
     ·rename_i hs
      have hs2:S n=true:=by
       rw[hS'] at hs;simpa [e] using hs
      have:=hl n (by omega) (by omega) hs2
      simp_all
     ·exact hrest
  grind
theorem m5_ {m m':Nat->Option Nat}{nx:Nat}{S:Nat->Bool}:∀n,(∀k,k<n->m k=m' k)->nxAt m nx S n=nxAt m' nx S n
 |0,_=>rfl
 |n+1,h=>by simp only[nxAt,m5_ n fun k hk=>h k (by omega),h n (by omega)]
theorem bS_ {ops:Array Oper}{v:Nat->AV}{fr0:Fr}(i:Nat):∀n,frAt ops v fr0 (fun k=>decide (k<i)) (i+n)=frAt ops v fr0 (fun k=>decide (k<i)) i
 |0=>rfl
 |n+1=>by rw[<-Nat.add_assoc];simp only[frAt];rw[if_neg (by simp),bS_ i n]
theorem yK_ {δ:Nat->List (Nat × AO)}{hp0:Hp}(i:Nat):∀n,hpAt δ hp0 (fun k=>decide (k<i)) (i+n)=hpAt δ hp0 (fun k=>decide (k<i)) i
 |0=>rfl
 |n+1=>by rw[<-Nat.add_assoc];simp only[hpAt];rw[if_neg (by simp),yK_ i n]
theorem gR_ {ops:Array Oper}{v:Nat->AV}{fr0:Fr}{S S':Nat->Bool}:∀n,(∀j,j<n->S j=S' j)->frAt ops v fr0 S n=frAt ops v fr0 S' n
 |n,h=>funext fun _=>vX_ n fun j hj _=>h j hj
theorem k4_ {δ:Nat->List (Nat × AO)}{hp0:Hp}{S S':Nat->Bool}:∀n,(∀j,j<n->S j=S' j)->hpAt δ hp0 S n=hpAt δ hp0 S' n
 |n,h=>funext fun _=>z0_ n fun j hj _=>h j hj
theorem rp_ {ops:Array Oper}{v:Nat->AV}{fr0:Fr}{S S':Nat->Bool}{i:Nat}(hS':∀j,S' j=(S j||j==i)):∀n,i<n->(∀j,i<j->j<n->S j=true->∀d,(ops[i]?).bind (·.dst)=some d->(ops[j]?).bind (·.dst)≠some d)->
  frAt ops v fr0 S' n=putS ((ops[i]?).bind (·.dst)) (v i) (frAt ops v fr0 S n):=by
 intro n hi hlast;funext t;rw[k3_];by_cases ht:(ops[i]?).bind (·.dst)=some t
 ·rw[if_pos ht]
  have key:∀n,i<n->(∀j,i<j->j<n->S j=true->(ops[j]?).bind (·.dst)≠some t)->frAt ops v fr0 S' n t=v i:=by
   intro n;induction n with
   |zero=>intro h;omega
   |succ n ih=>
    intro hi hl;simp only[frAt];by_cases e:n=i
    ·subst e
     rw[if_pos (by simp[hS']),k3_,if_pos ht]
    ·have hrest:=ih (by omega) fun j h1 h2=>hl j h1 (by omega)
     split
     ·rename_i hs
      have hs2:S n=true:=by
       rw[hS'] at hs;simpa [e] using hs
      rw[k3_,if_neg (hl n (by omega) (by omega) hs2)];exact hrest
     ·exact hrest
  grind
 ·rw[if_neg ht]
  refine vX_ n fun j _ hd=> ?_;rw[hS']
  have:j≠i:=fun e=>ht (e▸hd)
  simp[this]
theorem rq_ {δ:Nat->List (Nat × AO)}{hp0:Hp}{S S':Nat->Bool}{i:Nat}(hS':∀j,S' j=(S j||j==i))(n:Nat)(hi:i<n)(hlast:∀j,i<j->j<n->S j=true->∀x∈(δ i).map (·.1),x∉(δ j).map (·.1)):
  hpAt δ hp0 S' n=upds (δ i) (hpAt δ hp0 S n):=by
 funext x;by_cases hx:x∈(δ i).map (·.1)
 ·-- the last word on x is i's
  have key:∀n,i<n->(∀j,i<j->j<n->S j=true->x∉(δ j).map (·.1))->hpAt δ hp0 S' n x=upds (δ i) (hpAt δ hp0 S i) x/\(∀h:Hp,upds (δ i) h x=upds (δ i) (hpAt δ hp0 S i) x):=by
   intro n;have hov:∃o,ovr (δ i) x=some o:=by
    have:∀δ:List (Nat × AO),x∈δ.map (·.1)->∃o,ovr δ x=some o:=by
     intro δ;induction δ with
     |nil=>intro h;simp at h
     |cons p r ih=>
      obtain⟨k,o⟩:=p;intro h;simp only[ovr];cases hr:ovr r x with
      |some o'=>exact⟨o',rfl⟩
      |none=>
       simp_all
    exact this _ hx
   obtain⟨o,ho⟩:=hov;have hall:∀h:Hp,upds (δ i) h x=some o:=fun h=>by rw[vW_,ho]
   induction n with
   |zero=>intro h;omega
   |succ n ih=>
    intro hi hl;refine⟨?_,fun h=>by rw[hall,hall]⟩;rw[hall];simp only[hpAt];by_cases e:n=i
    ·grind
    grind [vW_,gP_]
  grind
 ·rw[vW_,gP_ hx]
  refine z0_ n fun j _ hd=> ?_;rw[hS']
  have:j≠i:=fun e=>hx (e▸hd)
  simp[this]
end
section
variable {P:Program}{tab:Nat->TI}
def gd (ops:Array Oper)(o:Oper)(fr:Fr):Option Bool:=
 match o.guard with
 |none=>some true
 |some (j,t)=>match (ops[j]?).bind (·.dst) with
  |none=>some false
  |some d=>match fr d with
   | .v (.bool b)=>some (b==t)
   | .tu []=>some false
   |_=>none
theorem m6_ {ops:Array Oper}{o:Oper}{s:St}{y n:Prop}(h:xC_ ops o s y n):(gd ops o s.fr=some true/\y)\/(gd ops o s.fr=some false/\n):=by
 unfold xC_ at h;unfold gd;split at h
 ·grind
 ·rename_i j t e
  rw[e];split at h
  ·grind
  ·rename_i d e2
   simp only[e2];split at h
   ·rename_i b e3
    simp only[e3];by_cases hb:b=t
    ·exact .inl ⟨by simp[hb],h.1 hb⟩
    ·exact .inr ⟨by simp[hb],h.2 (by cases b<;>cases t<;>simp_all)⟩
   ·grind
   ·exact h.elim
theorem m7_ {ops:Array Oper}{o:Oper}{s:St}{y n:Prop}(h:(gd ops o s.fr=some true/\y)\/(gd ops o s.fr=some false/\n)):xC_ ops o s y n:=by
 grind [gd,xC_,absurd]
theorem fS_ {ops:Array Oper}{o:Oper}{fr fr':Fr}(h:∀t∈wp_ ops o,fr t=fr' t):gd ops o fr=gd ops o fr':=by
 grind [gd,bind,wp_]
theorem rr_ {ops:Array Oper}{o:Oper}{fr fr':Fr}(h:∀t∈wp_ ops o,fr t=fr' t):∀x∈o.op.operands.toList,ev fr x=ev fr' x:=by
 intro x hx;cases x with
 |tmp t=>
  refine h t ?_;simp only[wp_,List.mem_append,List.mem_filterMap];exact .inl ⟨.tmp t,hx,rfl⟩
 |_=>rfl
def ExD (P:Program)(tab:Nat->TI)(op:Op)(id nx:Nat)(fr:Fr)(hp:Hp)(v:AV)(δ:List (Nat × AO))(ids:List Nat)(n:Option Nat):Prop:=
 match op with
 | .call { callee:=.value f,args, .. }=>∃g caps,ev fr f= .fn g caps/\((∃ds b is d fr',toDl hp (args.toList.map (ev fr)++caps)=some (ds,b,is)/\PureOK P g ds d fr'/\(is= []\/fr'=true)/\v=lift (!fr'&&b) d/\δ= []/\ids=qG_ (ev fr) op/\n=none)\/
   ∃nx',m4_ P g (args.toList.map (ev fr)++caps) hp nx ids v δ nx'/\n=some nx')
 |op=>ql_ tab (ev fr) hp id op=some (v,δ)/\ids=qG_ (ev fr) op/\n=none
theorem rs_ {op:Op}{id nx:Nat}{fr:Fr}{hp:Hp}{K:AV->List (Nat × AO)->List Nat->Option Nat->Prop}(h:execD P tab op id nx fr hp K):∃v δ ids n,ExD P tab op id nx fr hp v δ ids n/\K v δ ids n:=by
 unfold execD at h;unfold ExD;grind
theorem rt_ {op:Op}{id:Nat}{s:St}{K:AV->Hp->Nat->Prop}{v:AV}{δ:List (Nat × AO)}{ids:List Nat}{n:Option Nat}(h:ExD P tab op id s.nx s.fr s.hp v δ ids n)(hK:K v (upds δ s.hp) (n.getD s.nx)):kT_ P tab op id s K:=by
 unfold ExD at h;unfold kT_;split at h
 ·obtain⟨g,caps,e,h⟩:=h
  simp only[bK_,e];rcases h with⟨ds,b,is,d,fr',h1,h2,h3,rfl,rfl,rfl,rfl⟩ |⟨nx',h1,rfl⟩
  ·exact .inl ⟨ds,b,is,d,fr',h1,h2,h3,hK⟩
  ·refine .inr ((h1 s.hp ⟨fun _ _=>rfl,fun _=>rfl⟩).mono ?_)
   grind
 grind
theorem m8_ {op:Op}{id nx nx1:Nat}{fr fr':Fr}{hp hp':Hp}{v:AV}{δ:List (Nat × AO)}{ids:List Nat}{n:Option Nat}(h:ExD P tab op id nx fr hp v δ ids n)(hρ:∀x∈op.operands.toList,ev fr x=ev fr' x)(hh:∀i∈ids,hp i=hp' i)(hw:n.isSome=true->sent∈ids->hp=hp')(hn:n.isSome=true->nx=nx1):ExD P tab op id nx1 fr' hp' v δ ids n:=by
 have hids:qG_ (ev fr) op=qG_ (ev fr') op:=by
  unfold qG_;split
  ·rw[List.map_congr_left hρ]
  ·rfl
 unfold ExD at *;split at h
 ·rename_i f args ty
  obtain⟨g,caps,e,h⟩:=h;have hf:ev fr f=ev fr' f:=hρ f (by simp[Op.operands,Call.operands]);have ha:args.toList.map (ev fr)=args.toList.map (ev fr'):=List.map_congr_left fun x hx=>hρ x (by simp[Op.operands,Call.operands] at hx⊢;exact .inr hx);refine⟨g,caps,hf▸e,?_⟩;rcases h with⟨ds,b,is,d,fr2,h1,h2,h3,h4,h5,h6,h7⟩ |⟨nx',h1,h2⟩
  ·refine .inl ⟨ds,b,is,d,fr2,?_,h2,h3,h4,h5,h6.trans hids,h7⟩
   rw[<-ha,<-kn_ (hp:=hp) (hp':=hp')]
   ·exact h1
   ·intro i hi
    refine hh i ?_;rw[h6];simp only[qG_,vq_,if_true,Op.operands,Call.operands];grind [yG_,Array.toList_append,idsL,idsA]
  ·subst h2
   have hnx:=hn rfl;subst hnx;refine .inr ⟨nx',fun hp1 hq=> ?_,rfl⟩;rw[<-ha];exact h1 hp1 ⟨fun i hi=>(hq.1 i hi).trans (hh i hi).symm,fun hs=>(hq.2 hs).trans (hw rfl hs).symm⟩
 grind [bP_]
def Sat (P:Program)(tab:Nat->TI)(ops:Array Oper)(nx0 k:Nat)(o:Oper)(nx:Nat)(fr:Fr)(hp:Hp)(v:AV)(δ:List (Nat × AO))(rc:Rec)(n:Option Nat):Prop:=
 (gd ops o fr=some true/\ExD P tab o.op (nx0+k) nx fr hp v δ rc.ids n/\rc.ks=δ.map (·.1)/\rc.g=n.isSome)\/(gd ops o fr=some false/\v= .tu []/\δ= []/\n=none/\rc.ids= []/\rc.ks= []/\rc.g=false)
theorem Sat.ks {ops:Array Oper}{nx0 k:Nat}{o:Oper}{nx:Nat}{fr:Fr}{hp:Hp}{v:AV}{δ:List (Nat × AO)}{rc:Rec}{n:Option Nat}(h:Sat P tab ops nx0 k o nx fr hp v δ rc n):rc.ks=δ.map (·.1)/\rc.g=n.isSome:=by
 rcases h with h |h
 ·exact h.2.2
 grind
theorem m9_ {ops:Array Oper}{v v':Nat->AV}{fr0:Fr}{S:Nat->Bool}:∀n,(∀k,k<n->v k=v' k)->frAt ops v fr0 S n=frAt ops v' fr0 S n
 |0,_=>rfl
 |n+1,h=>by simp only[frAt,m9_ n fun k hk=>h k (by omega),h n (by omega)]
theorem na_ {δ δ':Nat->List (Nat × AO)}{hp0:Hp}{S:Nat->Bool}:∀n,(∀k,k<n->δ k=δ' k)->hpAt δ hp0 S n=hpAt δ' hp0 S n
 |0,_=>rfl
 |n+1,h=>by simp only[hpAt,na_ n fun k hk=>h k (by omega),h n (by omega)]
theorem fT_ {ops:Array Oper}{nx0 nxb:Nat}{K:St->Prop}{fr0:Fr}{hp0:Hp}:∀(r:List Oper) (i:Nat) (acc:List Rec) (v:Nat->AV) (δ:Nat->List (Nat × AO)) (rc:Nat->Rec) (m:Nat->Option Nat),i+r.length=ops.size->(∀(k:Nat) (o:Oper),r[k]? =some o->ops[i+k]? =some o)->acc.reverse=(List.range i).map rc->
  WD P tab ops nx0 K (nxAt m nxb (fun _=>true) i) i r acc (frAt ops v fr0 (fun _=>true) i) (hpAt δ hp0 (fun _=>true) i)->
  ∃v' δ' rc' m',(∀k,k<i->v' k=v k/\δ' k=δ k/\rc' k=rc k/\m' k=m k)/\(∀k o,i<=k->ops[k]? =some o->Sat P tab ops nx0 k o (nxAt m' nxb (fun _=>true) k) (frAt ops v' fr0 (fun _=>true) k) (hpAt δ' hp0 (fun _=>true) k) (v' k) (δ' k) (rc' k) (m' k))/\
   wq_ ops ((List.range ops.size).map rc')=true/\K ⟨frAt ops v' fr0 (fun _=>true) ops.size,hpAt δ' hp0 (fun _=>true) ops.size,nxAt m' nxb (fun _=>true) ops.size⟩
 |[],i,acc,v,δ,rc,m,hl,hr,ha,h=>by
  simp only[List.length_nil,Nat.add_zero] at hl;subst hl;obtain⟨h1,h2⟩:=h;grind
 |o::r,i,acc,v,δ,rc,m,hl,hr,ha,h=>by
  have ho:ops[i]? =some o:=by simpa using hr 0 o rfl
  simp only[List.length_cons] at hl;have step:∀(v1:AV) (δ1:List (Nat × AO)) (rc1:Rec) (m1:Option Nat),Sat P tab ops nx0 i o (nxAt m nxb (fun _=>true) i) (frAt ops v fr0 (fun _=>true) i) (hpAt δ hp0 (fun _=>true) i) v1 δ1 rc1 m1->
    WD P tab ops nx0 K (m1.getD (nxAt m nxb (fun _=>true) i)) (i+1) r (rc1::acc) (putS o.dst v1 (frAt ops v fr0 (fun _=>true) i)) (upds δ1 (hpAt δ hp0 (fun _=>true) i))->
    ∃v' δ' rc' m',(∀k,k<i->v' k=v k/\δ' k=δ k/\rc' k=rc k/\m' k=m k)/\(∀k o,i<=k->ops[k]? =some o->Sat P tab ops nx0 k o (nxAt m' nxb (fun _=>true) k) (frAt ops v' fr0 (fun _=>true) k) (hpAt δ' hp0 (fun _=>true) k) (v' k) (δ' k) (rc' k) (m' k))/\
     wq_ ops ((List.range ops.size).map rc')=true/\K ⟨frAt ops v' fr0 (fun _=>true) ops.size,hpAt δ' hp0 (fun _=>true) ops.size,nxAt m' nxb (fun _=>true) ops.size⟩:=by
   intro v1 δ1 rc1 m1 hs hw;have e1:frAt ops (upd i v1 v) fr0 (fun _=>true) (i+1)=putS o.dst v1 (frAt ops v fr0 (fun _=>true) i):=by
    simp only[frAt,if_true,qd_,ho,Option.bind_some];rw[m9_ i fun k hk=>qb_ _ _ (by omega)]
   have e2:hpAt (upd i δ1 δ) hp0 (fun _=>true) (i+1)=upds δ1 (hpAt δ hp0 (fun _=>true) i):=by
    simp only[hpAt,if_true,qd_];rw[na_ i fun k hk=>qb_ _ _ (by omega)]
   have e3:nxAt (upd i m1 m) nxb (fun _=>true) (i+1)=m1.getD (nxAt m nxb (fun _=>true) i):=by
    simp only[nxAt,if_true,qd_];rw[m5_ i fun k hk=>qb_ _ _ (by omega)]
   rw[<-e1,<-e2,<-e3] at hw;obtain⟨v',δ',rc',m',g1,g2,g3⟩:=fT_ r (i+1) (rc1::acc) (upd i v1 v) (upd i δ1 δ) (upd i rc1 rc) (upd i m1 m) (by omega) (fun k o' hk=>by
    have:=hr (k+1) o' (by simpa using hk)
    grind) (by
    rw[List.reverse_cons,ha,List.range_succ,List.map_append];grind [List.map_congr_left,qb_,qd_]) hw
   refine⟨v',δ',rc',m',fun k hk=> ?_,fun k o' hk ho'=> ?_,g3⟩
   ·grind [qb_]
   ·grind [qd_,m9_,na_,m5_,qb_]
  unfold WD at h;rcases m6_ h with⟨hg,h⟩ |⟨hg,h⟩
  ·obtain⟨v1,δ1,ids1,n1,h1,h2⟩:=rs_ h
   exact step v1 δ1 _ n1 (.inl ⟨hg,h1,rfl,rfl⟩) h2
  ·exact step (.tu []) [] ⟨[],[],false⟩ none (.inr ⟨hg,rfl,rfl,rfl,rfl,rfl,rfl⟩) h
end
section
variable {P:Program}{tab:Nat->TI}
theorem yL_ {xs ys:List Nat}{x:Nat}(h1:x∈xs)(h2:x∈ys):meet xs ys=true:=List.any_eq_true.2 ⟨x,h1,by simpa using h2⟩
theorem fU_ {ops:Array Oper}(h:early ops=true){i:Nat}{o:Oper}(ho:ops[i]? =some o):∀k∈dirs o,k<i:=by
 intro k hk;have hm:(o,i)∈ops.toList.zipIdx:=by
  rw[List.mem_iff_getElem?];exact⟨i,by simp[List.getElem?_zipIdx,ho]⟩
 have:=List.all_eq_true.1 (List.all_eq_true.1 h _ hm) k hk
 simpa using this
theorem ru_ {o:Oper}{e:Edge}(he:e∈o.after.toList)(hb:Region.binds .any e=true):e.on∈dirs o:=by
 unfold dirs;grind
theorem k5_ {ops:Array Oper}{rs:List Rec}(h:ko_ ops (gO_ ops) rs=true){i j:Nat}(hij:i<j)(hj:j<ops.size){a b:Oper}(ha:ops[i]? =some a)(hb:ops[j]? =some b){ra rb:Rec}(h1:rs[i]? =some ra)(h2:rs[j]? =some rb)(hc:zy_ ops a b=true\/zj_ ra rb=true):i∈(gO_ ops).getD j []:=by
 have:=List.all_eq_true.1 (List.all_eq_true.1 h j (List.mem_range.2 hj)) i (List.mem_range.2 hij)
 grind
theorem fa_ {l:List Bool}(h:l.count false=0):∀(i:Nat),i<l.length->l[i]? =some true:=by
 grind
theorem W_draw {id:Nat}{ops:Array Oper}{Q:Ex->St->Prop}{s:St}(h:WD P tab ops s.nx (Q .normal) (s.nx+ops.size) 0 ops.toList [] s.fr s.hp):W P tab (.region id ops true) Q s:=by
 obtain⟨v,δ,rc,m,_,hsat,hok,hK⟩:=fT_ (nxb:=s.nx+ops.size) (fr0:=s.fr) (hp0:=s.hp) ops.toList 0 [] (fun _=>.un) (fun _=>[]) (fun _=>⟨[],[],false⟩) (fun _=>none) (by simp) (fun k o h=>by simpa using h) rfl h;simp only[wq_,Bool.and_eq_true] at hok;obtain⟨hearly,hpairs⟩:=hok
 have hrc:∀k,k<ops.size->((List.range ops.size).map rc)[k]? =some (rc k):=fun k hk=>by rw[List.getElem?_map,List.getElem?_range hk];rfl
 let Cl (S:Nat->Bool):Prop:=∀(i:Nat) (o:Oper),ops[i]? =some o->S i=true->∀k∈dirs o,S k=true
 have hpre:∀i j,j∈(gO_ ops).getD i []->j<i/\∀S,Cl S->S i=true->S j=true:=
  bQ_ (fun k i=>k<i/\∀S,Cl S->S i=true->S k=true) (fun i j k h1 h2=>⟨by omega,fun S hS hk=>h1.2 S hS (h2.2 S hS hk)⟩) fun i o ho k hk=>⟨fU_ hearly ho k hk,fun S hS hi=>hS i o ho hi k hk⟩
 have main:∀(fuel t:Nat) (listed:Array Bool),listed.size=ops.size->listed.toList.count false=fuel->Cl (fun k=>listed.getD k false)->
   WL P tab ops s.nx (Q .normal) (Region.linearise.go .any ops fuel t listed []) ⟨frAt ops v s.fr (fun k=>listed.getD k false) ops.size,hpAt δ s.hp (fun k=>listed.getD k false) ops.size,nxAt m (s.nx+ops.size) (fun k=>listed.getD k false) ops.size⟩:=by
  intro fuel;induction fuel with
  |zero=>
   intro t listed hs hc _;have hall:∀j,j<ops.size->(fun k=>listed.getD k false) j=(fun _=>true) j:=fun j hj=>by
    have:=fa_ hc j (by simpa [hs] using hj)
    simp only[Array.getElem?_toList] at this;simp[Array.getD_eq_getD_getElem?,this]
   simp only[Region.linearise.go,List.reverse_nil,WL];rw[gR_ ops.size hall,k4_ ops.size hall,gQ_ ops.size hall];exact hK
  |succ fuel ih=>
   intro t listed hs hc hcl;simp only[Region.linearise.go];split
   ·rename_i i hi
    rw[linearise_go_acc,List.reverse_singleton,List.singleton_append];have hmem:=List.mem_of_getElem? hi;simp only[List.mem_filter,List.mem_range,Bool.and_eq_true,Bool.not_eq_true'] at hmem;obtain⟨hlt,hni,hdeps⟩:=hmem;have hli:listed[i]? =some false:=by
     rw[Array.getD_eq_getD_getElem?] at hni;rw[Array.getElem?_eq_getElem (by omega)] at hni⊢;simpa using hni
    have hSi:listed.getD i false=false:=by rw[Array.getD_eq_getD_getElem?,hli];rfl
    have ho:ops[i]? =some ops[i]:=Array.getElem?_eq_getElem hlt;generalize ops[i]=o at ho;rw[ho] at hdeps;simp only[Option.map_some,Option.getD_some,Array.all_eq_true_iff_forall_mem] at hdeps;have hdirs:∀k∈dirs o,listed.getD k false=true:=fun k hk=>by
     obtain⟨e,he,hk2⟩:=List.mem_filterMap.1 hk;split at hk2
     ·rename_i hb
      cases hk2
      have:=hdeps e (by simpa using he)
      simpa [hb] using this
     ·cases hk2
    have hS':∀j,(listed.setIfInBounds i true).getD j false=(listed.getD j false||j==i):=fun j=>by
     simp only[Array.getD_eq_getD_getElem?];by_cases e:i=j
     ·subst e
      rw[Array.getElem?_setIfInBounds_self_of_lt (by omega)];simp
     ·rw[Array.getElem?_setIfInBounds_ne e]
      have:(j==i)=false:=by simpa using fun h:j=i=>e h.symm
      simp[this]
    have hcl':Cl (fun k=>(listed.setIfInBounds i true).getD k false):=by
     intro j oj hoj hj k hk;simp only[hS',Bool.or_eq_true,beq_iff_eq] at hj⊢;rcases hj with hj |rfl
     ·exact .inl (hcl j oj hoj hj k hk)
     ·rw[ho] at hoj
      cases hoj;exact .inl (hdirs k hk)
    have hfore:∀j,j∈(gO_ ops).getD i []->listed.getD j false=true:=fun j hj=>by
     obtain⟨h1,h2⟩:=hpre i j hj
     have:=h2 _ hcl' (by simp[hS'])
     simp only[hS',Bool.or_eq_true,beq_iff_eq] at this;rcases this with h3 |h3
     ·exact h3
     ·omega
    have hafter:∀j,i∈(gO_ ops).getD j []->listed.getD j false=false:=fun j hj=>by
     obtain⟨h1,h2⟩:=hpre j i hj;cases hb:listed.getD j false with
     |false=>rfl
     |true=>
      have:=h2 _ hcl hb
      simp only[hSi] at this;cases this
    have agree:∀j,j<ops.size->∀oj,ops[j]? =some oj->(zy_ ops oj o=true/\j<i\/zy_ ops o oj=true/\i<j\/zj_ (rc j) (rc i)=true/\j<i\/zj_ (rc i) (rc j)=true/\i<j\/j=i)->listed.getD j false=decide (j<i):=by
     intro j hj oj hoj hcase;rcases hcase with⟨h1,h2⟩ |⟨h1,h2⟩ |⟨h1,h2⟩ |⟨h1,h2⟩ |rfl
     ·rw[hfore j (k5_ hpairs h2 hlt hoj ho (hrc j hj) (hrc i hlt) (.inl h1))];simp[h2]
     ·rw[hafter j (k5_ hpairs h2 hj ho hoj (hrc i hlt) (hrc j hj) (.inl h1))];simp;omega
     ·rw[hfore j (k5_ hpairs h2 hlt hoj ho (hrc j hj) (hrc i hlt) (.inr h1))];simp[h2]
     ·rw[hafter j (k5_ hpairs h2 hj ho hoj (hrc i hlt) (hrc j hj) (.inr h1))];simp;omega
     ·rw[hSi];simp
    have hops:∀j,j<ops.size->∃oj,ops[j]? =some oj:=fun j hj=>⟨_,Array.getElem?_eq_getElem hj⟩;have hks:∀j,j<ops.size->(rc j).ks=(δ j).map (·.1):=fun j hj=>by
     obtain⟨oj,hoj⟩:=hops j hj;exact(hsat j oj (Nat.zero_le _) hoj).ks.1
    have hgs:∀j,j<ops.size->(rc j).g=(m j).isSome:=fun j hj=>by
     obtain⟨oj,hoj⟩:=hops j hj;exact(hsat j oj (Nat.zero_le _) hoj).ks.2
    have hfr:∀t∈wp_ ops o,frAt ops v s.fr (fun _=>true) i t=frAt ops v s.fr (fun k=>listed.getD k false) ops.size t:=by
     intro t ht;have e1:frAt ops v s.fr (fun k=>listed.getD k false) ops.size t=frAt ops v s.fr (fun k=>decide (k<i)) ops.size t:=by
      refine vX_ ops.size fun j hj hd=> ?_;obtain⟨oj,hoj⟩:=hops j hj;rw[hoj] at hd;simp only[Option.bind_some] at hd;refine agree j hj oj hoj ?_;rcases Nat.lt_trichotomy j i with h1 |h1 |h1
      ·exact .inl ⟨by simp[zy_,hd];exact .inl (.inl ht),h1⟩
      ·exact .inr (.inr (.inr (.inr h1)))
      ·exact .inr (.inl ⟨by simp[zy_,hd];exact .inr ht,h1⟩)
     have e2:frAt ops v s.fr (fun k=>decide (k<i)) ops.size=frAt ops v s.fr (fun k=>decide (k<i)) i:=by
      have:=bS_ (ops:=ops) (v:=v) (fr0:=s.fr) i (ops.size-i)
      rwa [show i+(ops.size-i)=ops.size by omega] at this
     rw[e1,e2];exact congrFun (gR_ i fun j hj=>by simp[hj]) t
    have hsi:=hsat i o (Nat.zero_le _) ho;have hhp:∀x∈(rc i).ids,hpAt δ s.hp (fun _=>true) i x=hpAt δ s.hp (fun k=>listed.getD k false) ops.size x:=by
     intro x hx;have e1:hpAt δ s.hp (fun k=>listed.getD k false) ops.size x=hpAt δ s.hp (fun k=>decide (k<i)) ops.size x:=by
      refine z0_ ops.size fun j hj hd=> ?_;obtain⟨oj,hoj⟩:=hops j hj;rw[<-hks j hj] at hd;refine agree j hj oj hoj ?_;rcases Nat.lt_trichotomy j i with h1 |h1 |h1
      ·exact .inr (.inr (.inl ⟨zk_ (by simp only[zZ_,Bool.or_eq_true];exact .inl (.inl (yL_ hd (List.mem_append.2 (.inl hx))))),h1⟩))
      ·exact .inr (.inr (.inr (.inr h1)))
      ·exact .inr (.inr (.inr (.inl ⟨zk_ (by simp only[zZ_,Bool.or_eq_true];exact .inl (.inr (yL_ hd hx))),h1⟩)))
     have e2:hpAt δ s.hp (fun k=>decide (k<i)) ops.size=hpAt δ s.hp (fun k=>decide (k<i)) i:=by
      have:=yK_ (δ:=δ) (hp0:=s.hp) i (ops.size-i)
      rwa [show i+(ops.size-i)=ops.size by omega] at this
     rw[e1,e2];exact congrFun (k4_ i fun j hj=>by simp[hj]) x
    have hhw:(m i).isSome=true->sent∈(rc i).ids->hpAt δ s.hp (fun _=>true) i=hpAt δ s.hp (fun k=>listed.getD k false) ops.size:=by
     intro hmi hw;have hwi:wild (rc i)=true:=by
      rw[<-hgs i hlt] at hmi;simpa [wild,hmi] using hw
     have e1:∀j,j<ops.size->∀x,x∈(δ j).map (·.1)->listed.getD j false=decide (j<i):=fun j hj x hd=>by
      obtain⟨oj,hoj⟩:=hops j hj;refine agree j hj oj hoj ?_;rw[<-hks j hj] at hd;have hne:(rc j).ks.isEmpty=false:=by
       cases e:(rc j).ks with
       |nil=>rw[e] at hd;cases hd
       |cons _ _=>rfl
      rcases Nat.lt_trichotomy j i with h1 |h1 |h1
      ·exact .inr (.inr (.inl ⟨by simp[zj_,hwi,hne],h1⟩))
      ·exact .inr (.inr (.inr (.inr h1)))
      ·exact .inr (.inr (.inr (.inl ⟨by simp[zj_,hwi,hne],h1⟩)))
     have e2:hpAt δ s.hp (fun k=>listed.getD k false) ops.size=hpAt δ s.hp (fun k=>decide (k<i)) ops.size:=by
      funext x;exact z0_ ops.size fun j hj hd=>e1 j hj x hd
     have e3:hpAt δ s.hp (fun k=>decide (k<i)) ops.size=hpAt δ s.hp (fun k=>decide (k<i)) i:=by
      have:=yK_ (δ:=δ) (hp0:=s.hp) i (ops.size-i)
      rwa [show i+(ops.size-i)=ops.size by omega] at this
     rw[e2,e3];exact k4_ i fun j hj=>by simp[hj]
    have hnx:(m i).isSome=true->nxAt m (s.nx+ops.size) (fun _=>true) i=nxAt m (s.nx+ops.size) (fun k=>listed.getD k false) ops.size:=by
     intro hmi;have e1:nxAt m (s.nx+ops.size) (fun k=>listed.getD k false) ops.size=nxAt m (s.nx+ops.size) (fun k=>decide (k<i)) ops.size:=by
      refine vY_ ops.size fun j hj hd=> ?_;obtain⟨oj,hoj⟩:=hops j hj;refine agree j hj oj hoj ?_;rw[<-hgs j hj] at hd;rw[<-hgs i hlt] at hmi;rcases Nat.lt_trichotomy j i with h1 |h1 |h1
      ·exact .inr (.inr (.inl ⟨zk_ (by simp only[zZ_,Bool.or_eq_true,Bool.and_eq_true];exact .inr ⟨hd,hmi⟩),h1⟩))
      ·exact .inr (.inr (.inr (.inr h1)))
      ·exact .inr (.inr (.inr (.inl ⟨zk_ (by simp only[zZ_,Bool.or_eq_true,Bool.and_eq_true];exact .inr ⟨hmi,hd⟩),h1⟩)))
     have e2:nxAt m (s.nx+ops.size) (fun k=>decide (k<i)) ops.size=nxAt m (s.nx+ops.size) (fun k=>decide (k<i)) i:=by
      have:=bR_ (m:=m) (nx:=s.nx+ops.size) i (ops.size-i)
      rwa [show i+(ops.size-i)=ops.size by omega] at this
     rw[e1,e2];exact gQ_ i fun j hj=>by simp[hj]
    have efr:frAt ops v s.fr (fun k=>(listed.setIfInBounds i true).getD k false) ops.size=putS o.dst (v i) (frAt ops v s.fr (fun k=>listed.getD k false) ops.size):=by
     have:=rp_ (ops:=ops) (v:=v) (fr0:=s.fr) (S:=fun k=>listed.getD k false) (S':=fun k=>(listed.setIfInBounds i true).getD k false) (i:=i) hS' ops.size hlt fun j h1 h2 h3 d hd hd2=>by
      obtain⟨oj,hoj⟩:=hops j h2;rw[ho] at hd;rw[hoj] at hd2;simp only[Option.bind_some] at hd hd2
      have:=agree j h2 oj hoj (.inr (.inl ⟨by simp[zy_,hd,hd2],h1⟩))
      rw[this] at h3;simp at h3;omega
     rw[this,ho];rfl
    have ehp:hpAt δ s.hp (fun k=>(listed.setIfInBounds i true).getD k false) ops.size=upds (δ i) (hpAt δ s.hp (fun k=>listed.getD k false) ops.size):=by
     refine rq_ hS' ops.size hlt fun j h1 h2 h3 x hx hx2=> ?_;obtain⟨oj,hoj⟩:=hops j h2;rw[<-hks i hlt] at hx;rw[<-hks j h2] at hx2
     have:=agree j h2 oj hoj (.inr (.inr (.inr (.inl ⟨zk_ (by simp only[zZ_,Bool.or_eq_true];exact .inl (.inl (yL_ hx (List.mem_append.2 (.inr hx2))))),h1⟩))))
     rw[this] at h3;simp at h3;omega
    have enx:nxAt m (s.nx+ops.size) (fun k=>(listed.setIfInBounds i true).getD k false) ops.size=(m i).getD (nxAt m (s.nx+ops.size) (fun k=>listed.getD k false) ops.size):=by
     refine ro_ hS' ops.size hlt fun j h1 h2 h3 hmi=> ?_;obtain⟨oj,hoj⟩:=hops j h2;cases hmj:(m j).isSome with
     |false=>rfl
     |true=>
      rw[<-hgs i hlt] at hmi;rw[<-hgs j h2] at hmj
      have:=agree j h2 oj hoj (.inr (.inr (.inr (.inl ⟨zk_ (by simp only[zZ_,Bool.or_eq_true,Bool.and_eq_true];exact .inr ⟨hmi,hmj⟩),h1⟩))))
      rw[this] at h3;simp at h3;omega
    have hrest:=ih (t / (List.filter (fun i=> !listed.getD i true&&((ops[i]?).map (·.after.all fun e=> !Region.binds .any e||listed.getD e.on false)).getD false) (List.range ops.size)).length) (listed.setIfInBounds i true) (by simpa using hs) (by
     rw[Array.toList_setIfInBounds];have hlt2:i<listed.toList.length:=by simp;omega
     have hget:listed.toList[i]=false:=by
      rw[Array.getElem?_eq_getElem (by omega)] at hli;simpa using hli
     rw[List.count_set hlt2,hget,hc];simp) hcl'
    rw[efr,ehp,enx] at hrest;unfold WL;rw[ho];refine m7_ ?_;simp only;rcases hsi with⟨h1,h2,h3,h4⟩ |⟨h1,h2,h3,h4,h5⟩
    ·left
     refine⟨by rw[<-fS_ hfr];exact h1,?_⟩;refine rt_ (v:=v i) (δ:=δ i) (m8_ h2 (rr_ hfr) (fun x hx=>hhp x hx) hhw hnx) ?_;exact hrest
    ·right
     refine⟨by rw[<-fS_ hfr];exact h1,?_⟩;rw[h2,h3,h4] at hrest;exact hrest
   ·rename_i hnone
    exfalso;have hex:∃i,i<ops.size/\listed.getD i false=false:=by
     have hpos:0<listed.toList.count false:=by omega
     have:=List.count_pos_iff.1 hpos
     obtain⟨i,hi⟩:=List.mem_iff_getElem?.1 this;have hlt:=(List.getElem?_eq_some_iff.1 hi).1;refine⟨i,by simp[hs] at hlt;exact hlt,?_⟩;rw[Array.getElem?_toList] at hi;rw[Array.getD_eq_getD_getElem?,hi];rfl
    have hmin:∀n,∀i,i<=n->i<ops.size->listed.getD i false=false->∃k,k<ops.size/\listed.getD k false=false/\∀j,j<k->listed.getD j false=true:=by
     intro n;induction n with
     |zero=>
      intro i hi h1 h2;exact⟨i,h1,h2,fun j hj=>by omega⟩
     |succ n ihn=>
      intro i hi h1 h2;by_cases hall:∀j,j<i->listed.getD j false=true
      ·exact⟨i,h1,h2,hall⟩
      ·have:∃j,j<i/\listed.getD j false=false:=by
        refine Classical.byContradiction fun hno=>hall fun j hj=> ?_;cases hb:listed.getD j false with
        |true=>rfl
        |false=>exact absurd ⟨j,hj,hb⟩ hno
       obtain⟨j,h3,h4⟩:=this;exact ihn j (by omega) (by omega) h4
    obtain⟨i,h1,h2⟩:=hex;obtain⟨k,h3,h4,h5⟩:=hmin i i (Nat.le_refl _) h1 h2;have hk:ops[k]? =some ops[k]:=Array.getElem?_eq_getElem h3;generalize ops[k]=ok at hk;have hready:k∈List.filter (fun i=> !listed.getD i true&&((ops[i]?).map (·.after.all fun e=> !Region.binds .any e||listed.getD e.on false)).getD false) (List.range ops.size):=by
     simp only[List.mem_filter,List.mem_range,Bool.and_eq_true,Bool.not_eq_true'];refine⟨h3,?_,?_⟩
     ·rw[Array.getD_eq_getD_getElem?] at h4⊢
      rw[Array.getElem?_eq_getElem (by omega)] at h4⊢;simpa using h4
     ·rw[hk]
      simp only[Option.map_some,Option.getD_some,Array.all_eq_true_iff_forall_mem];intro e he;cases hb:Region.binds .any e with
      |false=>rfl
      |true=>
       have:=fU_ hearly hk e.on (ru_ (by simpa using he) hb)
       simp[h5 _ this]
    generalize List.filter (fun i=> !listed.getD i true&&((ops[i]?).map (·.after.all fun e=> !Region.binds .any e||listed.getD e.on false)).getD false) (List.range ops.size)=rs at hnone hready
    have hpos:0<rs.length:=List.length_pos_of_mem hready;rw[List.getElem?_eq_getElem (Nat.mod_lt _ hpos)] at hnone;cases hnone
 intro t
 have:=main ops.size t (Array.replicate ops.size false) (by simp) (by simp[]) (fun i o _ hi=>by
  simp only[Array.getD_eq_getD_getElem?,Array.getElem?_replicate] at hi;split at hi<;>cases hi)
 have hno:∀j,j<ops.size->(Array.replicate ops.size false).getD j false=(fun _=>false) j:=fun j hj=>by simp[Array.getD_eq_getD_getElem?,hj]
 have z1:∀n,frAt ops v s.fr (fun _=>false) n=s.fr:=fun n=>by
  induction n with
  |zero=>rfl
  |succ n ih=>simp[frAt,ih]
 have z2:∀n,hpAt δ s.hp (fun _=>false) n=s.hp:=fun n=>by
  induction n with
  |zero=>rfl
  |succ n ih=>simp[hpAt,ih]
 have z3:∀n,nxAt m (s.nx+ops.size) (fun _=>false) n=s.nx+ops.size:=fun n=>by
  induction n with
  |zero=>rfl
  |succ n ih=>simp[nxAt,ih]
 rw[gR_ ops.size hno,k4_ ops.size hno,gQ_ ops.size hno,z1,z2,z3] at this;exact this
end
end Go.Proofs.YtnmkbmefohakmaaGreat.Ab
