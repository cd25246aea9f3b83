/-
 Loops over what stands.
-/
import Derived.Sort.Statements
import Derived.Lib.Bytealg
import Derived.Test.YtnmkbmefohakmaaGreatAbG
set_option linter.all false
namespace Go.Proofs.YtnmkbmefohakmaaGreat.Ab
variable {K R:AV->Hp->Nat->Prop}{f:FuncId}{hp:Hp}{i id:Nat}{ops:Array Oper}{vs:List AV}
section
open Go.RowKit
section
variable {P:Program}
theorem AU.up {nx:Nat}(h:AU P f vs hp nx fun d j l=>∃N,l<=N/\R d j N):AU P f vs hp nx R:=
 ⟨h.1,fun g c o p q r t w=>(h.2 g c o p q r t w).mono fun _ _ ⟨u,v,z,J,A,⟨N,L,B⟩,C,E,F,G,M,H⟩=>
  ⟨u,v,z,N,A,B,C,E,F,G,by omega,fun i I=>(H i I).imp_right fun⟨h,O⟩=>⟨h,by omega⟩⟩⟩
end
end
section
theorem uV {ids:List Nat}{hp0:Hp}{x:Option AO}(h:∀j∈ids,hp j=hp0 j)(d:i∉ids):∀j∈ids,upd i x hp j=hp0 j:=fun j c=>by
 have:j≠i:=fun e=>d (e▸c)
 rw[Ai _ _ this];exact h j c
theorem Fv {x:Option AO}(h:hp i=x):upd i x hp=hp:=by
 funext j;unfold upd;split
 ·rename_i e;rw[e,h]
 rfl
theorem Em {α:Type}(i:Nat)(x y:α)(f:Nat->α):upd i x (upd i y f)=upd i x f:=by
 funext j;unfold upd;split<;>rfl
end
section
def WH (ex:Nat->Prop)(hp' hp:Hp):Prop:=∀t,¬ex t->hp' t=none\/hp' t=hp t
theorem WH.all {hp':Hp}(h:WH (fun _=>False) hp' hp):∀t,hp' t=none\/hp' t=hp t:=fun t=>h t id
theorem WH.upd {ex:Nat->Prop}{k:Nat}{x:Option AO}{hp' hp:Hp}(h:hp k=x)(c:WH (fun t=>ex t\/t=k) hp' hp):WH ex (upd k x hp') hp:=fun t d=>by
 unfold Ab.upd;split
 ·rename_i e;subst e;exact .inr h.symm
 rename_i e;exact c t (fun h=>h.elim d e)
theorem WH.base {ex:Nat->Prop}{hp':Hp}(h:∀t,¬ex t->hp t=hp' t):WH ex hp' hp:=fun t c=>.inr (h t c).symm
theorem AU.fresh {P:Program}{nx:Nat}(h:(∀j,nx<=j->hp j=none)->AU P f vs hp nx R)(q:Mp P f):AU P f vs hp nx R:=
 ⟨q,fun g c r d l p t u=>(h fun j v=>by
  cases e:hp j with
  |none=>rfl
  |some o=>
   have:=l j (p.dom j o (by rw[d];exact e)).1;omega).2 g c r d l p t u⟩
end
section
open Go.RowKit
def Sem (P:Program)(d:Code)(Q:Ex->St->Prop)(s:St):Prop:=∀(g:Gh) (N:Nat) (c:Cf) (a:Act),D2 N d=true->EF g s c a N->d.wp P (Dm g N Q s.nx c) a c.w
section
variable (P:Program)
def HU:List It->(Ex->St->Prop)->Ex->St->Prop
 |[],Q,e,s=>Q e s
 | .c x::k,Q,e,s=>match e with
  | .normal=>Sem P x (HU k Q) s
  | .ret=>HU k Q .ret s
  | .exit m=>HU k Q (.exit m) s
 | .blk n::k,Q,e,s=>match e with
  | .normal=>HU k Q .normal s
  | .ret=>HU k Q .ret s
  | .exit m=>if m=n then HU k Q .normal s else HU k Q (.exit m) s
 | .lp X::k,Q,e,s=>match e with
  | .normal=>X s
  | .ret=>HU k Q .ret s
  | .exit m=>HU k Q (.exit m) s
def Hj (k:List It)(Q:Ex->St->Prop)(s:St):Prop:=HU P k Q .normal s
end
section
variable {P:Program}{tab:Nat->TI}{k:List It}{Q Q':Ex->St->Prop}{s:St}{a b x:Code}{n m:Nat}{hp:Hp}
theorem Sem.mono (d:∀e s,Q e s->Q' e s)(h:Sem P a Q s):Sem P a Q' s:=fun g N c j l o=>Code.wp_mono (fun _ _ _ hp=>Dm.mono hp d) (h g N c j l o)
theorem kS (d:Ad P tab)(j:P.follows .mixedOrders=true)(h:W P tab a Q s):Sem P a Q s:=fun _ _ c l o p=>bU d j a Q s c l o h p
theorem uW (h:Sem P a (fun e d=>match e with | .normal=>Sem P b Q d |e=>Q e d) s):Sem P (.seq a b) Q s:=by
 intro g N c v j w;simp only[D2,Ln] at j;refine wp_seq (Code.wp_mono (fun e u z hp=> ?_) (h g N c v j.1 w));have⟨A,d,l,B,o,p,C,q,r,t⟩:=hp;subst B;subst C;cases A with
 |normal=>exact Code.wp_mono (fun e u z hp=>Dm.after hp q r t) (o g N l u j.2 p)
 |ret=>exact⟨.ret,d,l,rfl,o,p,rfl,q,r,t⟩
 |exit n=>exact⟨.exit n,d,l,rfl,o,p,rfl,q,r,t⟩
theorem kT:HU P k Q .normal s=Hj P k Q s:=rfl
attribute [go_sem] kT
theorem cW (h:Hj P (.c a:: .c b::k) Q s):Hj P (.c (.seq a b)::k) Q s:=
 uW (Sem.mono (fun e s h=>by cases e<;>exact h) (show Sem P a (HU P (.c b::k) Q) s from h))
theorem MI (c:Ad P tab)(d:P.follows .mixedOrders=true):∀(k:List It) (e:Ex) (s:St),Cu P tab k Q e s->HU P k Q e s
 |[],e,s,h=>h
 | .c x::k,e,s,h=>by
  cases e with
  |normal=>exact kS c d (KU x _ _ s (fun e s h=>MI c d k e s h) h)
  |ret=>exact MI c d k _ s h
  |exit m=>exact MI c d k _ s h
 | .blk n::k,e,s,h=>by
  cases e with
  |normal=>exact MI c d k _ s h
  |ret=>exact MI c d k _ s h
  |exit m=>
   show if m=n then _ else _
   by_cases e:m=n
   ·rw[if_pos e]
    have:(if m=n then Cu P tab k Q .normal s else Cu P tab k Q (.exit m) s):=h;rw[if_pos e] at this;exact MI c d k _ s this
   ·rw[if_neg e]
    have:(if m=n then Cu P tab k Q .normal s else Cu P tab k Q (.exit m) s):=h;rw[if_neg e] at this;exact MI c d k _ s this
 | .lp X::k,e,s,h=>by
  cases e with |normal=>exact h |ret=>exact MI c d k _ s h |exit m=>exact MI c d k _ s h
theorem uX (c:Ad P tab)(d:P.follows .mixedOrders=true)(h:run P tab k Q s):Hj P k Q s:=MI c d k .normal s h
theorem uY (c:Ad P tab)(d:P.follows .mixedOrders=true)(h:run P tab [.c x] (HU P k Q) s):Hj P (.c x::k) Q s:=kS c d (KU x _ _ s (fun _ _ h=>h) h)
theorem kU (A:Ad P tab){fn:Func}{l:Code}(q:P.funcs[f]? =some fn)(r:fn.body=some l)(B:(fn.name== "runtime.NumGoroutine")=false)(C:D2 fn.ntmps l=true){nx:Nat}
  (Y:vs.length<=fn.ntmps) (h:Hj P [.c l] (Dd tab fn.results R) ⟨Dw vs,hp,nx⟩):AU P f vs hp nx R:=by
 refine⟨⟨fn,q,B,by rw[r];rfl⟩,fun g c o E F G Z H=> ?_⟩;have I:Sem P l (Dd tab fn.results R) ⟨Dw vs,hp,nx⟩:=Sem.mono (fun e s h=>by cases e<;>exact h) h;refine jg q r (Code.wp_mono (fun e a' w' J=> ?_) (I ⟨g.base,g.M0,c.w.heap.size⟩ fn.ntmps c _ C ⟨E,G.fb _,F,fun t=> ?_,by simp;omega,Lc _,trivial⟩))
 ·have⟨L,s',c',d,j,M,O,S,U,V⟩:=J;subst d;subst O;have v:=jh (fn:=fn) (R:=R) A M S U V;cases L with |normal=>exact⟨.inl rfl,v j⟩ |ret=>exact⟨.inr rfl,v j⟩ |exit n=>exact j.elim
 refine Au.tr (Gj.fb g c _) ?_;show Au g c (vs.getD t (.tu [])) _;by_cases w:t<vs.length
 ·have z:vs[t]? =some vs[t]:=Le w;have⟨u,d,j⟩:=H t _ z;have p:vs.getD t (.tu [])=vs[t]:=by simp[List.getD,z]
  rw[p,LI,NN (by omega),d];exact j
 have p:vs.getD t (.tu [])= .tu []:=by simp[List.getD,Nk (OI w)]
 rw[p];have X:(o++Array.replicate (fn.ntmps-o.size) undef).getD t undef=undef:=by
  rw[LI,Br (by omega)];by_cases d:t-o.size<fn.ntmps-o.size
  ·simp[d]
  simp[d]
 rw[X];exact YF c
end
end
section
open Go.RowKit
def Ty (tab:Nat->TI)(c:Op)(ρ:Operand->AV):Bool:=
 match c with
 | .binOp .eql T x y _=>match ρ x,ρ y with
  | .d (.sl []) _,.v (.slice none 0 0)=>decide ((tab T).kind= .slice)
  |_,_=>false
 |_=>false
def RZ (P:Program)(tab:Nat->TI)(c:Op)(id:Nat)(s:St)(K:AV->Hp->Nat->Prop):Prop:=if Ty tab c (ev s.fr)=true then ∀t,K (.v (.bool t)) s.hp s.nx else IS P tab c id s K
def KA (P:Program)(tab:Nat->TI)(ops:Array Oper)(c:Nat)(K:St->Prop):List Nat->St->Prop
 |[],s=>K s
 |i::r,s=>match ops[i]? with
  |none=>KA P tab ops c K r s
  |some o=>Ga ops o s (RZ P tab o.op (c+i) s fun v hp d=>KA P tab ops c K r ⟨CJ o.dst v s.fr,hp,d⟩) (KA P tab ops c K r ⟨CJ o.dst (.tu []) s.fr,s.hp,s.nx⟩)
section
variable {P:Program}{tab:Nat->TI}{g:Gh}{N:Nat}
theorem uZ {o:Oper}{a:Act}{c:Cf}{ρ:Operand->AV}(z:HR g c)(A:Ad P tab)(q:∀x,Au g c (ρ x) (a.eval x))(h:Ty tab o.op ρ=true):∃t,CU P o a g c id (.v (.bool t)) []:=by
 unfold Ty at h;split at h
 ·rename_i T x y H B;split at h
  ·rename_i b C E;have F:=of_decide_eq_true h;have d:=q x;have j:=q y;rw[C] at d;rw[E] at j;have r:=j.v.1;have v:∀(p:Option Addr) (n m:Nat),a.eval x= .slice p n m->∃t,CU P o a g c id (.v (.bool t)) []:=fun p n m e=>
    ⟨p.isNone,Mo z B (by simp[e]) (by simp[e]) (u:=.bool p.isNone) (by
     rw[e,r]
     have:=YA (P:=P) c.w 9999 T (tab T).elem p n m 0 0 (A.slice F);have G:Op.equal T (.slice p n m) (.slice none 0 0)=Op.equalIn (9999+1) T (.slice p n m) (.slice none 0 0):=rfl;simp[binOp,G,this]) (RA.v _ rfl)⟩
   have l:=d.dsl;generalize w:a.eval x=u at l;cases l with |nl a c=>exact v _ _ _ w |sl es b o I sz J d j r l L=>exact v _ _ _ w
  cases h
 cases h
theorem cX (U:Ad P tab){ops:Array Oper}{A:Nat}{K:St->Prop}{Q:Exit->Act->World->Prop}(hd:∀(i:Nat) (o:Oper) (d:Nat),ops[i]? =some o->o.dst=some d->d<N):
  ∀(l:List Nat) (s:St) (c:Cf) (a:Act),l.Nodup->(∀i∈l,i<ops.size)->KA P tab ops A K l s->EF g s c a N->(∀j,c.kn j->∀i∈l,j≠A+i)->A+ops.size<=s.nx->
   (∀G q V,K G->EF g G q V N->CP c q->s.nx<=G.nx->(∀i,q.kn i->c.kn i\/A<=i)->Q .normal V q.w)->wpOps P ops Q l a c.w
 |[],s,c,a,_,_,h,p,_,_,X=>X s c a h p (CP.refl c) (Lc _) fun _ h=>.inl h
 |i::l,s,c,a,hn,hb,h,p,Y,aq,X=>by
  have⟨a0,ar⟩:=Na.1 hn;unfold KA at h;unfold wpOps;cases ho:ops[i]? with
  |none=>
   rw[ho] at h;exact cX U hd l s c a ar (fun i H=>hb i (Lj _ H)) h p (fun j r i H=>Y j r i (Lj _ H)) aq X
  |some o=>
   rw[ho] at h;have bg:i<ops.size:=(LW.1 ho).1;have a1:∀t,o.dst=some t->t<a.tmps.size:=fun t e=>(by rw[p.size];exact hd i o t ho e);have a2:¬c.kn (A+i):=fun hk=>Y _ hk i (Lo ..) rfl;have I:∀(q:Cf) (v:AV) (u:Value) (Z:Hp) (F:Nat),q.hp=Z->HR g q->CP c q->Au g q v u->s.nx<=F->(∀j,q.kn j->c.kn j\/j=A+i\/(s.nx<=j/\j<F))->KA P tab ops A K l ⟨CJ o.dst v s.fr,Z,F⟩->wpOps P ops Q l (a.put o.dst u) q.w:=by
    intro q v u Z F J L B M C O h7;refine cX U hd l _ q _ ar (fun i H=>hb i (Lj _ H)) h7 ⟨J,L,fun j r=> ?_,jX p.fr B a1 M,by rw[jY];exact p.size,by rw[bQ];exact p.dfs.ext p.hr B⟩ (fun j r i' aa=> ?_) (Lv aq C) fun G a3 V k1 k2 k3 k4 k5=>
     X G a3 V k1 k2 (B.trans k3) (Lv C k4) fun j r=> ?_
    ·have:=p.kn j;rcases O j r with w |w |w
     ·exact LF (p.kn j w) C
     ·simp only;omega
     exact w.2
    ·rcases O j r with w |w |w
     ·exact Y j w i' (Lj _ aa)
     ·intro e
      have:i'=i:=(by omega);subst this;exact a0 aa
     intro e
     have:=hb i' (Lj _ aa);omega
    rcases k5 j r with w |w
    ·rcases O j w with h9 |h9 |h9
     ·exact .inl h9
     ·exact .inr (by omega)
     exact .inr (by omega)
    exact .inr w
   rcases ja p h with⟨hw,h⟩ |⟨hw,h⟩;rotate_left
   ·simp only[hw,Nr,if_false];refine I c (.tu []) undef s.hp s.nx p.hp p.hr (CP.refl c) (YF c) (Lc _) (fun j r=>.inl r) h
   simp only[hw,if_true];left;unfold RZ at h;split at h
   ·rename_i a4;have⟨t,ab,u,E,z,ad,ag,ak⟩:=uZ (o:=o) (a:=a) (id:=A+i) p.hr U (fun x=>MG p.fr x) a4;have S:=I ⟨CC [] c.hp,ab,E,fun k=>c.kn k\/k=A+i⟩ (.v (.bool t)) u s.hp s.nx p.hp ag ad ak (Lc _) (fun j r=>r.imp_right .inl) (h t);unfold Oper.wp;rcases z with z |⟨z,hu⟩
    ·rw[z];exact S
    rw[z,Oper.upon_skip,<-hu];exact S
   unfold IS at h;split at h
   ·rename_i f ao av a5;have aE:o.op= .call { callee:=.value f,args:=ao,argTypes:=av }:=a5;unfold MF at h;split at h
    ·rename_i k a6 hf;rcases h with⟨ds,b,is,d,fr,J,L,B,M⟩ |h
     ·have⟨bl,C,O⟩:=jZ (K:=fun u E=>wpOps P ops Q l (a.put o.dst u) E) p aE hf J L B fun u q e1 e2 e3 e4 e5=>
       I q _ u s.hp s.nx (e1.trans p.hp) e4 e3 e5 (Lc _) (fun j r=>.inl (by rw[e2] at r;exact r)) M
      unfold Oper.wp;rw[C,Oper.upon_enter];exact O.mono fun e E ⟨u,he,hk⟩=>by rw[he];exact hk
     have⟨a7,a8⟩:=h;have ap:=MG p.fr f;rw[hf] at ap;generalize hF:a.eval f=fv at ap;cases(show RA g c (.fn k a6) fv from ap) with
     |fn _ _ us n a9 ba=>
      have⟨bb,bd⟩:=bS p.fr ao a9 ba;unfold Oper.wp;rw[bR aE a7 hF c.w,Oper.upon_enter];refine(a8 g c _ p.hp p.kn p.hr bb bd).mono fun e E ⟨u,v,q,F,he,hR,be,J,L,B,M,C⟩=> ?_;rw[he,<-be];exact I q v u q.hp F rfl L J B M (fun j r=>(C j r).imp_right .inr) hR
    exact h.elim
   split at h
   ·rename_i v δ hv;rw[<-p.hp] at hv;have⟨ab,u,E,z,ad,ag,ak⟩:=jV (o:=o) (a:=a) p.hr U (fun x=>MG p.fr x) a2 hv;have S:=I ⟨CC δ c.hp,ab,E,fun k=>c.kn k\/k=A+i⟩ v u (CC δ s.hp) s.nx (by rw[p.hp]) ag ad ak (Lc _) (fun j r=>r.imp_right .inl) h;unfold Oper.wp;rcases z with z |⟨z,hu⟩
    ·rw[z];exact S
    rw[z,Oper.upon_skip,<-hu];exact S
   exact h.elim
theorem ua (u:Ad P tab){Q:Ex->St->Prop}(r:D2 N (.region id ops false)=true){l:List Nat}(t:l.Nodup/\∀i∈l,i<ops.size){s:St}{c c0:Cf}{a:Act}(p:EF g s c a N)(v:CP c0 c)(w:∀i,c.kn i->c0.kn i)
  (h:KA P tab ops s.nx (Q .normal) l ⟨s.fr,s.hp,s.nx+ops.size⟩):wpOps P ops (Dm g N Q s.nx c0) l a c.w:=by
 refine cX u (fun i o d z A=> ?_) l ⟨s.fr,s.hp,s.nx+ops.size⟩ c a t.1 t.2 h ⟨p.hp,p.hr,fun i q=>LF (p.kn i q) (N6 _ _),p.fr,p.size,p.dfs⟩ (fun j B i _=> ?_) (Lc _) fun C E L F G H I J=>
  ⟨.normal,C,E,rfl,F,G,rfl,v.trans H,Lv (N6 _ _) I,fun i q=>(J i q).imp_left (w i)⟩
 ·simp only[D2,Ij] at r
  have:=r o (Ol z);rw[A] at this;simpa using this
 have:=p.kn j B;omega
theorem ub {Q:Ex->St->Prop}{s:St}(d:Ad P tab)(h:KA P tab ops s.nx (Q .normal) (List.range ops.size) ⟨s.fr,s.hp,s.nx+ops.size⟩):Sem P (.region id ops false) Q s:=
 fun _ _ c _ j l=>wp_region (ua d j ⟨IE,fun _ o=>N9.1 o⟩ l (CP.refl c) (fun _ h=>h) h)
end
end
section
open Go.RowKit
section
variable {P:Program}{tab:Nat->TI}{k:List It}{Q:Ex->St->Prop}{s:St}
theorem uc (c:Ad P tab)(h:KA P tab ops s.nx (HU P k Q .normal) (List.range ops.size) ⟨s.fr,s.hp,s.nx+ops.size⟩):Hj P (.c (.region id ops false)::k) Q s:=
 ub (Q:=HU P k Q .normal|>fun q e s=>match e with | .normal=>q s |_=>False) c h|>.mono fun e s h=>by cases e<;>first |exact h |exact h.elim
theorem kV {c:Nat}{r:List Nat}{K:St->Prop}{o:Oper}(d:ops[i]? =some o)(h:o.guard=none):KA P tab ops c K (i::r) s=RZ P tab o.op (c+i) s fun v hp j=>KA P tab ops c K r ⟨CJ o.dst v s.fr,hp,j⟩:=by
 rw[KA,d];simp only[Ga,h]
theorem ud {c:Op}(h:Ty tab c (ev s.fr)=false):RZ P tab c id s K=IS P tab c id s K:=by
 unfold RZ;rw[if_neg (by rw[h];decide)]
theorem ue {c:Op}(h:Ty tab c (ev s.fr)=true):RZ P tab c id s K=∀t,K (.v (.bool t)) s.hp s.nx:=by
 unfold RZ;rw[if_pos h]
theorem uf {x:Operand}:IS P tab (.move x) id s K=K (ev s.fr x) s.hp s.nx:=rfl
def Po (T B:TypeId):Code:=
  ((Go.Code.region 0
            #[{ dst:=some 2,op:=Go.Op.assign (Go.Operand.const (Go.Value.slice none 0 0)),type:=T,
                pos:= "slices.go:355",after:= #[],guard:=none }]
            false).seq
        (((Go.Code.region 1
                  #[{ dst:=some 3,op:=Go.Op.move (Go.Operand.tmp 0),type:=T,pos:= "slices.go:357",
                      after:= #[],guard:=none },
                    { dst:=some 4,
                      op:=
                        Go.Op.binOp Go.BinOp.eql T (Go.Operand.tmp 3) (Go.Operand.const (Go.Value.slice none 0 0)) T,
                      type:=B,pos:= "slices.go:357",after:= #[{ on:=0,ground:=Go.Ground.data }],
                      guard:=none }]
                  false).seq
              (Go.Code.cond (Go.Operand.tmp 4)
                ((Go.Code.region 2
                      #[{ dst:=some 2,op:=Go.Op.assign (Go.Operand.const (Go.Value.slice none 0 0)),type:=T,
                          pos:= "slices.go:358",after:= #[],guard:=none }]
                      false).seq
                  Go.Code.ret)
                Go.Code.skip)).seq
          ((Go.Code.region 3
                #[{ dst:=some 5,op:=Go.Op.buildSlice T 0 #[],type:=T,pos:= "slices.go:362",after:= #[],
                    guard:=none },
                  { dst:=some 6,op:=Go.Op.move (Go.Operand.tmp 0),type:=T,pos:= "slices.go:362",
                    after:= #[],guard:=none },
                  { dst:=some 7,
                    op:=
                      Go.Op.call
                        { callee:=Go.Callee.builtin Go.Builtin.append,args:= #[Go.Operand.tmp 5,Go.Operand.tmp 6],
                          argTypes:= #[T,T] },
                    type:=T,pos:= "slices.go:362",
                    after:= #[{ on:=0,ground:=Go.Ground.data },{ on:=1,ground:=Go.Ground.data }],
                    guard:=none },
                  { dst:=some 2,op:=Go.Op.assign (Go.Operand.tmp 7),type:=T,pos:= "slices.go:362",
                    after:=
                      #[{ on:=2,ground:=Go.Ground.data },{ on:=2,ground:=Go.Ground.chain },
                        { on:=0,ground:=Go.Ground.phase },{ on:=1,ground:=Go.Ground.phase },
                        { on:=2,ground:=Go.Ground.phase }],
                    guard:=none }]
                false).seq
            Go.Code.ret)))
theorem Tz (c:Ad P tab)(d:P.follows .mixedOrders=true){fn:Func}{T B:TypeId}(j:P.funcs[f]? =some fn)(l:fn.body=some (Po T B))(p:(fn.name== "runtime.NumGoroutine")=false)(q:D2 fn.ntmps (Po T B)=true)(r:1<=fn.ntmps)(u:fn.results= #[.tmp 2])
  (h:(tab T).kind= .slice) (w:(tab (tab T).elem).ok=true) (z:0<(tab (tab T).elem).size) (A:(tab (tab T).elem).bytes<=32768):AI P f [.sl []] (.sl []) true:=by
 refine VH (kU c j l p q (by simpa using r) ?_);rw[u];unfold Po;refine cW (uY c d ?_);simp -implicitDefEqProofs only[go_sem];refine cW (cW (uc c ?_));rw[show List.range (Array.size _)= [0,1] from rfl,kV (o:=_) rfl rfl,ud rfl];refine Eq.mpr uf ?_;rw[kV (o:=_) rfl rfl,ue (by simp[Ty,ev,CJ,IT,h,MC,Dw])];intro t;refine uX c d ?_;show run P tab _ _ ⟨upd 4 (.v (.bool t)) (upd 3 (.d (.sl []) true) (upd 2 (.v (.slice none 0 0)) (Dw (List.map (CE true) [.sl []])))),_,_⟩;cases t with
 |true=>
  simp -implicitDefEqProofs only[go_sem,Nat.reduceAdd, ↓reduceIte];exact IU (v:=.v (.slice none 0 0)) (b:=false) (is:=[]) rfl rfl rfl fun _=>rfl
 |false=>
  simp -implicitDefEqProofs only[go_sem,Nat.reduceEqDiff,Nat.reduceAdd,reduceCtorEq, ↓reduceIte,h,w,z,A,BQ,Lg,and_self,List.map,List.all,EX,frz,Cj];exact IU (v:=.so 3 1 0 0) (b:=false) (is:=[3]) rfl rfl rfl fun _=>rfl
end
end
end Go.Proofs.YtnmkbmefohakmaaGreat.Ab
namespace Go.Proofs.YtnmkbmefohakmaaGreat.Ab
open IntKind
variable {a:Nat}{α:Type}
section
open Go.RowKit
def GE:List (Nat × Nat)->Fr->Fr
 |[],c=>c
 |p::r,c=>fun t=>if p.1<=t/\t<=p.2 then .un else GE r c t
def Mw:List (Nat × Nat)->Nat->Bool
 |[],_=>false
 |p::r,t=>(Nat.ble p.1 t&&Nat.ble t p.2)||Mw r t
theorem kW:∀ {D:List (Nat × Nat)} {c:Fr} {t:Nat},Mw D t=true->GE D c t= .un
 |[],_,_,h=>by cases h
 |p::r,c,t,h=>by
  simp only[Mw,LR,Ln,By] at h;simp only[GE];split
  ·rfl
  rename_i d;rcases h with h |h
  ·exact absurd h d
  exact kW h
theorem kX:∀(D:List (Nat × Nat)) (c:Fr) (t:Nat),GE D c t= .un\/GE D c t=c t
 |[],_,_=>.inr rfl
 |p::r,c,t=>by
  simp only[GE];split
  ·exact .inl rfl
  exact kX r c t
theorem cY (p:Nat × Nat)(r:List (Nat × Nat))(fr:Fr)(t:Nat):GE (p::r) fr t=if p.1<=t/\t<=p.2 then .un else GE r fr t:=rfl
theorem ug (fr:Fr):GE [] fr=fr:=rfl
theorem uh (D:List (Nat × Nat))(fr:Fr):∀t,GE D fr t= .un\/GE D fr t=fr t:=kX D fr
theorem ui (D:List (Nat × Nat))(fr:Fr):∀t,GE D fr t= .un\/GE D fr t=GE D fr t:=fun _=>.inr rfl
theorem uj {D:List (Nat × Nat)}{fr f:Fr}{k:Nat}{v:AV}(c:Mw D k=true)(h:∀t,GE D fr t= .un\/GE D fr t=f t):∀t,GE D fr t= .un\/GE D fr t=upd k v f t:=fun t=>by
 unfold upd;split
 ·rename_i e;subst e;exact .inl (kW c)
 exact h t
section
variable {P:Program}{tab:Nat->TI}{k:List It}{Q:Ex->St->Prop}{a:Code}
theorem uk {fr:Fr}{hp:Hp}{nx:Nat}(D:List (Nat × Nat))(f:α->Fr->Fr)(m:α->Nat)(c:α->Nat)(x0:α)
  (h:JZ ⟨f x0 (GE D fr),hp,nx+m x0⟩ ⟨fr,hp,nx⟩)
  (j:∀x,run P tab [.c a,.lp fun l=>∃d,JZ ⟨f d (GE D fr),hp,nx+m d⟩ l/\c d<c x] (Cu P tab k Q) ⟨f x (GE D fr),hp,nx+m x⟩):run P tab (.c (.loop a)::k) Q ⟨fr,hp,nx⟩:=
 YQ (fun x=>⟨f x (GE D fr),hp,nx+m x⟩) c x0 h j
end
attribute [go_sem] cY ug
theorem ul {n:Nat}(h:n<9223372036854775808):i64.wrap (n:Int)=n:=IntWalk.i64_in _ (by omega)
theorem T3 (h:a+1<9223372036854775808):i64.wrap ((a:Int)+1)=((a+1:Nat):Int):=by rw[IntWalk.i64_in _ (by omega)];omega
theorem Ra {c:Type}{f:α->c}{xs:List α}{k:Nat}(h:k<xs.length):(xs.map f)[k]? =some (f xs[k]):=by simp[h]
theorem Yp {b:Nat}(h:a<b):decide ((a:Int)<(b:Int))=true:=by simp;omega
theorem cZ {b:Nat}(h:b<=a):decide ((a:Int)<(b:Int))=false:=by simp;omega
end
section
open Go.RowKit
def Ac (id ver:Nat):List (List D)->AV
 |[]=>.v (.slice none 0 0)
 |_::r=>.so id ver 0 (r.length+1)
def A6 (sz ver:Nat)(br:Bool):List (List D)->Option AO
 |[]=>none
 |e::r=>some (.rw (e::r) sz ver br false)
def CW (nid id:Nat):List (List D)->Nat
 |[]=>nid
 |_::_=>id
def CZ (ver:Nat):List (List D)->Nat
 |[]=>0
 |_::_=>ver+1
theorem Rb (id ver:Nat):Ac id ver []= .v (.slice none 0 0):=rfl
theorem T4 (sz ver:Nat)(br:Bool):A6 sz ver br []=none:=rfl
section
variable {tab:Nat->TI}{ρ:Operand->AV}{hp:Hp}{nid id ver T sz:Nat}{x y:Operand}{es:List (List D)}{e:List D}{b:Bool}{is:List Nat}
theorem um:Pf (Ac id ver es)=true:=by cases es<;>rfl
theorem uo:Dv (Ac id ver es)=some [Ac id ver es]:=by cases es<;>rfl
end
theorem kY (id ver:Nat)(e:List D)(r:List (List D)):Ac id ver (e::r)= .so id ver 0 (r.length+1):=rfl
theorem ca {c:Type}(f:α->c)(r:List α):(r.map f).take r.length=r.map f:=ND (by simp)
attribute [go_sem] kY ca
attribute [go_sem] Rb T4 um uo
def an (n m:Int):Nat:=(BitVec.ofInt 64 n &&& BitVec.ofInt 64 m).toNat
theorem Vr (n m:Int):an n m<=(BitVec.ofInt 64 m).toNat:=by
 unfold an;rw[BitVec.toNat_and];exact Nat.and_le_right
theorem T5 (n m:Int)(h:(BitVec.ofInt 64 m).toNat<9223372036854775808):i64.wrap (an n m:Int)=(an n m:Int):=by
 have:=Vr n m;exact ul (show an n m<_ by omega)
def sh (n:Int)(k:Nat):Int:=n.fdiv (2^(min k 64))
@[go_sem ↓ high] theorem Vs (a b:Int):KL .and .i64 a b=some (.int .i64 (i64.wrap (an a b:Int))):=rfl
@[go_sem ↓ high] theorem Vt (a b:Int)(k:IntKind):Ge .shr (.int .i64 a) (.int k b)=if b<0 then none else some (.int .i64 (sh a b.toNat)):=rfl
@[go_sem] theorem Vu (n:Nat):((n:Int)<0)=False:=by simp
attribute [go_sem] Lk
theorem uq (a b:Nat):((a:Int)).tmod (b:Int)=((a%b:Nat):Int):=by rw[Int.tmod_eq_emod_of_nonneg (by omega)];omega
end
end Go.Proofs.YtnmkbmefohakmaaGreat.Ab
