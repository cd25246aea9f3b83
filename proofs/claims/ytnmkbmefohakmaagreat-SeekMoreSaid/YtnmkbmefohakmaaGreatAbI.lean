/-
 Loops over what stands.
-/
import Derived.Sort.Statements
import Derived.Lib.Bytealg
import Derived.Test.YtnmkbmefohakmaaGreatAbG
set_option linter.all false
namespace Go.Proofs.YtnmkbmefohakmaaGreat.Ab
section
open Go.RowKit
section
variable {P:Program}
theorem AK.up {f:FuncId}{vs:List AV}{hp:Hp}{nx:Nat}{R:AV->Hp->Nat->Prop}(h:AK P f vs hp nx fun v2 hp2 nx2=>∃N,nx2<=N/\R v2 hp2 N):AK P f vs hp nx R:=
 ⟨h.1,fun g c args h1 h2 h3 h4 h5=>(h.2 g c args h1 h2 h3 h4 h5).mono fun _ _ ⟨u,v,c',nx',e1,⟨N,e2,e3⟩,e4,e5,e6,e7,e8,e9⟩=>
  ⟨u,v,c',N,e1,e3,e4,e5,e6,e7,by omega,fun i hi=>(e9 i hi).imp_right fun⟨h,h'⟩=>⟨h,by omega⟩⟩⟩
end
end
section
theorem qP {ids:List Nat}{hp0 hp:Hp}{i:Nat}{x:Option AO}(h:∀j∈ids,hp j=hp0 j)(hi:i∉ids):∀j∈ids,upd i x hp j=hp0 j:=fun j hj=>by
 have:j≠i:=fun e=>hi (e▸hj)
 rw[Ad _ _ this];exact h j hj
theorem FE {hp:Hp}{i:Nat}{x:Option AO}(h:hp i=x):upd i x hp=hp:=by
 funext j;unfold upd;split
 ·rename_i e;rw[e,h]
 rfl
theorem EL {α:Type}(i:Nat)(x y:α)(f:Nat->α):upd i x (upd i y f)=upd i x f:=by
 funext j;unfold upd;split<;>rfl
end
section
def WH (ex:Nat->Prop)(hp' hp:Hp):Prop:=∀t,¬ex t->hp' t=none\/hp' t=hp t
theorem WH.all {hp' hp:Hp}(h:WH (fun _=>False) hp' hp):∀t,hp' t=none\/hp' t=hp t:=fun t=>h t id
theorem WH.upd {ex:Nat->Prop}{k:Nat}{x:Option AO}{hp' hp:Hp}(h:hp k=x)(hw:WH (fun t=>ex t\/t=k) hp' hp):WH ex (upd k x hp') hp:=fun t ht=>by
 unfold Ab.upd;split
 ·rename_i e;subst e;exact .inr h.symm
 rename_i e;exact hw t (fun h=>h.elim ht e)
theorem WH.base {ex:Nat->Prop}{hp' hp:Hp}(h:∀t,¬ex t->hp t=hp' t):WH ex hp' hp:=fun t ht=>.inr (h t ht).symm
theorem AK.fresh {P:Program}{f:FuncId}{vs:List AV}{hp:Hp}{nx:Nat}{R:AV->Hp->Nat->Prop}(h:(∀j,nx<=j->hp j=none)->AK P f vs hp nx R)(he:Ks P f):AK P f vs hp nx R:=
 ⟨he,fun g c args h1 h2 h3 h4 h5=>(h fun j hj=>by
  cases e:hp j with
  |none=>rfl
  |some o=>
   have:=h2 j (h3.dom j o (by rw[h1];exact e)).1;omega).2 g c args h1 h2 h3 h4 h5⟩
end
section
open Go.RowKit
def Sem (P:Program)(code:Code)(Q:Ex->St->Prop)(s:St):Prop:=∀(g:Gh) (N:Nat) (c:Cf) (a:Act),DY N code=true->Dx g s c a N->code.wp P (DT g N Q s.nx c) a c.w
section
variable (P:Program)
def Gw:List It->(Ex->St->Prop)->Ex->St->Prop
 |[],Q,e,s=>Q e s
 | .c x::k,Q,e,s=>match e with
  | .normal=>Sem P x (Gw k Q) s
  | .ret=>Gw k Q .ret s
  | .exit m=>Gw k Q (.exit m) s
 | .blk n::k,Q,e,s=>match e with
  | .normal=>Gw k Q .normal s
  | .ret=>Gw k Q .ret s
  | .exit m=>if m=n then Gw k Q .normal s else Gw k Q (.exit m) s
 | .lp X::k,Q,e,s=>match e with
  | .normal=>X s
  | .ret=>Gw k Q .ret s
  | .exit m=>Gw k Q (.exit m) s
def G5 (k:List It)(Q:Ex->St->Prop)(s:St):Prop:=Gw P k Q .normal s
end
section
variable {P:Program}{tab:Nat->TI}{k:List It}{Q Q':Ex->St->Prop}{s:St}{a b x:Code}{n m:Nat}{hp:Hp}
theorem Sem.mono (hQ:∀e s,Q e s->Q' e s)(h:Sem P a Q s):Sem P a Q' s:=fun g N c act hd hs=>Code.wp_mono (fun _ _ _ hp=>DT.mono hp hQ) (h g N c act hd hs)
theorem gK (ht:AU P tab)(hm:P.follows .mixedOrders=true)(h:W P tab a Q s):Sem P a Q s:=fun _ _ c act hd hs=>Ys ht hm a Q s c act hd h hs
theorem qQ (h:Sem P a (fun e s'=>match e with | .normal=>Sem P b Q s' |e=>Q e s') s):Sem P (.seq a b) Q s:=by
 intro g N c act hd hs;simp only[DY,Li] at hd;refine wp_seq (Code.wp_mono (fun e a' w' hp=> ?_) (h g N c act hd.1 hs));obtain⟨ex,s',c',h1,h2,h3,h4,h5,h6,h7⟩:=hp;subst h1;subst h4;cases ex with
 |normal=>exact Code.wp_mono (fun e a' w' hp=>DT.after hp h5 h6 h7) (h2 g N c' a' hd.2 h3)
 |ret=>exact⟨.ret,s',c',rfl,h2,h3,rfl,h5,h6,h7⟩
 |exit n=>exact⟨.exit n,s',c',rfl,h2,h3,rfl,h5,h6,h7⟩
theorem gM:Gw P k Q .normal s=G5 P k Q s:=rfl
attribute [go_sem] gM
theorem Zk (h:G5 P (.c a:: .c b::k) Q s):G5 P (.c (.seq a b)::k) Q s:=
 qQ (Sem.mono (fun e s h=>by cases e<;>exact h) (show Sem P a (Gw P (.c b::k) Q) s from h))
theorem KQ (ht:AU P tab)(hm:P.follows .mixedOrders=true):∀(k:List It) (e:Ex) (s:St),Cc P tab k Q e s->Gw P k Q e s
 |[],e,s,h=>h
 | .c x::k,e,s,h=>by
  cases e with
  |normal=>exact gK ht hm (JY x _ _ s (fun e s h=>KQ ht hm k e s h) h)
  |ret=>exact KQ ht hm k _ s h
  |exit m=>exact KQ ht hm k _ s h
 | .blk n::k,e,s,h=>by
  cases e with
  |normal=>exact KQ ht hm k _ s h
  |ret=>exact KQ ht hm k _ s h
  |exit m=>
   show if m=n then _ else _
   by_cases e:m=n
   ·rw[if_pos e]
    have:(if m=n then Cc P tab k Q .normal s else Cc P tab k Q (.exit m) s):=h;rw[if_pos e] at this;exact KQ ht hm k _ s this
   ·rw[if_neg e]
    have:(if m=n then Cc P tab k Q .normal s else Cc P tab k Q (.exit m) s):=h;rw[if_neg e] at this;exact KQ ht hm k _ s this
 | .lp X::k,e,s,h=>by
  cases e with |normal=>exact h |ret=>exact KQ ht hm k _ s h |exit m=>exact KQ ht hm k _ s h
theorem qR (ht:AU P tab)(hm:P.follows .mixedOrders=true)(h:run P tab k Q s):G5 P k Q s:=KQ ht hm k .normal s h
theorem qS (ht:AU P tab)(hm:P.follows .mixedOrders=true)(h:run P tab [.c x] (Gw P k Q) s):G5 P (.c x::k) Q s:=gK ht hm (JY x _ _ s (fun _ _ h=>h) h)
theorem gN (ht:AU P tab){f:FuncId}{fn:Func}{code:Code}(hf:P.funcs[f]? =some fn)(hb:fn.body=some code)(hname:(fn.name== "runtime.NumGoroutine")=false)(hd:DY fn.ntmps code=true){vs:List AV}{nx:Nat}{R:AV->Hp->Nat->Prop}
  (hlen:vs.length<=fn.ntmps) (h:G5 P [.c code] (Cu tab fn.results R) ⟨Df vs,hp,nx⟩):AK P f vs hp nx R:=by
 refine⟨⟨fn,hf,hname,by rw[hb];rfl⟩,fun g c args hhp hkn hr hsz hargs=> ?_⟩;have h':Sem P code (Cu tab fn.results R) ⟨Df vs,hp,nx⟩:=Sem.mono (fun e s h=>by cases e<;>exact h) h;refine Yv hf hb (Code.wp_mono (fun e a' w' hpost=> ?_) (h' ⟨g.base,g.M0,c.w.heap.size⟩ fn.ntmps c _ hd ⟨hhp,hr.fb _,hkn,fun t=> ?_,by simp;omega,Lc _,trivial⟩))
 ·obtain⟨ex,s',c',h1,h2,h3,h4,h5,h6,h7⟩:=hpost;subst h1;subst h4;have fin:=Yw (fn:=fn) (R:=R) ht h3 h5 h6 h7;cases ex with |normal=>exact⟨.inl rfl,fin h2⟩ |ret=>exact⟨.inr rfl,fin h2⟩ |exit n=>exact h2.elim
 refine Am.tr (F4.fb g c _) ?_;show Am g c (vs.getD t (.tu [])) _;by_cases hlt:t<vs.length
 ·have e1:vs[t]? =some vs[t]:=Ld hlt;obtain⟨u,h1,h2⟩:=hargs t _ e1;have e2:vs.getD t (.tu [])=vs[t]:=by simp[List.getD,e1]
  rw[e2,LG,NB (by omega),h1];exact h2
 have e2:vs.getD t (.tu [])= .tu []:=by simp[List.getD,LX (Oy hlt)]
 rw[e2];have e3:(args++Array.replicate (fn.ntmps-args.size) undef).getD t undef=undef:=by
  rw[LG,Bl (by omega)];by_cases h1:t-args.size<fn.ntmps-args.size
  ·simp[h1]
  simp[h1]
 rw[e3];exact WF c
end
end
section
open Go.RowKit
def SM (tab:Nat->TI)(op:Op)(ρ:Operand->AV):Bool:=
 match op with
 | .binOp .eql T x y _=>match ρ x,ρ y with
  | .d (.sl []) _,.v (.slice none 0 0)=>decide ((tab T).kind= .slice)
  |_,_=>false
 |_=>false
def P9 (P:Program)(tab:Nat->TI)(op:Op)(id:Nat)(s:St)(K:AV->Hp->Nat->Prop):Prop:=if SM tab op (ev s.fr)=true then ∀t,K (.v (.bool t)) s.hp s.nx else HQ P tab op id s K
def JB (P:Program)(tab:Nat->TI)(ops:Array Oper)(nx0:Nat)(K:St->Prop):List Nat->St->Prop
 |[],s=>K s
 |i::r,s=>match ops[i]? with
  |none=>JB P tab ops nx0 K r s
  |some o=>Fx ops o s (P9 P tab o.op (nx0+i) s fun v hp nx=>JB P tab ops nx0 K r ⟨A7 o.dst v s.fr,hp,nx⟩) (JB P tab ops nx0 K r ⟨A7 o.dst (.tu []) s.fr,s.hp,s.nx⟩)
section
variable {P:Program}{tab:Nat->TI}{g:Gh}{N:Nat}
theorem qT {o:Oper}{a:Act}{c:Cf}{id:Nat}{ρ:Operand->AV}(hr:HR g c)(ht:AU P tab)(hρ:∀x,Am g c (ρ x) (a.eval x))(h:SM tab o.op ρ=true):∃t,CI P o a g c id (.v (.bool t)) []:=by
 unfold SM at h;split at h
 ·rename_i T x y T' ho;split at h
  ·rename_i b e1 e2;have hk:=of_decide_eq_true h;have h1:=hρ x;have h2:=hρ y;rw[e1] at h1;rw[e2] at h2;have h3:=h2.v.1;have key:∀(p:Option Addr) (n m:Nat),a.eval x= .slice p n m->∃t,CI P o a g c id (.v (.bool t)) []:=fun p n m e=>
    ⟨p.isNone,Kr hr ho (by simp[e]) (by simp[e]) (u:=.bool p.isNone) (by
     rw[e,h3]
     have:=WB (P:=P) c.w 9999 T (tab T).elem p n m 0 0 (ht.slice hk);have e0:Op.equal T (.slice p n m) (.slice none 0 0)=Op.equalIn (9999+1) T (.slice p n m) (.slice none 0 0):=rfl;simp[binOp,e0,this]) (RA.v _ rfl)⟩
   have h4:=h1.dsl;generalize hu:a.eval x=u at h4;cases h4 with |nl a c=>exact key _ _ _ hu |sl es b o cx sz us h1 h2 h3 h4 h5=>exact key _ _ _ hu
  cases h
 cases h
theorem Zl (ht:AU P tab){ops:Array Oper}{nx0:Nat}{K:St->Prop}{Q:Exit->Act->World->Prop}(hd:∀(i:Nat) (o:Oper) (d:Nat),ops[i]? =some o->o.dst=some d->d<N):
  ∀(l:List Nat) (s:St) (c:Cf) (a:Act),l.Nodup->(∀i∈l,i<ops.size)->JB P tab ops nx0 K l s->Dx g s c a N->(∀j,c.kn j->∀i∈l,j≠nx0+i)->nx0+ops.size<=s.nx->
   (∀s' c' a',K s'->Dx g s' c' a' N->CF c c'->s.nx<=s'.nx->(∀i,c'.kn i->c.kn i\/nx0<=i)->Q .normal a' c'.w)->wpOps P ops Q l a c.w
 |[],s,c,a,_,_,h,hs,_,_,hQ=>hQ s c a h hs (CF.refl c) (Lc _) fun _ h=>.inl h
 |i::l,s,c,a,hn,hb,h,hs,hkn,hnx,hQ=>by
  obtain⟨hni,hnl⟩:=Ng.1 hn;unfold JB at h;unfold wpOps;cases ho:ops[i]? with
  |none=>
   rw[ho] at h;exact Zl ht hd l s c a hnl (fun i hi=>hb i (Lh _ hi)) h hs (fun j hj i hi=>hkn j hj i (Lh _ hi)) hnx hQ
  |some o=>
   rw[ho] at h;have hlt:i<ops.size:=(LN.1 ho).1;have hdst:∀t,o.dst=some t->t<a.tmps.size:=fun t e=>(by rw[hs.size];exact hd i o t ho e);have hid:¬c.kn (nx0+i):=fun hk=>hkn _ hk i (Lo ..) rfl;have next:∀(c':Cf) (v:AV) (u:Value) (hp':Hp) (nx':Nat),c'.hp=hp'->HR g c'->CF c c'->Am g c' v u->s.nx<=nx'->(∀j,c'.kn j->c.kn j\/j=nx0+i\/(s.nx<=j/\j<nx'))->JB P tab ops nx0 K l ⟨A7 o.dst v s.fr,hp',nx'⟩->wpOps P ops Q l (a.put o.dst u) c'.w:=by
    intro c' v u hp' nx' h1 h2 h3 h4 h5 h6 h7;refine Zl ht hd l _ c' _ hnl (fun i hi=>hb i (Lh _ hi)) h7 ⟨h1,h2,fun j hj=> ?_,fK hs.fr h3 hdst h4,by rw[fL];exact hs.size,by rw[Yo];exact hs.dfs.ext hs.hr h3⟩ (fun j hj i' hi'=> ?_) (Lp hnx h5) fun s' c'' a' k1 k2 k3 k4 k5=>
     hQ s' c'' a' k1 k2 (h3.trans k3) (Lp h5 k4) fun j hj=> ?_
    ·have:=hs.kn j;rcases h6 j hj with h8 |h8 |h8
     ·exact Lz (hs.kn j h8) h5
     ·simp only;omega
     exact h8.2
    ·rcases h6 j hj with h8 |h8 |h8
     ·exact hkn j h8 i' (Lh _ hi')
     ·intro e
      have:i'=i:=(by omega);subst this;exact hni hi'
     intro e
     have:=hb i' (Lh _ hi');omega
    rcases k5 j hj with h8 |h8
    ·rcases h6 j h8 with h9 |h9 |h9
     ·exact .inl h9
     ·exact .inr (by omega)
     exact .inr (by omega)
    exact .inr h8
   rcases fN hs h with⟨hw,h⟩ |⟨hw,h⟩;rotate_left
   ·simp only[hw,Nl,if_false];refine next c (.tu []) undef s.hp s.nx hs.hp hs.hr (CF.refl c) (WF c) (Lc _) (fun j hj=>.inl hj) h
   simp only[hw,if_true];left;unfold P9 at h;split at h
   ·rename_i hnc;obtain⟨t,φ',u,w',hrun,hext,hhr,hrv⟩:=qT (o:=o) (a:=a) (id:=nx0+i) hs.hr ht (fun x=>KO hs.fr x) hnc;have hgo:=next ⟨Av [] c.hp,φ',w',fun k=>c.kn k\/k=nx0+i⟩ (.v (.bool t)) u s.hp s.nx hs.hp hhr hext hrv (Lc _) (fun j hj=>hj.imp_right .inl) (h t);unfold Oper.wp;rcases hrun with hrun |⟨hrun,hu⟩
    ·rw[hrun];exact hgo
    rw[hrun,Oper.upon_skip,<-hu];exact hgo
   unfold HQ at h;split at h
   ·rename_i f args argTypes hop;have hop':o.op= .call { callee:=.value f,args:=args,argTypes:=argTypes }:=hop;unfold KN at h;split at h
    ·rename_i k caps hf;rcases h with⟨ds,b,is,d,fr,h1,h2,h3,h4⟩ |h
     ·obtain⟨vals,h5,h6⟩:=fM (K:=fun u w'=>wpOps P ops Q l (a.put o.dst u) w') hs hop' hf h1 h2 h3 fun u c' e1 e2 e3 e4 e5=>
       next c' _ u s.hp s.nx (e1.trans hs.hp) e4 e3 e5 (Lc _) (fun j hj=>.inl (by rw[e2] at hj;exact hj)) h4
      unfold Oper.wp;rw[h5,Oper.upon_enter];exact h6.mono fun e w' ⟨u,he,hk⟩=>by rw[he];exact hk
     obtain⟨hen,hin⟩:=h;have hfv:=KO hs.fr f;rw[hf] at hfv;generalize hF:a.eval f=fv at hfv;cases(show RA g c (.fn k caps) fv from hfv) with
     |fn _ _ us n hn' hus=>
      obtain⟨hsz,hall⟩:=Yq hs.fr args hn' hus;unfold Oper.wp;rw[Yp hop' hen hF c.w,Oper.upon_enter];refine(hin g c _ hs.hp hs.kn hs.hr hsz hall).mono fun e w' ⟨u,v,c',nx',he,hR,hw',h1,h2,h3,h4,h5⟩=> ?_;rw[he,<-hw'];exact next c' v u c'.hp nx' rfl h2 h1 h3 h4 (fun j hj=>(h5 j hj).imp_right .inr) hR
    exact h.elim
   split at h
   ·rename_i v δ hv;rw[<-hs.hp] at hv;obtain⟨φ',u,w',hrun,hext,hhr,hrv⟩:=fI (o:=o) (a:=a) hs.hr ht (fun x=>KO hs.fr x) hid hv;have hgo:=next ⟨Av δ c.hp,φ',w',fun k=>c.kn k\/k=nx0+i⟩ v u (Av δ s.hp) s.nx (by rw[hs.hp]) hhr hext hrv (Lc _) (fun j hj=>hj.imp_right .inl) h;unfold Oper.wp;rcases hrun with hrun |⟨hrun,hu⟩
    ·rw[hrun];exact hgo
    rw[hrun,Oper.upon_skip,<-hu];exact hgo
   exact h.elim
theorem qU (ht:AU P tab){ops:Array Oper}{id:Nat}{Q:Ex->St->Prop}(hd:DY N (.region id ops false)=true){l:List Nat}(hl:l.Nodup/\∀i∈l,i<ops.size){s:St}{c c0:Cf}{a:Act}(hs:Dx g s c a N)(h0:CF c0 c)(hk0:∀i,c.kn i->c0.kn i)
  (h:JB P tab ops s.nx (Q .normal) l ⟨s.fr,s.hp,s.nx+ops.size⟩):wpOps P ops (DT g N Q s.nx c0) l a c.w:=by
 refine Zl ht (fun i o d ho hd'=> ?_) l ⟨s.fr,s.hp,s.nx+ops.size⟩ c a hl.1 hl.2 h ⟨hs.hp,hs.hr,fun i hi=>Lz (hs.kn i hi) (NW _ _),hs.fr,hs.size,hs.dfs⟩ (fun j hj i _=> ?_) (Lc _) fun s' c' a' h1 h2 h3 h4 h5=>
  ⟨.normal,s',c',rfl,h1,h2,rfl,h0.trans h3,Lp (NW _ _) h4,fun i hi=>(h5 i hi).imp_left (hk0 i)⟩
 ·simp only[DY,O5] at hd
  have:=hd o (Oe ho);rw[hd'] at this;simpa using this
 have:=hs.kn j hj;omega
theorem qV {id:Nat}{ops:Array Oper}{Q:Ex->St->Prop}{s:St}(ht:AU P tab)(h:JB P tab ops s.nx (Q .normal) (List.range ops.size) ⟨s.fr,s.hp,s.nx+ops.size⟩):Sem P (.region id ops false) Q s:=
 fun _ _ c _ hd hs=>wp_region (qU ht hd ⟨Il,fun _ hi=>NY.1 hi⟩ hs (CF.refl c) (fun _ h=>h) h)
end
end
section
open Go.RowKit
section
variable {P:Program}{tab:Nat->TI}{k:List It}{Q:Ex->St->Prop}{s:St}
theorem qW {id:Nat}{ops:Array Oper}(ht:AU P tab)(h:JB P tab ops s.nx (Gw P k Q .normal) (List.range ops.size) ⟨s.fr,s.hp,s.nx+ops.size⟩):G5 P (.c (.region id ops false)::k) Q s:=
 qV (Q:=Gw P k Q .normal|>fun q e s=>match e with | .normal=>q s |_=>False) ht h|>.mono fun e s h=>by cases e<;>first |exact h |exact h.elim
theorem gO {ops:Array Oper}{nx0 i:Nat}{r:List Nat}{K:St->Prop}{o:Oper}(ho:ops[i]? =some o)(hg:o.guard=none):JB P tab ops nx0 K (i::r) s=P9 P tab o.op (nx0+i) s fun v hp nx=>JB P tab ops nx0 K r ⟨A7 o.dst v s.fr,hp,nx⟩:=by
 rw[JB,ho];simp only[Fx,hg]
theorem qX {op:Op}{id:Nat}{K:AV->Hp->Nat->Prop}(h:SM tab op (ev s.fr)=false):P9 P tab op id s K=HQ P tab op id s K:=by
 unfold P9;rw[if_neg (by rw[h];decide)]
theorem qY {op:Op}{id:Nat}{K:AV->Hp->Nat->Prop}(h:SM tab op (ev s.fr)=true):P9 P tab op id s K=∀t,K (.v (.bool t)) s.hp s.nx:=by
 unfold P9;rw[if_pos h]
theorem qZ {x:Operand}{id:Nat}{K:AV->Hp->Nat->Prop}:HQ P tab (.move x) id s K=K (ev s.fr x) s.hp s.nx:=rfl
def Mj (T B:TypeId):Code:=
  ((Go.Code.region 0
            #[{ dst:=some 2,op:=Go.Op.assign (Go.Operand.const (Go.Value.slice none 0 0)),type:=T,
                pos:= "slices.go:355",after:= #[],guard:=none }]
            false).seq
        (((Go.Code.region 1
                  #[{ dst:=some 3,op:=Go.Op.move (Go.Operand.tmp 0),type:=T,pos:= "slices.go:357",
                      after:= #[],guard:=none },
                    { dst:=some 4,
                      op:=
                        Go.Op.binOp Go.BinOp.eql T (Go.Operand.tmp 3) (Go.Operand.const (Go.Value.slice none 0 0)) T,
                      type:=B,pos:= "slices.go:357",after:= #[{ on:=0,ground:=Go.Ground.data }],
                      guard:=none }]
                  false).seq
              (Go.Code.cond (Go.Operand.tmp 4)
                ((Go.Code.region 2
                      #[{ dst:=some 2,op:=Go.Op.assign (Go.Operand.const (Go.Value.slice none 0 0)),type:=T,
                          pos:= "slices.go:358",after:= #[],guard:=none }]
                      false).seq
                  Go.Code.ret)
                Go.Code.skip)).seq
          ((Go.Code.region 3
                #[{ dst:=some 5,op:=Go.Op.buildSlice T 0 #[],type:=T,pos:= "slices.go:362",after:= #[],
                    guard:=none },
                  { dst:=some 6,op:=Go.Op.move (Go.Operand.tmp 0),type:=T,pos:= "slices.go:362",
                    after:= #[],guard:=none },
                  { dst:=some 7,
                    op:=
                      Go.Op.call
                        { callee:=Go.Callee.builtin Go.Builtin.append,args:= #[Go.Operand.tmp 5,Go.Operand.tmp 6],
                          argTypes:= #[T,T] },
                    type:=T,pos:= "slices.go:362",
                    after:= #[{ on:=0,ground:=Go.Ground.data },{ on:=1,ground:=Go.Ground.data }],
                    guard:=none },
                  { dst:=some 2,op:=Go.Op.assign (Go.Operand.tmp 7),type:=T,pos:= "slices.go:362",
                    after:=
                      #[{ on:=2,ground:=Go.Ground.data },{ on:=2,ground:=Go.Ground.chain },
                        { on:=0,ground:=Go.Ground.phase },{ on:=1,ground:=Go.Ground.phase },
                        { on:=2,ground:=Go.Ground.phase }],
                    guard:=none }]
                false).seq
            Go.Code.ret)))
theorem SN (ht:AU P tab)(hm:P.follows .mixedOrders=true){f:FuncId}{fn:Func}{T B:TypeId}(hf:P.funcs[f]? =some fn)(hb:fn.body=some (Mj T B))(hname:(fn.name== "runtime.NumGoroutine")=false)(hd:DY fn.ntmps (Mj T B)=true)(hl:1<=fn.ntmps)(hr:fn.results= #[.tmp 2])
  (hk:(tab T).kind= .slice) (ho:(tab (tab T).elem).ok=true) (hs:0<(tab (tab T).elem).size) (hbt:(tab (tab T).elem).bytes<=32768):AI P f [.sl []] (.sl []) true:=by
 refine TW (gN ht hf hb hname hd (by simpa using hl) ?_);rw[hr];unfold Mj;refine Zk (qS ht hm ?_);simp -implicitDefEqProofs only[go_sem];refine Zk (Zk (qW ht ?_));rw[show List.range (Array.size _)= [0,1] from rfl,gO (o:=_) rfl rfl,qX rfl];refine Eq.mpr qZ ?_;rw[gO (o:=_) rfl rfl,qY (by simp[SM,ev,A7,HS,hk,KK,Df])];intro t;refine qR ht hm ?_;show run P tab _ _ ⟨upd 4 (.v (.bool t)) (upd 3 (.d (.sl []) true) (upd 2 (.v (.slice none 0 0)) (Df (List.map (Aw true) [.sl []])))),_,_⟩;cases t with
 |true=>
  simp -implicitDefEqProofs only[go_sem,Nat.reduceAdd, ↓reduceIte];exact HT (v:=.v (.slice none 0 0)) (b:=false) (is:=[]) rfl rfl rfl fun _=>rfl
 |false=>
  simp -implicitDefEqProofs only[go_sem,Nat.reduceEqDiff,Nat.reduceAdd,reduceCtorEq, ↓reduceIte,hk,ho,hs,hbt,BJ,Ll,and_self,List.map,List.all,ED,frz,CT];exact HT (v:=.so 3 1 0 0) (b:=false) (is:=[3]) rfl rfl rfl fun _=>rfl
end
end
end Go.Proofs.YtnmkbmefohakmaaGreat.Ab
namespace Go.Proofs.YtnmkbmefohakmaaGreat.Ab
open IntKind
section
open Go.RowKit
def Fb:List (Nat × Nat)->Fr->Fr
 |[],fr=>fr
 |p::r,fr=>fun t=>if p.1<=t/\t<=p.2 then .un else Fb r fr t
def K0:List (Nat × Nat)->Nat->Bool
 |[],_=>false
 |p::r,t=>(Nat.ble p.1 t&&Nat.ble t p.2)||K0 r t
theorem gP:∀ {D:List (Nat × Nat)} {fr:Fr} {t:Nat},K0 D t=true->Fb D fr t= .un
 |[],_,_,h=>by cases h
 |p::r,fr,t,h=>by
  simp only[K0,LP,Li,Br] at h;simp only[Fb];split
  ·rfl
  rename_i hn;rcases h with h |h
  ·exact absurd h hn
  exact gP h
theorem gQ:∀(D:List (Nat × Nat)) (fr:Fr) (t:Nat),Fb D fr t= .un\/Fb D fr t=fr t
 |[],_,_=>.inr rfl
 |p::r,fr,t=>by
  simp only[Fb];split
  ·exact .inl rfl
  exact gQ r fr t
theorem Zm (p:Nat × Nat)(r:List (Nat × Nat))(fr:Fr)(t:Nat):Fb (p::r) fr t=if p.1<=t/\t<=p.2 then .un else Fb r fr t:=rfl
theorem qd (fr:Fr):Fb [] fr=fr:=rfl
theorem qe (D:List (Nat × Nat))(fr:Fr):∀t,Fb D fr t= .un\/Fb D fr t=fr t:=gQ D fr
theorem qg (D:List (Nat × Nat))(fr:Fr):∀t,Fb D fr t= .un\/Fb D fr t=Fb D fr t:=fun _=>.inr rfl
theorem qh {D:List (Nat × Nat)}{fr f:Fr}{k:Nat}{v:AV}(hk:K0 D k=true)(h:∀t,Fb D fr t= .un\/Fb D fr t=f t):∀t,Fb D fr t= .un\/Fb D fr t=upd k v f t:=fun t=>by
 unfold upd;split
 ·rename_i e;subst e;exact .inl (gP hk)
 exact h t
section
variable {P:Program}{tab:Nat->TI}{k:List It}{Q:Ex->St->Prop}{a:Code}
theorem qi {α:Type}{fr:Fr}{hp:Hp}{nx:Nat}(D:List (Nat × Nat))(f:α->Fr->Fr)(m:α->Nat)(μ:α->Nat)(x0:α)
  (h0:ID ⟨f x0 (Fb D fr),hp,nx+m x0⟩ ⟨fr,hp,nx⟩)
  (step:∀x,run P tab [.c a,.lp fun s'=>∃x',ID ⟨f x' (Fb D fr),hp,nx+m x'⟩ s'/\μ x'<μ x] (Cc P tab k Q) ⟨f x (Fb D fr),hp,nx+m x⟩):run P tab (.c (.loop a)::k) Q ⟨fr,hp,nx⟩:=
 WS (fun x=>⟨f x (Fb D fr),hp,nx+m x⟩) μ x0 h0 step
end
attribute [go_sem] Zm qd
theorem qj {n:Nat}(h:n<9223372036854775808):i64.wrap (n:Int)=n:=IntWalk.i64_in _ (by omega)
theorem SO {a:Nat}(h:a+1<9223372036854775808):i64.wrap ((a:Int)+1)=((a+1:Nat):Int):=by rw[IntWalk.i64_in _ (by omega)];omega
theorem QA {α β:Type}{f:α->β}{xs:List α}{k:Nat}(h:k<xs.length):(xs.map f)[k]? =some (f xs[k]):=by simp[h]
theorem Wr {a b:Nat}(h:a<b):decide ((a:Int)<(b:Int))=true:=by simp;omega
theorem Zn {a b:Nat}(h:b<=a):decide ((a:Int)<(b:Int))=false:=by simp;omega
end
section
open Go.RowKit
def Aa (id ver:Nat):List (List D)->AV
 |[]=>.v (.slice none 0 0)
 |_::r=>.so id ver 0 (r.length+1)
def CD (sz ver:Nat)(br:Bool):List (List D)->Option AO
 |[]=>none
 |e::r=>some (.rw (e::r) sz ver br false)
def Cw (nid id:Nat):List (List D)->Nat
 |[]=>nid
 |_::_=>id
def C8 (ver:Nat):List (List D)->Nat
 |[]=>0
 |_::_=>ver+1
theorem Ws (id ver:Nat):Aa id ver []= .v (.slice none 0 0):=rfl
theorem Zp (sz ver:Nat)(br:Bool):CD sz ver br []=none:=rfl
section
variable {tab:Nat->TI}{ρ:Operand->AV}{hp:Hp}{nid id ver T sz:Nat}{x y:Operand}{es:List (List D)}{e:List D}{b:Bool}{is:List Nat}
theorem qk:Mc (Aa id ver es)=true:=by cases es<;>rfl
theorem ql:De (Aa id ver es)=some [Aa id ver es]:=by cases es<;>rfl
end
theorem gS (id ver:Nat)(e:List D)(r:List (List D)):Aa id ver (e::r)= .so id ver 0 (r.length+1):=rfl
theorem Zq {α β:Type}(f:α->β)(r:List α):(r.map f).take r.length=r.map f:=Ny (by simp)
attribute [go_sem] gS Zq
attribute [go_sem] Ws Zp qk ql
def an (n m:Int):Nat:=(BitVec.ofInt 64 n &&& BitVec.ofInt 64 m).toNat
theorem UD (n m:Int):an n m<=(BitVec.ofInt 64 m).toNat:=by
 unfold an;rw[BitVec.toNat_and];exact Nat.and_le_right
theorem SP (n m:Int)(h:(BitVec.ofInt 64 m).toNat<9223372036854775808):i64.wrap (an n m:Int)=(an n m:Int):=by
 have:=UD n m;exact qj (show an n m<_ by omega)
def sh (n:Int)(k:Nat):Int:=n.fdiv (2^(min k 64))
@[go_sem ↓ high] theorem UE (a b:Int):JO .and .i64 a b=some (.int .i64 (i64.wrap (an a b:Int))):=rfl
@[go_sem ↓ high] theorem UF (a b:Int)(k:IntKind):F1 .shr (.int .i64 a) (.int k b)=if b<0 then none else some (.int .i64 (sh a b.toNat)):=rfl
@[go_sem] theorem UG (n:Nat):((n:Int)<0)=False:=by simp
attribute [go_sem] Lv
theorem qm (a b:Nat):((a:Int)).tmod (b:Int)=((a%b:Nat):Int):=by rw[Int.tmod_eq_emod_of_nonneg (by omega)];omega
end
end Go.Proofs.YtnmkbmefohakmaaGreat.Ab
