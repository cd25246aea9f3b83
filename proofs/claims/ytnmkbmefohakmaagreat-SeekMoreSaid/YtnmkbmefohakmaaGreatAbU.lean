/-
 Lists of texts: Clone, Sort, Compact of the library.
-/
import Derived.Sort.EncStr
import Derived.Lib.OwnBridge
import Derived.Sort.Grow
import Derived.Test.YtnmkbmefohakmaaGreatAbJ
set_option linter.all false
namespace Go.Proofs.YtnmkbmefohakmaaGreat.Ab
section
open Go.RowKit Go.Sort Go.Proofs
section
variable {P:Program}{tab:Nat->TI}
theorem rX (ht:AU P tab)(hm:P.follows .mixedOrders=true){f:FuncId}{fn:Func}{T B:TypeId}(hf:P.funcs[f]? =some fn)(hb:fn.body=some (Mj T B))(hname:(fn.name== "runtime.NumGoroutine")=false)(hd:DY fn.ntmps (Mj T B)=true)(hl:1<=fn.ntmps)(hr:fn.results= #[.tmp 2])
  (hk:(tab T).kind= .slice) (ho:(tab (tab T).elem).ok=true) (hs:0<(tab (tab T).elem).size) (hbt:(tab (tab T).elem).bytes<=32768) {x:List D} {es:List (List D)} {b:Bool} {hp:Hp} {nx:Nat}
  (hz:(x.length==(tab (tab T).elem).size&&es.all fun e=>e.length==(tab (tab T).elem).size)=true) (hn:es.length+1<=4294967296):
  AK P f [.d (.sl (x::es)) b] hp nx fun v hp2 nx2=>nx2=nx+7/\v= .so (nx+3) 1 0 (es.length+1)/\hp2=upd (nx+3) (some (.rw (x::es) (tab (tab T).elem).size 1 (b&& !(I7 x&&JN es)) false)) hp:=by
 refine Ky (tab:=tab) ht hm hf hb hname hd (by simpa using hl) ?_;rw[hr];unfold Mj;simp -implicitDefEqProofs only[go_sem,Nat.reduceEqDiff,Nat.reduceAdd,reduceCtorEq, ↓reduceIte,hk,ho,hs,hbt,BJ,Ll,and_self,true_and,List.map,List.all,ED,frz,CT];rw[if_pos ⟨hz,hn⟩];simp -implicitDefEqProofs only[go_sem,Nat.reduceAdd, ↓reduceIte];exact Jc (by simp -implicitDefEqProofs only[go_sem, ↓reduceIte]<;>rfl) ⟨rfl,rfl,EL _ _ _ _⟩
abbrev eT (s:ByteArray):List D:=[.v (.string s)]
end
end
section
open Go.RowKit
section
variable {P:Program}{tab:Nat->TI}
variable {ops:Array Oper}{nx0 nx:Nat}{k:List It}{Q:Ex->St->Prop}{i:Nat}{r:List Oper}{dst:Option Nat}{acc:List Cd}{ids:List Nat}{fr:Fr}{hp:Hp}
theorem Ms {g:FuncId}{caps vs:List AV}{v:AV}{δ:List (Nat × AO)}{nx':Nat}(h1:AK P g (vs++caps) hp nx fun v2 hp2 nx2=>v2=v/\hp2=Av δ hp/\nx2=nx')(h:Rd P tab ops nx0 nx' k Q i r (⟨[DN],δ.map (·.1),true⟩::acc) (A7 dst v fr) (Av δ hp)):
  Kw P tab ops nx0 nx k Q i r dst acc ids fr hp (.fn g caps) vs:=
 P3 (ids':=[DN]) (fun hp1 hq=>by rw[hq.2 (Ln.2 rfl)];exact h1) h
end
end
section
open Go.RowKit
section
variable {P:Program}{tab:Nat->TI}
theorem rY {f:FuncId}{vs:List AV}{hp0 hp:Hp}{nx id ver sz m:Nat}{br:Bool}{es:List (List D)}(h:AK P f vs hp0 nx fun v hp2 _=>∃es',m<=es'.length/\es'.take m=es/\v= .so id ver 0 m/\hp2=upd id (some (.rw es' sz ver br false)) hp):
  AK P f vs hp0 nx fun v hp2 _=>v= .so id (ver+1) 0 m/\hp2=upd id (some (.rw es sz (ver+1) br false)) hp:=by
 refine⟨h.1,fun g c args hhp hkn hr hsz hargs=>(h.2 g c args hhp hkn hr hsz hargs).mono ?_⟩;rintro e w' ⟨u,v,c',nx',he,⟨es',hm,rfl,rfl,e2⟩,rfl,e5,e6,e7,e8,e9⟩;have hi:c'.hp id=some (.rw es' sz ver br false):=by rw[e2,Ah]
 obtain⟨hk0,hz,T,cur,C,h3,h4,h5,h6,h7⟩:=e6.obj id _ hi;obtain⟨_,_,hbs⟩:=e6.dom id _ hi;have hext:CF c' ⟨upd id (some (.rw (es'.take m) sz (ver+1) br false)) c'.hp,upd id (c'.φ id) c'.φ,c'.w,c'.kn⟩:=by
  refine CF.chg e6 hi rfl rfl rfl rfl (Lc _) (fun _ _ _=>rfl) (.inl rfl) (fun _ h=>h) (fun h=>by cases h) (fun es2 sz2 v2 br2 fz2 e=> ?_) (Lc _);cases e;exact⟨es',ver,br,false,rfl,Bj _,fun e=>by omega⟩
 have hh:HR g ⟨upd id (some (.rw (es'.take m) sz (ver+1) br false)) c'.hp,upd id (c'.φ id) c'.φ,c'.w,c'.kn⟩:=by
  refine HR.chg e6 hi hext (fun _ _ _=>rfl) (.inl rfl) hbs ⟨hk0,fun i cs hi2=> ?_,T,cur,C,by simp only[Ah];exact h3,h4,by rw[Lw];omega,h6,fun i j cs d hi2 hj=> ?_⟩
  ·rw[Nn] at hi2;split at hi2
   ·exact hz i cs hi2
   cases hi2
  rw[Nn] at hi2;split at hi2
  ·obtain⟨u2,k1,k2⟩:=h7 i j cs d hi2 hj;exact⟨u2,k1,k2.ext hext⟩
  cases hi2
 refine⟨u,.so id (ver+1) 0 m,⟨upd id (some (.rw (es'.take m) sz (ver+1) br false)) c'.hp,upd id (c'.φ id) c'.φ,c'.w,c'.kn⟩,nx',he,⟨rfl,?_⟩,rfl,e5.trans hext,hh,?_,e8,e9⟩
 ·show upd id (some (.rw (es'.take m) sz (ver+1) br false)) c'.hp=_;rw[e2,EL]
 have h8:RA g c' (.so id ver 0 m) u:=e7;cases h8 with
 |so _ _ _ _ _ hkn2 hp2 h9=>
  obtain⟨_,k2⟩:=h9 _ _ _ _ _ hi;obtain⟨k3,cur2,T2,C2,k4,k5,k6⟩:=k2 rfl;refine(show RA g _ (.so id (ver+1) 0 m) _ from RA.so id (ver+1) 0 m _ hkn2 hp2 fun es2 sz2 v2 br2 fz2 e=> ?_);have e':=(Ah id (some (AO.rw (es'.take m) sz (ver+1) br false)) c'.hp).symm.trans e;cases e';refine⟨Lc _,fun _=>⟨by rw[Lw];omega,cur2,T2,C2,?_,k5,?_⟩⟩
  ·simp only[Ah];exact k4
  simp only[Ah];exact k6
theorem Z2 (ht:AU P tab)(hm:P.follows .mixedOrders=true){f:FuncId}{fn:Func}{T B:TypeId}(hf:P.funcs[f]? =some fn)(hb:fn.body=some (Mj T B))(hname:(fn.name== "runtime.NumGoroutine")=false)(hd:DY fn.ntmps (Mj T B)=true)(hl:1<=fn.ntmps)(hr:fn.results= #[.tmp 2])
  (hk:(tab T).kind= .slice) (ho:(tab (tab T).elem).ok=true) {k:Nat} (hs0:(tab (tab T).elem).size=k) (hs:0<k) (hbt:(tab (tab T).elem).bytes<=32768) {α:Type} {e:α->List D} (he:∀x,(e x).length=k) (xs:List α) (h0:0<xs.length) (hn:xs.length<=4294967296) {b:Bool} {hp:Hp} {nx:Nat}:
  AK P f [.d (.sl (xs.map e)) b] hp nx fun v hp2 nx2=>v= .so (nx+3) 1 0 xs.length/\hp2=upd (nx+3) (some (.rw (xs.map e) k 1 (b&& !(JN (xs.map e))) false)) hp/\nx2=nx+7:=by
 subst hs0;obtain⟨x,r,rfl⟩:∃x r,xs=x::r:=by cases xs with |nil=>simp at h0 |cons x r=>exact⟨x,r,rfl⟩
 have h:=rX (x:=e x) (es:=r.map e) (b:=b) (hp:=hp) (nx:=nx) ht hm hf hb hname hd hl hr hk ho hs hbt (by simp[he]) (by simp at hn⊢;omega);refine h.mono ?_;rintro v hp2 nx2 ⟨h1,h2,h3⟩;exact⟨by simpa using h2,h3,h1⟩
theorem rZ {f:FuncId}{vs:List AV}{hp:Hp}{nx id:Nat}{o:AO}{R:AV->Hp->Nat->Prop}(hi:hp id=some o)(h:AK P f vs (upd id (some o) hp) nx R):AK P f vs hp nx R:=by
 rwa [FE hi] at h
end
end
section
section
theorem rd:I8 []=some []:=rfl
theorem rf (x:Value)(r:List AV):I8 (.v x::r)=(I8 r).map (x:: ·):=rfl
theorem rg (k:TK)(x y:Value):Dy [k] [x] [y]=F2 k x y:=by
 show(match F2 k x y,some true with |some b,some c=>some (b&&c) |_,_=>none)=_
 cases F2 k x y<;>simp
theorem rh (k k2:TK)(ks:List TK)(x x2 y y2:Value)(xs ys:List Value):Dy (k::k2::ks) (x::x2::xs) (y::y2::ys)=match F2 k x y,Dy (k2::ks) (x2::xs) (y2::ys) with |some b,some c=>some (b&&c) |_,_=>none:=rfl
theorem ri (a b:ByteArray):F2 .string (.string a) (.string b)=some (a==b):=rfl
attribute [go_sem] rd rf rg rh ri
end
end
section
open Go.RowKit
def K6:AV->Bool
 | .ag _=>true
 | .d (.ag _) _=>true
 |_=>false
def HA:AV->List AV
 | .ag cs=>cs
 | .d (.ag cs) b=>cs.map (Aw b)
 |x=>[x]
inductive Ce (hp:Hp) (b:Bool):AV->D->Prop
 |one {x:AV} {d:D} {b':Bool} {is:List Nat} (h:CS hp x=some (d,b',is)) (hb:b'=true->b=true):Ce hp b x d
 |pt {id off:Nat} {cs:List AV} {ds:List D} (h:hp id=some (.bx cs)) (hl:ds.length=cs.length) (hc:∀(j:Nat) (x:AV) (d:D),cs[j]? =some x->ds[j]? =some d->Ce hp b x d):Ce hp b (.pt id off) (.pt ds off)
 |mo {id:Nat} {es:List (Value × AV)} {dl:Bool} {ms:List (Value × Bool × List D)} (h:hp id=some (.mo es dl)) (hl:ms.length=es.length)
   (hk:∀(j:Nat) (k:Value) (v:AV) (k':Value) (ag:Bool) (ds:List D),es[j]? =some (k,v)->ms[j]? =some (k',ag,ds)->k'=k/\ag=K6 v/\ds.length=(HA v).length/\(ag=false->FZ v=true))
   (hc:∀(j:Nat) (k:Value) (v:AV) (k':Value) (ag:Bool) (ds:List D) (i:Nat) (x:AV) (d:D),es[j]? =some (k,v)->ms[j]? =some (k',ag,ds)->(HA v)[i]? =some x->ds[i]? =some d->Ce hp b x d):Ce hp b (.mo id) (.mp ms)
 |rb {x:AV} {ds:List D} {off:Nat} (m:Nat) (h:Ce hp b x (.pt ds off)):Ce hp b x (.pt ((ds.drop off).take m) 0)
section
variable {P:Program}{tab:Nat->TI}{g:Gh}{c:Cf}
theorem rj {u:Value}(h:u.oneCell'=true):u.cells= #[u]:=by
 cases u<;>first |rfl |cases h
theorem gt {v:AV}{u:Value}(hv:K6 v=true\/FZ v=true)(h:DQ g c v u):u.cells.size=(HA v).length/\(K6 v=true->∃vs,u= .agg vs)/\(K6 v=false->u.cells= #[u])/\∀(j:Nat) (x:AV),(HA v)[j]? =some x->∃y,u.cells[j]? =some y/\RA g c x y:=by
 have one:∀ {v:AV},RA g c v u->u.cells.size= [v].length/\(u.cells= #[u])/\∀(j:Nat) (x:AV),[v][j]? =some x->∃y,u.cells[j]? =some y/\RA g c x y:=fun{v} h=>by
  have h1:=rj h.one;refine⟨by rw[h1];rfl,h1,fun j x hj=> ?_⟩;cases j with |zero=>cases hj;exact⟨u,by rw[h1];rfl,h⟩ |succ j=>simp at hj
 have fin:∀ {v:AV},K6 v=false->HA v= [v]->RA g c v u->u.cells.size=(HA v).length/\(K6 v=true->∃vs,u= .agg vs)/\(K6 v=false->u.cells= #[u])/\∀(j:Nat) (x:AV),(HA v)[j]? =some x->∃y,u.cells[j]? =some y/\RA g c x y:=fun{v} h1 h2 h3=>by
  obtain⟨q1,q2,q3⟩:=one h3;rw[h2];exact⟨q1,fun h=>by rw[h1] at h;(cases h),fun _=>q2,q3⟩
 cases v with
 |ag cs=>
  obtain⟨vs,rfl,h2,h3⟩:=h;exact⟨h2,fun _=>⟨vs,rfl⟩,fun h=>(by cases h),h3⟩
 |d x b=>
  cases x with
  |ag cs=>
   obtain⟨vs,rfl,h2,h3⟩:=h;refine⟨by show vs.size=(cs.map (Aw b)).length;rw[LC];exact h2,fun _=>⟨vs,rfl⟩,fun h=>(by cases h),fun j x hj=> ?_⟩;simp only[HA] at hj;rw[Lj,La] at hj;obtain⟨d,h4,rfl⟩:=hj;obtain⟨y,h5,h6⟩:=h3 j d h4;exact⟨y,h5,RC.toRA h6⟩
  |tu cs=>rcases hv with hv |hv<;>cases hv
  |v x=>exact fin rfl rfl h
  |sl x=>exact fin rfl rfl h
  |pt x o=>exact fin rfl rfl h
  |mp x=>exact fin rfl rfl h
 |tu cs=>rcases hv with hv |hv<;>cases hv
 |un=>rcases hv with hv |hv<;>cases hv
 |v x=>exact fin rfl rfl h
 |pt i o=>exact fin rfl rfl h
 |pr i v k o=>exact fin rfl rfl h
 |so i v o n=>exact fin rfl rfl h
 |mo i=>exact fin rfl rfl h
 |fn f cs=>exact fin rfl rfl h
theorem Ce.ok {hp:Hp}(hr:HR g c)(hhp:c.hp=hp){b:Bool}{x:AV}{d:D}(h:Ce hp b x d){u:Value}(hu:RA g c x u)(I:Nat->Prop)(hI:∀k,Im g c b k->I k)(hO:∀i o,hp i=some o->I (c.φ i)):RC c.w I d u:=by
 induction h generalizing u with
 | @one x d b' is h hb=>
  refine TF hr hhp hu h I (fun k hk=>hI k ?_) fun i hi=> ?_
  ·cases b' with
   |true=>rw[hb rfl];exact hk
   |false=>cases b with |true=>exact hk.weak |false=>exact hk
  ·obtain⟨es,sz,v,fz,h4⟩:=TH h i hi;exact hO i _ h4
 | @pt id off cs ds h hl hc ih=>
  cases hu with
  |pt _ _ hn ho=>
   have h':=h;rw[<-hhp] at h';obtain⟨T,vs,h1,h2,h3⟩:=hr.obj id _ h';have key:RC c.w I (.pt ds off) (.pointer (some ⟨c.φ id,0+off,none⟩)):=by
    refine RC.pt ds off (c.φ id) 0 (fun j=>vs.getD j undef) (hO id _ h) (fun j d hj=> ?_) fun j d hj=> ?_
    ·have hlt:j<vs.size:=by
      have:=(Lb.1 hj).1;omega
     simp[World.cell?,h1,Array.getD,hlt]
    have hlt:j<cs.length:=by
     have:=(Lb.1 hj).1;omega
    obtain⟨y,k1,k2⟩:=h3 j cs[j] (by simp[hlt])
    have:=ih j cs[j] d (by simp[hlt]) hj k2;rwa [LG,k1]
   rwa [NC] at key
 | @mo id es dl ms h hl hk hc ih=>
  cases hu with
  |mo _ hn ho=>
   have h':=h;rw[<-hhp] at h';obtain⟨en,k,h1,h2,_,h3⟩:=hr.obj id _ h';have at_:∀ {j:Nat} {p:Value × Bool × List D},ms[j]? =some p->∃k v,es[j]? =some (k,v):=fun{j p} hj=>by
    have:=(Lb.1 hj).1;exact⟨_,_,Ld (by omega)⟩
   have val:∀ {j:Nat} {k0:Value} {v:AV} {k':Value} {ag:Bool} {ds:List D} {e:MapEntry},es[j]? =some (k0,v)->ms[j]? =some (k',ag,ds)->en[j]? =some e->e.key=k0/\DQ g c v e.val:=fun{j k0 v k' ag ds e} q1 _ q3=>by
    obtain⟨e',g1,g2,g3⟩:=h3 j k0 v q1;rw[q3] at g1;cases g1;exact⟨g2,g3⟩
   refine RC.mp ms (c.φ id) en k (hO id _ h) h1 (by omega) (fun j x ag ds e q1 q2=> ?_) fun j i x ag ds e d u q1 q2 q3 q4=> ?_
   ·obtain⟨k0,v,q3⟩:=at_ q1;obtain⟨r1,r2,r3,r4⟩:=hk j k0 v x ag ds q3 q1;obtain⟨s1,s2⟩:=val q3 q1 q2;have hv:K6 v=true\/FZ v=true:=by
     cases ag with |true=>exact .inl r2.symm |false=>exact .inr (r4 rfl)
    obtain⟨t1,t2,t3,_⟩:=gt hv s2;exact⟨s1.trans r1.symm,by omega,fun e=>t2 (by rw[<-r2,e]),fun e=>t3 (by rw[<-r2,e])⟩
   ·obtain⟨k0,v,q5⟩:=at_ q1;obtain⟨r1,r2,r3,r4⟩:=hk j k0 v x ag ds q5 q1;obtain⟨s1,s2⟩:=val q5 q1 q2;have hv:K6 v=true\/FZ v=true:=by
     cases ag with |true=>exact .inl r2.symm |false=>exact .inr (r4 rfl)
    obtain⟨_,_,_,t4⟩:=gt hv s2;have hlt:i<(HA v).length:=by
     have:=(Lb.1 q3).1;omega
    obtain⟨y,t5,t6⟩:=t4 i (HA v)[i] (by simp[hlt]);rw[t5] at q4;cases q4;exact ih j k0 v x ag ds i _ d q5 q1 (by simp[hlt]) q3 t6
 | @rb x ds off m h ih=>
  have h1:=ih hu;cases h1 with
  |pt _ _ bl o us hI hm hd=>
   have at_:∀ {j:Nat} {d:D},((ds.drop off).take m)[j]? =some d->ds[off+j]? =some d:=fun{j d} hj=>by
    rw[Nn] at hj;split at hj
    ·rwa [NQ] at hj
    cases hj
   have key:RC c.w I (.pt ((ds.drop off).take m) 0) (.pointer (some ⟨bl,(o+off)+0,none⟩)):=
    RC.pt _ 0 bl (o+off) (fun j=>us (off+j)) hI (fun j d hj=>by rw[Nu];exact hm _ d (at_ hj)) fun j d hj=>hd _ d (at_ hj)
   exact key
inductive CW (hp:Hp) (b:Bool):AV->D->Prop
 |one {x:AV} {d:D} (h:Ce hp b x d) (hx:FZ x=true):CW hp b x d
 |ag {cs:List AV} {ds:List D} (hl:ds.length=cs.length) (hc:∀(j:Nat) (x:AV) (d:D),cs[j]? =some x->ds[j]? =some d->Ce hp b x d):CW hp b (.ag cs) (.ag ds)
 |dag {cs:List D} {b':Bool} (hb:b'=true->b=true\/I7 cs=true):CW hp b (.d (.ag cs) b') (.ag cs)
def PW {α β:Type}(R:α->β->Prop)(xs:List α)(ds:List β):Prop:=ds.length=xs.length/\∀(j:Nat) (x:α) (d:β),xs[j]? =some x->ds[j]? =some d->R x d
theorem PW.nil {α β:Type}{R:α->β->Prop}:PW R [] []:=⟨rfl,fun j x d h=>by simp at h⟩
theorem PW.cons {α β:Type}{R:α->β->Prop}{x:α}{d:β}{xs:List α}{ds:List β}(h:R x d)(hs:PW R xs ds):PW R (x::xs) (d::ds):=⟨by simp[hs.1],fun j y e hy he=>by
 cases j with
 |zero=>simp at hy he;subst hy;subst he;exact h
 |succ j=>exact hs.2 j y e (by simpa using hy) (by simpa using he)⟩
theorem Ce.place {hp:Hp}{b:Bool}{id off:Nat}{cs:List AV}{ds:List D}(h:hp id=some (.bx cs))(hc:PW (Ce hp b) cs ds):Ce hp b (.pt id off) (.pt ds off):=.pt h hc.1 hc.2
theorem Ce.rbE {hp:Hp}{b:Bool}{x:AV}{ds es:List D}{off:Nat}(m:Nat)(h:Ce hp b x (.pt ds off))(he:(ds.drop off).take m=es):Ce hp b x (.pt es 0):=he▸Ce.rb m h
theorem DJ.of {w:World}{I:Nat->Prop}{d:D}{u:Value}(h:RC w I d u):DJ w I d u:=by
 cases d<;>first |exact h |cases h
theorem RV.of {w:World}{I:Nat->Prop}{d:D}{u:Value}(h:DJ w I d u)(hd:∀ds,d≠ .tu ds):RV w I d u:=by
 cases d with
 |tu ds=>exact absurd rfl (hd ds)
 |_=>exact h
theorem CW.agP {hp:Hp}{b:Bool}{cs:List AV}{ds:List D}(hc:PW (Ce hp b) cs ds):CW hp b (.ag cs) (.ag ds):=.ag hc.1 hc.2
theorem CW.ok {hp:Hp}(hr:HR g c)(hhp:c.hp=hp){b:Bool}{x:AV}{d:D}(h:CW hp b x d){u:Value}(hu:Am g c x u)(I:Nat->Prop)(hI:∀k,Im g c b k->I k)(hO:∀i o,hp i=some o->I (c.φ i)):DJ c.w I d u/\∀ds,d≠ .tu ds:=by
 cases h with
 |one h hx=>
  have h1:=h.ok hr hhp (fH hx hu) I hI hO;exact⟨DJ.of h1,fun ds e=>by subst e;cases h1⟩
 |ag hl hc=>
  obtain⟨vs,rfl,h2,h3⟩:=hu;rename_i cs ds;refine⟨⟨vs,rfl,by omega,fun j d hj=> ?_⟩,fun _ e=>by cases e⟩;have hlt:j<cs.length:=by
   have:=(Lb.1 hj).1;omega
  obtain⟨y,h4,h5⟩:=h3 j cs[j] (by simp[hlt]);exact⟨y,h4,(hc j cs[j] d (by simp[hlt]) hj).ok hr hhp h5 I hI hO⟩
 | @dag cs b' hb=>
  obtain⟨vs,rfl,h2,h3⟩:=hu;refine⟨⟨vs,rfl,h2,fun j d hj=> ?_⟩,fun _ e=>by cases e⟩;obtain⟨y,h4,h5⟩:=h3 j d hj;refine⟨y,h4,?_⟩;cases b' with
  |false=>exact h5.mono (fun _ _=>rfl) fun k hk=>hI k (by cases b with |true=>exact hk.weak |false=>exact hk)
  |true=>
   rcases hb rfl with hb |hb
   ·subst hb;exact h5.mono (fun _ _=>rfl) hI
   exact RC.plain (by simp only[I7,LL] at hb;exact hb d (Lt hj)) h5
inductive GB (hp:Hp) (b:Bool):AV->D->Prop
 |val {x:AV} {d:D} (h:CW hp b x d):GB hp b x d
 |tu {cs:List AV} {ds:List D} (hc:PW (CW hp b) cs ds):GB hp b (.tu cs) (.tu ds)
theorem GB.ok {hp:Hp}(hr:HR g c)(hhp:c.hp=hp){b:Bool}{x:AV}{d:D}(h:GB hp b x d){u:Value}(hu:Am g c x u)(I:Nat->Prop)(hI:∀k,Im g c b k->I k)(hO:∀i o,hp i=some o->I (c.φ i)):RV c.w I d u:=by
 cases h with
 |val h=>
  obtain⟨h1,h2⟩:=h.ok hr hhp hu I hI hO;exact RV.of h1 h2
 | @tu cs ds hc=>
  obtain⟨vs,rfl,h2,h3⟩:=hu;have hl:=hc.1;refine⟨vs,rfl,by omega,fun j d hj=> ?_⟩;have hlt:j<cs.length:=by
   have:=(Lb.1 hj).1;omega
  obtain⟨y,h4,h5⟩:=h3 j cs[j] (by simp[hlt]);exact⟨y,h4,((hc.2 j cs[j] d (by simp[hlt]) hj).ok hr hhp h5.toAt I hI hO).1⟩
def K7 (d:D)(fr:Bool)(v:AV)(hp':Hp)(_nx:Nat):Prop:=∃b,GB hp' b v d/\(fr=true->b=false)
theorem Mt {rs:Array ResultVar}{s:St}{v:AV}{d:D}{fr b:Bool}(h1:Dw tab rs s=some v)(h2:GB s.hp b v d)(h3:fr=true->b=false):Cu tab rs (K7 d fr) .ret s:=Jc h1 ⟨b,h2,h3⟩
theorem rm {f:FuncId}{as:List DA}{d:D}{fr:Bool}(h:AK P f (as.map DA.av) AS 0 (K7 d fr)):CQ P f as d fr:=by
 refine⟨h.1,fun w M0 args hM hsz hargs=> ?_⟩;have hr:HR ⟨w.heap.size,M0,w.heap.size⟩ ⟨AS,fun _=>0,w,fun _=>False⟩:=⟨Lc _,hM,fun _ _ h=>by simp[AS] at h,fun _ _ _ _ h=>by simp[AS] at h,fun _ _ h=>by simp[AS] at h⟩;have hIm:∀k,(k<w.heap.size/\¬M0 k)->Im ⟨w.heap.size,M0,w.heap.size⟩ ⟨AS,fun _=>0,w,fun _=>False⟩ true k:=fun k hk=>⟨hk.1,hk.2,fun _ _ h=>by simp[AS] at h,by simp⟩;refine(h.2 ⟨w.heap.size,M0,w.heap.size⟩ ⟨AS,fun _=>0,w,fun _=>False⟩ args rfl (fun _ h=>h.elim) hr (by simpa using hsz) (fun j x hj=> ?_)).mono fun e w' ⟨u,v,c',nx',h1,⟨b,h2,h3⟩,h4,h5,h6,h7,_,_⟩=> ?_
 ·rw[Lj,La] at hj;obtain⟨x,h1,rfl⟩:=hj;obtain⟨u,h2,h3⟩:=hargs j x h1;refine⟨u,h2,?_⟩;cases x with
  |d d=>
   have h4:DJ w (Im ⟨w.heap.size,M0,w.heap.size⟩ ⟨AS,fun _=>0,w,fun _=>False⟩ true) d u:=DJ.mono (fun _ _=>rfl) hIm h3;show Am _ _ (Aw true d) u;cases d with
   |ag cs=>exact h4
   |tu cs=>cases h4
   |v x=>exact(RC.toRA (c:=⟨AS,fun _=>0,w,fun _=>False⟩) h4).toAt
   |sl x=>exact(RC.toRA (c:=⟨AS,fun _=>0,w,fun _=>False⟩) h4).toAt
   |pt x y=>exact(RC.toRA (c:=⟨AS,fun _=>0,w,fun _=>False⟩) h4).toAt
   |mp x=>exact(RC.toRA (c:=⟨AS,fun _=>0,w,fun _=>False⟩) h4).toAt
  |fn f caps=>
   obtain⟨us,n,e1,rfl,e3⟩:=h3;show RA _ _ (.fn f (caps.map (Aw true))) _;refine .fn f _ us n (by simpa using e1) fun j x hj=> ?_;rw[Lj,La] at hj;obtain⟨y,e4,rfl⟩:=hj;exact RC.toRA (c:=⟨AS,fun _=>0,w,fun _=>False⟩) ((e3 j y e4).mono (fun _ _=>rfl) hIm)
 subst h4;refine⟨u,h1,⟨⟨h5.os,h5.tape,h5.output,h5.size,fun k hk=>h5.block k hk fun id o ho=>by simp[AS] at ho⟩,h5.drawn⟩,?_⟩;refine h2.ok h6 rfl h7 (fun k=>k<c'.w.heap.size/\¬M0 k/\(fr=true->w.heap.size<=k)) (fun k hk=>⟨hk.1,hk.2.1,fun hf=>hk.2.2.2 (h3 hf)⟩) fun i o hi=> ?_;obtain⟨_,g1,g2⟩:=h6.dom i _ hi;exact⟨g2,g1.2,fun _=>g1.1⟩
theorem AI.of_A {f:FuncId}{ds:List D}{d:D}{fr:Bool}(h:CQ P f (ds.map .d) d fr):AI P f ds d fr:=
 ⟨h.1,fun w M0 args h1 h2 h3=>h.2 w M0 args h1 (by simpa using h2) fun j x hj=>by
  rw[Lj,La] at hj;obtain⟨y,h4,rfl⟩:=hj;exact h3 j y h4⟩
theorem rp (ht:AU P tab){f:FuncId}{fn:Func}{code:Code}(hf:P.funcs[f]? =some fn)(hb:fn.body=some code)(hname:(fn.name== "runtime.NumGoroutine")=false)(hd:DY fn.ntmps code=true){as:List DA}{d:D}{fresh:Bool}
  (hlen:as.length<=fn.ntmps) (h:CA 0 P [.c code] (Cu tab fn.results (K7 d fresh)) ⟨Df (as.map DA.av),AS,0⟩):CQ P f as d fresh:=
 rm (Zt ht hf hb hname hd (by simpa using hlen) h)
inductive DZ (hp:Hp) (b:Bool):AV->DA->Prop
 |d {x:AV} {d:D} (h:CW hp b x d):DZ hp b x (.d d)
 |fn {f:FuncId} {caps:List AV} {ds:List D} (h:PW (Ce hp b) caps ds):DZ hp b (.fn f caps) (.fn f ds)
theorem DZ.ok {hp:Hp}(hr:HR g c)(hhp:c.hp=hp){b:Bool}{x:AV}{d:DA}(h:DZ hp b x d){u:Value}(hu:Am g c x u)(I:Nat->Prop)(hI:∀k,Im g c b k->I k)(hO:∀i o,hp i=some o->I (c.φ i)):UQ c.w I d u:=by
 cases h with
 |d h=>exact(h.ok hr hhp hu I hI hO).1
 | @fn f caps ds h=>
  cases(show RA g c (.fn f caps) u from hu) with
  |fn _ _ us n hn hus=>
   have hl:=h.1;refine⟨us,n,by omega,rfl,fun j x hj=> ?_⟩;have hlt:j<caps.length:=by
    have:=(Lb.1 hj).1;omega
   exact(h.2 j caps[j] x (by simp[hlt]) hj).ok hr hhp (hus j caps[j] (by simp[hlt])) I hI hO
theorem gu {f:FuncId}{vs:List AV}{hp:Hp}{nx:Nat}{as:List DA}{b:Bool}{d:D}(hd:PW (DZ hp b) vs as)(hp0:CQ P f as d true):
  AK P f vs hp nx fun v2 hp2 nx2=>v2=Aw false d/\hp2=hp/\nx2=nx:=by
 refine⟨hp0.1,fun g c vals hhp hkn hr hsz hall=> ?_⟩;obtain⟨_,hp0⟩:=hp0;have hl:=hd.1;refine(hp0 c.w (fun _=>False) vals (fun _ h=>h.elim) (by omega) (fun j x hj=> ?_)).mono fun e w' ⟨u,he,⟨hb,hdr⟩,hv⟩=> ?_
 ·have hlt:j<vs.length:=by
   have:=(Lb.1 hj).1;omega
  obtain⟨u,h1,h2⟩:=hall j vs[j] (by simp[hlt]);exact⟨u,h1,(hd.2 j vs[j] x (by simp[hlt]) hj).ok hr hhp h2 (fun k=>k<c.w.heap.size/\¬False) (fun k hk=>⟨hk.1,fun h=>h⟩) fun i o hi=>⟨(hr.dom i _ (hhp▸hi)).2.2,fun h=>h⟩⟩
 subst he;have he:CF c ⟨c.hp,c.φ,w',c.kn⟩:=⟨hb.os,hb.tape,hb.output,hb.size,fun _ h=>h,fun k hk _=>hb.block k hk,fun id o ho hf=>.inr ⟨o,ho,hf,rfl⟩,fun _ _ h=>⟨rfl,h⟩,
  fun id es _ v br fz hk hr2=>⟨es,v,br,fz,hr2,Lc _,fun _=>⟨rfl,rfl,fun cur _ e=>⟨cur,(hb.block _ (hr.dom id _ hr2).2.2).trans e,rfl⟩⟩⟩,hdr⟩
 have hr':HR g ⟨c.hp,c.φ,w',c.kn⟩:=⟨Lp hr.le hb.size,fun k hk=>Lz (hr.m0 k hk) hb.size,fun id o ho=>⟨(hr.dom id o ho).1,(hr.dom id o ho).2.1,Lz (hr.dom id o ho).2.2 hb.size⟩,hr.inj,fun id o ho=>(hr.obj id o ho).ext he rfl (hb.block _ (hr.dom id o ho).2.2)⟩;refine⟨u,_,⟨c.hp,c.φ,w',c.kn⟩,nx,rfl,⟨rfl,hhp,rfl⟩,rfl,he,hr',?_,Lc _,fun i h=>.inl h⟩;have hv2:RV w' (Im g ⟨c.hp,c.φ,w',c.kn⟩ false) d u:=hv.mono (fun _ _=>rfl) fun k hk=>by
  obtain⟨h1,_,h2⟩:=hk;have h3:=h2 rfl;refine⟨h1,fun hm=> ?_,fun id o ho _ e=> ?_,fun _=>Lp hr.le h3⟩
  ·have:=hr.m0 k hm
   have:=hr.le;omega
  have:=(hr.dom id o ho).2.2;simp only at e;omega
 cases d with
 |v x=>exact(RC.toRA (c:=⟨c.hp,c.φ,w',c.kn⟩) hv2).toAt
 |sl es=>exact(RC.toRA (c:=⟨c.hp,c.φ,w',c.kn⟩) hv2).toAt
 |pt cs off=>exact(RC.toRA (c:=⟨c.hp,c.φ,w',c.kn⟩) hv2).toAt
 |mp es=>exact(RC.toRA (c:=⟨c.hp,c.φ,w',c.kn⟩) hv2).toAt
 |ag cs=>exact hv2
 |tu cs=>exact hv2
section
variable {ops:Array Oper}{nx0 nx i:Nat}{k:List It}{Q:Ex->St->Prop}{r:List Oper}{s:St}{dst:Option Nat}{acc:List Cd}{fr:Fr}{hp:Hp}{ids:List Nat}
theorem rq {g:FuncId}{caps vs:List AV}{as:List DA}{b:Bool}{d:D}(h1:PW (DZ s.hp b) (vs++caps) as)(h2:CQ P g as d true)(h:Rt P tab ops nx0 k Q i r ⟨A7 dst (Aw false d) s.fr,s.hp,s.nx⟩):
  Kv P tab ops nx0 k Q i r dst s (.fn g caps) vs:=CG ((gu h1 h2).mono fun v2 hp2 nx2 hq=>by
 obtain⟨rfl,rfl,rfl⟩:=hq;exact h)
theorem W7 {g:FuncId}{caps vs:List AV}{as:List DA}{b:Bool}{d:D}(ids':List Nat)(h1:∀hp1:Hp,(∀i∈ids',hp1 i=hp i)->PW (DZ hp1 b) (vs++caps) as)(h2:CQ P g as d true)(h:Rd P tab ops nx0 nx k Q i r (⟨ids',[],true⟩::acc) (A7 dst (Aw false d) fr) hp):
  Kw P tab ops nx0 nx k Q i r dst acc ids fr hp (.fn g caps) vs:=
 P3 (ids':=ids') (v:=Aw false d) (δ:=[]) (nx':=nx) (fun hp1 hq=>(gu (h1 hp1 hq.1) h2).mono fun _ _ _ ⟨e1,e2,e3⟩=>⟨e1,e2,e3⟩) h
end
end
end
section
open Go.RowKit
instance baLawful:LawfulBEq ByteArray where
 eq_of_beq {a b} h:=by
  cases a;cases b;have h':ByteArray.beq _ _=true:=h;unfold ByteArray.beq at h';simpa using h'
 rfl {a}:=by
  show ByteArray.beq a a=true;unfold ByteArray.beq;simp
def A8 {K α:Type}(f:α->List D)(sz B:Nat)(vs:Nat->Nat)(es:List (K × List α))(hp:Hp):Hp:=fun i=>bif Nat.ble B i&&Nat.blt i (B+4294967296) then(es[i-B]?).map fun p=>AO.rw (p.2.map f) sz (vs (i-B)) false false else hp i
noncomputable def CZ (B j:Nat):Nat:=Classical.choose (⟨j+B,rfl⟩:∃x,x=j+B)
theorem Dl (B j:Nat):CZ B j=j+B:=OO (⟨j+B,rfl⟩:∃x,x=j+B)
theorem QF {B j c:Nat}(h:c<B):(CZ B j=c)=False:=eq_false (by rw[Dl];omega)
theorem UW {B j c:Nat}(h:c<B):(c=CZ B j)=False:=eq_false (by rw[Dl];omega)
theorem QG {B j c:Nat}(hj:j<4294967296)(h:B+4294967296<=c):(CZ B j=c)=False:=eq_false (by rw[Dl];omega)
theorem rt {B j c:Nat}(hj:j<4294967296)(h:B+4294967296<=c):(c=CZ B j)=False:=eq_false (by rw[Dl];omega)
noncomputable def Cy {K α:Type} (kv:K->Value) (B:Nat) (vs:Nat->Nat):Nat->List (K × List α)->List (Value × AV)
 |_,[]=>[]
 |o,p::r=>(kv p.1,.so (CZ B o) (vs o) 0 p.2.length)::Cy kv B vs (o+1) r
noncomputable def Ay {K α:Type} (kv:K->Value) (B:Nat) (vs:Nat->Nat) (es:List (K × List α)):List (Value × AV):=Cy kv B vs 0 es
section
variable {K α:Type}[BEq K]
def An (k:K)(ys:List α):List (K × List α)->List (K × List α)
 |[]=>[(k,ys)]
 |p::r=>if k==p.1 then(k,p.2++ys)::r else p::An k ys r
def Ey (k:K)(es:List (K × List α)):Bool:=decide (es.length<4294967296)&&decide ((qg_ k [] es).length<4294967296)
theorem W8 {k:K}{es:List (K × List α)}(h:Ey k es=true):es.length<4294967296/\(qg_ k [] es).length<4294967296:=by
 simpa [Ey] using h
end
section
variable {K α:Type}{kv:K->Value}{B:Nat}{vs:Nat->Nat}{f:α->List D}{sz:Nat}
theorem gv:∀(es:List (K × List α)) (o j:Nat),(Cy kv B vs o es)[j]? =(es[j]?).map fun p=>(kv p.1,AV.so (CZ B (o+j)) (vs (o+j)) 0 p.2.length)
 |[],o,j=>by simp[Cy]
 |p::r,o,j=>by
  cases j with |zero=>simp[Cy] |succ j=>simp[Cy,gv r (o+1) j,Nu,BM 1 j]
theorem UX (es:List (K × List α))(j:Nat):(Ay kv B vs es)[j]? =(es[j]?).map fun p=>(kv p.1,AV.so (CZ B j) (vs j) 0 p.2.length):=by
 rw[Ay,gv];simp
theorem ru (es:List (K × List α)):(Ay kv B vs es).length=es.length:=by
 have:∀(es:List (K × List α)) o,(Cy kv B vs o es).length=es.length:=by
  intro es;induction es with |nil=>intro o;rfl |cons p r ih=>intro o;simp[Cy,ih]
 exact this es 0
theorem JD {es:List (K × List α)}{hp:Hp}{j:Nat}{p:K × List α}(h:es[j]? =some p)(hj:j<4294967296):A8 f sz B vs es hp (CZ B j)=some (.rw (p.2.map f) sz (vs j) false false):=by
 rw[Dl];unfold A8;have h1:(Nat.ble B (j+B)&&Nat.blt (j+B) (B+4294967296))=true:=by simp;omega
 rw[h1];simp[h]
theorem Z3 {es:List (K × List α)}{hp:Hp}{i:Nat}(h:i<B\/B+4294967296<=i):A8 f sz B vs es hp i=hp i:=by
 unfold A8;have h1:(Nat.ble B i&&Nat.blt i (B+4294967296))=false:=by
  cases h2:(Nat.ble B i&&Nat.blt i (B+4294967296)) with
  |false=>rfl
  |true=>
   simp only[Li,Br,NT] at h2;omega
 rw[h1];rfl
theorem rv {es:List (K × List α)}{hp:Hp}{i:Nat}{x:Option AO}(h:i<B\/B+4294967296<=i):upd i x (A8 f sz B vs es hp)=A8 f sz B vs es (upd i x hp):=by
 funext k;by_cases e:k=i
 ·subst e;rw[Z3 h];simp[upd]
 unfold A8;simp[upd,e]
theorem rz {α:Type}{i j:Nat}{x y:α}{g:Nat->α}(h:i≠j):upd i x (upd j y g)=upd j y (upd i x g):=by
 funext k;unfold upd;by_cases e1:k=i
 ·subst e1;simp[h]
 simp[e1]
def Ch (j v:Nat)(vs:Nat->Nat):Nat->Nat:=fun i=>if i=j then v else vs i
theorem W9 {es:List (K × List α)}{hp:Hp}{j v:Nat}{p q:K × List α}(h:es[j]? =some p)(hj:j<4294967296):upd (CZ B j) (some (.rw (q.2.map f) sz v false false)) (A8 f sz B vs es hp)=A8 f sz B (Ch j v vs) (es.set j q) hp:=by
 have hlt:=(Lb.1 h).1;funext i;by_cases e:i=CZ B j
 ·subst e;rw[JD (p:=q) (by simp[hlt]) hj];simp[upd,Ch]
 have h1:upd (CZ B j) (some (AO.rw (q.2.map f) sz v false false)) (A8 f sz B vs es hp) i=A8 f sz B vs es hp i:=by simp[upd,e]
 rw[h1];unfold A8;cases hr:(Nat.ble B i&&Nat.blt i (B+4294967296)) with
 |false=>rfl
 |true=>
  simp only[Li,Br,NT] at hr;rw[Dl] at e;have hne:i-B≠j:=by omega
  simp[Ne.symm hne,Ch,hne]
theorem gw:∀(es:List (K × List α)) (o j v:Nat) (q:K × List α),j<es.length->(Cy kv B vs o es).set j (kv q.1,.so (CZ B (o+j)) v 0 q.2.length)=Cy kv B (Ch (o+j) v vs) o (es.set j q)
 |[],_,_,_,_,h=>by simp at h
 |p::r,o,0,v,q,_=>by
  have:∀(r:List (K × List α)) (o':Nat),o<o'->Cy kv B vs o' r=Cy kv B (Ch o v vs) o' r:=by
   intro r;induction r with |nil=>intro _ _;rfl |cons p r ih=>intro o' h;simp[Cy,ih (o'+1) (by omega),Ch,show o'≠o by omega]
  simp[Cy,Ch,this r (o+1) (by omega)]
 |p::r,o,j+1,v,q,h=>by
  have ih:=gw r (o+1) j v q (by simpa using h);rw[show o+1+j=o+(j+1) by omega] at ih;simp[Cy,ih,Ch]
theorem XA {es:List (K × List α)}{j v:Nat}{q:K × List α}(h:j<es.length):(Ay kv B vs es).set j (kv q.1,.so (CZ B j) v 0 q.2.length)=Ay kv B (Ch j v vs) (es.set j q):=by
 have:=gw (kv:=kv) (B:=B) (vs:=vs) es 0 j v q h;rw[NC] at this;exact this
variable [BEq K][LawfulBEq K]{q:Bool × List TK}
theorem gx (hk:Ec q kv)(k:K):∀(es:List (K × List α)) (o:Nat),(mget k es=none/\Dm q (kv k) (Cy kv B vs o es)=some none/\∀ys,An k ys es=es++[(k,ys)])\/
  ∃j xs,es[j]? =some (k,xs)/\mget k es=some xs/\Dm q (kv k) (Cy kv B vs o es)=some (some (j,.so (CZ B (o+j)) (vs (o+j)) 0 xs.length))/\∀ys,An k ys es=es.set j (k,xs++ys)
 |[],o=>.inl ⟨rfl,rfl,fun _=>rfl⟩
 |p::r,o=>by
  cases hb:(k==p.1) with
  |true=>
   have e:k=p.1:=(by simpa using hb);refine .inr ⟨0,p.2,by simp[e],by simp[mget,hb],?_,fun ys=>by simp[An,hb]⟩;simp[Cy,Dm,hk k p.1,hb]
  |false=>
   rcases gx hk k r (o+1) with⟨h1,h2,h3⟩ |⟨j,xs,h1,h2,h3,h4⟩
   ·refine .inl ⟨by simp[mget,hb,h1],?_,fun ys=>by simp[An,hb,h3]⟩;simp[Cy,Dm,hk k p.1,hb,h2]
   refine .inr ⟨j+1,xs,by simpa using h1,by simp[mget,hb,h2],?_,fun ys=>by simp[An,hb,h4]⟩;rw[show o+1+j=o+(j+1) by omega] at h3;simp[Cy,Dm,hk k p.1,hb,h3]
theorem XB (hk:Ec q kv)(k:K)(es:List (K × List α)):(mget k es=none/\Dm q (kv k) (Ay kv B vs es)=some none/\∀ys,An k ys es=es++[(k,ys)])\/
  ∃j xs,es[j]? =some (k,xs)/\mget k es=some xs/\Dm q (kv k) (Ay kv B vs es)=some (some (j,.so (CZ B j) (vs j) 0 xs.length))/\∀ys,An k ys es=es.set j (k,xs++ys):=by
 have:=gx (kv:=kv) (B:=B) (vs:=vs) hk k es 0;simp only[NC] at this;exact this
end
section
variable {q:Bool × List TK}
theorem Mu {es:List (Value × AV)}{x:Value}(h:Dm q x es=some none)(z:AV)(ok:Bool):EM q x z ok es=some (if ok then .tu [z,.v (.bool false)] else z,[]):=by
 unfold EM;rw[h]
theorem Mv {es:List (Value × AV)}{x:Value}{j:Nat}{v:AV}(h:Dm q x es=some (some (j,v)))(z:AV)(ok:Bool):EM q x z ok es=some (if ok then .tu [v,.v (.bool true)] else v,[]):=by
 unfold EM;rw[h]
theorem Mw {es:List (Value × AV)}{x:Value}(h:Dm q x es=some none)(v:AV):EG q x v es=some (es++[(x,v)]):=by
 unfold EG;rw[h]
theorem Mx {es:List (Value × AV)}{x:Value}{j:Nat}{w:AV}(h:Dm q x es=some (some (j,w)))(v:AV):EG q x v es=some (es.set j (x,v)):=by
 unfold EG;rw[h]
theorem gy {es:List (Value × AV)}(a:Value × AV):(es++[a])[es.length]? =some a:=by simp
theorem gz {es:List (Value × AV)}(a b:Value × AV):(es++[a]).set es.length b=es++[b]:=by simp
theorem K8 {es:List (Value × AV)}{j:Nat}{c:Value × AV}(h:es[j]? =some c)(a:Value × AV):(es.set j a)[j]? =some a:=by
 have:=(Lb.1 h).1;simp[this]
end
section
variable {K α:Type}{kv:K->Value}{B:Nat}{vs:Nat->Nat}{f:α->List D}{sz:Nat}
def Jh (rs:List Nat)(i:Nat):Bool:=rs.any fun B=>Nat.ble B i&&Nat.blt i (B+4294967296)
def EW (n:Nat)(JR:Option (Nat × Nat))(rs:List Nat)(L:List (Nat × Nat))(i:Nat):Option Nat:=
 bif Nat.blt i n then some i else bif Jh rs i then(match JR with |some (J,R)=>if i=J then some R else some i |none=>some i) else match L.find? (fun p=>Nat.beq p.1 i) with
  |some p=>some p.2
  |none=>none
def Z4 (n N R:Nat)(rs:List Nat)(L:List (Nat × Nat)):Bool:=Nat.ble n N&&SQ n N L&&L.all (fun p=> !Jh rs p.2&& !Nat.beq p.2 R)&&rs.all (fun B=>Nat.ble n B&&Nat.ble (B+4294967296) N)&&Nat.ble n R&& !Jh rs R
theorem r7 {rs:List Nat}{i:Nat}(h:Jh rs i=true):∃B∈rs,B<=i/\i<B+4294967296:=by
 unfold Jh at h;rw[Nm] at h;obtain⟨B,h1,h2⟩:=h;simp only[Li,Br,NT] at h2;exact⟨B,h1,h2⟩
theorem r8 {n N nx R:Nat}{fr' fr:Fr}{hp' hp:Hp}(JR:Option (Nat × Nat))(hJ:∀J R',JR=some (J,R')->R'=R)(rs:List Nat)(L:List (Nat × Nat))(h1:Z4 n N R rs L=true)(h2:∀t,fr' t= .un\/CK (EW n JR rs L) (fr' t)=some (fr t))
  (h3:∀i o,hp' i=some o->∃j o',EW n JR rs L i=some j/\CP (EW n JR rs L) o=some o'/\hp j=some o'):A6 n ⟨fr',hp',N⟩ ⟨fr,hp,nx⟩:=by
 simp only[Z4,Li,Br,LL,NJ] at h1;obtain⟨⟨⟨⟨⟨h0,hL⟩,hL2⟩,hB⟩,hR⟩,hR2⟩:=h1;have old:∀i,i<n->EW n JR rs L i=some i:=fun i hi=>by
  unfold EW;rw[show Nat.blt i n=true by rw[NT];exact hi];rfl
 have cases_:∀i j,n<=i->EW n JR rs L i=some j->(Jh rs i=true/\(j=i/\(∀J R',JR=some (J,R')->i≠J)\/∃J,JR=some (J,R)/\i=J/\j=R))\/(Jh rs i=false/\(i,j)∈L):=fun i j hi h=>by
  unfold EW at h;have e:Nat.blt i n=false:=by
   cases h2:Nat.blt i n with |false=>rfl |true=>rw[NT] at h2;omega
  rw[e] at h;simp only[cond_false] at h;cases hr:Jh rs i with
  |true=>
   rw[hr] at h;simp only[cond_true] at h;refine .inl ⟨rfl,?_⟩;cases JR with
   |none=>simp only[Le] at h;exact .inl ⟨h.symm,fun _ _ e=>by cases e⟩
   |some p=>
    obtain⟨J,R'⟩:=p
    have:=hJ J R' rfl;subst this;simp only at h;split at h
    ·rename_i e;simp only[Le] at h;exact .inr ⟨J,rfl,e,h.symm⟩
    ·rename_i e;simp only[Le] at h;exact .inl ⟨h.symm,fun J2 R2 e2=>by simp only[Le,Lu] at e2;obtain⟨rfl,rfl⟩:=e2;exact e⟩
  |false=>
   rw[hr] at h;simp only[cond_false] at h;refine .inr ⟨rfl,?_⟩;split at h
   ·rename_i p hp;obtain⟨e1,e2⟩:=gT hp;simp only[Le] at h;rw[<-e2,<-h];exact e1
   cases h
 have ge:∀i j,n<=i->EW n JR rs L i=some j->n<=j:=fun i j hi h=>by
  rcases cases_ i j hi h with⟨_,⟨rfl,_⟩ |⟨J,_,_,rfl⟩⟩ |⟨_,h4⟩
  ·exact hi
  ·exact hR
  exact(Mk hL _ h4).2.1
 refine .ren (EW n JR rs L) ⟨old,fun i j hi h=>⟨ge i j hi h,?_⟩,fun i i' j e1 e2=> ?_,h2,h3,h0⟩
 ·rcases cases_ i j hi h with⟨hr,_⟩ |⟨_,h4⟩
  ·obtain⟨B,h5,h6,h7⟩:=r7 hr
   have:=(hB B h5).2;show i<N;omega
  exact(Mk hL _ h4).2.2.1
 by_cases hi:i<n
 ·rw[old i hi] at e1;cases e1;by_cases hi':i'<n
  ·rw[old i' hi'] at e2;cases e2;rfl
  have:=ge i' i (by omega) e2;omega
 by_cases hi':i'<n
 ·rw[old i' hi'] at e2;cases e2
  have:=ge i i' (by omega) e1;omega
 have no:∀ {a b j:Nat},Jh rs a=true->(j=a\/j=R)->(b,j)∈L->False:=fun{a b j} ha hj hb=>by
  have:=hL2 _ hb;simp only at this;rcases hj with rfl |rfl
  ·rw[ha] at this;simp at this
  simp at this
 rcases cases_ i j (by omega) e1 with⟨hr,⟨rfl,n1⟩ |⟨J,q1,rfl,rfl⟩⟩ |⟨hr,h4⟩<;>rcases cases_ i' _ (by omega) e2 with⟨hr',⟨q3,n2⟩ |⟨J',q2,q4,q5⟩⟩ |⟨hr',h4'⟩
 ·exact q3
 ·subst q5;rw[hr] at hR2;cases hR2
 ·exact(no hr (.inl rfl) h4').elim
 ·subst q3;rw[hr'] at hR2;cases hR2
 ·rw[q1] at q2;simp only[Le,Lu,and_true] at q2;exact q2.trans q4.symm
 ·exact(no hr (.inr rfl) h4').elim
 ·exact(no hr' (.inl q3) h4).elim
 ·subst q5;exact(no hr' (.inr rfl) h4).elim
 exact(Mk hL _ h4').2.2.2 _ h4 rfl
theorem XC {n B j:Nat}{JR:Option (Nat × Nat)}{rs:List Nat}{L:List (Nat × Nat)}(hn:Nat.ble n B=true)(hB:B∈rs)(hj:j<4294967296):EW n JR rs L (CZ B j)=match JR with |some (J,R)=>if CZ B j=J then some R else some (CZ B j) |none=>some (CZ B j):=by
 rw[Dl];rw[Br] at hn;unfold EW;have e:Nat.blt (j+B) n=false:=by
  cases h2:Nat.blt (j+B) n with |false=>rfl |true=>rw[NT] at h2;omega
 have e2:Jh rs (j+B)=true:=by
  unfold Jh;rw[Nm];exact⟨B,hB,by simp;omega⟩
 rw[e,e2];rfl
theorem QH {α:Type}{g:Nat->α}{k c:Nat}{x y:α}(h:k≠c)(h2:g k=y):upd c x g k=y:=by
 unfold upd;rw[if_neg h];exact h2
theorem QI {es:List (K × List α)}{hp:Hp}{i:Nat}{y:Option AO}(h:i<B\/B+4294967296<=i)(h2:hp i=y):A8 f sz B vs es hp i=y:=by rw[Z3 h];exact h2
theorem hY {n:Nat}{JR:Option (Nat × Nat)}{rs:List Nat}{L:List (Nat × Nat)}{es es':List (K × List α)}{hp hp0:Hp}(hn:Nat.ble n B=true)(hB:B∈rs)(hJ:∀J R,JR=some (J,R)->J<B\/B+4294967296<=J)(he:es'=es)
  (h:∀j p,es[j]? =some p->j<4294967296->hp (CZ B j)=some (.rw (p.2.map f) sz (vs j) false false)) (hw:∀i o,hp0 i=some o->∃j o',EW n JR rs L i=some j/\CP (EW n JR rs L) o=some o'/\hp j=some o'):
  ∀i o,A8 f sz B vs es' hp0 i=some o->∃j o',EW n JR rs L i=some j/\CP (EW n JR rs L) o=some o'/\hp j=some o':=fun i o hi=>by
 subst he;unfold A8 at hi;cases hr:(Nat.ble B i&&Nat.blt i (B+4294967296)) with
 |false=>rw[hr] at hi;exact hw i o hi
 |true=>
  rw[hr] at hi;simp only[cond_true,La] at hi;simp only[Li,Br,NT] at hr;obtain⟨p,h1,rfl⟩:=hi;have h2:=h (i-B) p h1 (by omega);have h3:=XC (JR:=JR) (L:=L) hn hB (show i-B<4294967296 by omega);rw[Dl] at h2;simp only[Dl] at h3;rw[show i-B+B=i by omega] at h2 h3;refine⟨i,_,?_,rfl,h2⟩;rw[h3];cases JR with
  |none=>rfl
  |some q=>
   obtain⟨J,R⟩:=q
   have:=hJ J R rfl;simp only;rw[ifn]
theorem r9 {n R:Nat}{rs:List Nat}{L:List (Nat × Nat)}{es es':List (K × List α)}{k:K}{ys:List α}{hp hp0:Hp}(hn:Nat.ble n B=true)(hB:B∈rs)(hl:es.length<4294967296)(he:es'=es++[(k,ys)])
  (h:∀j p,es[j]? =some p->j<4294967296->hp (CZ B j)=some (.rw (p.2.map f) sz (vs j) false false)) (hR:hp R=some (.rw (ys.map f) sz 0 false false)) (hw:∀i o,hp0 i=some o->∃j o',EW n (some (CZ B es.length,R)) rs L i=some j/\CP (EW n (some (CZ B es.length,R)) rs L) o=some o'/\hp j=some o'):
  ∀i o,A8 f sz B (Ch es.length 0 vs) es' hp0 i=some o->∃j o',EW n (some (CZ B es.length,R)) rs L i=some j/\CP (EW n (some (CZ B es.length,R)) rs L) o=some o'/\hp j=some o':=fun i o hi=>by
 subst he;unfold A8 at hi;cases hr:(Nat.ble B i&&Nat.blt i (B+4294967296)) with
 |false=>rw[hr] at hi;exact hw i o hi
 |true=>
  rw[hr] at hi;simp only[cond_true,La] at hi;simp only[Li,Br,NT] at hr;obtain⟨p,h1,rfl⟩:=hi;have h3:=XC (JR:=some (CZ B es.length,R)) (L:=L) hn hB (show i-B<4294967296 by omega);simp only[Dl] at h3;rw[show i-B+B=i by omega] at h3;by_cases e:i-B=es.length
  ·rw[ifp] at h3;rw[e,L8 (Lc _),B6] at h1;cases h1;refine⟨R,_,by rw[<-Dl] at h3;exact h3,rfl,?_⟩;rw[hR];simp[Ch,e]
  rw[ifn] at h3;have hlt:i-B<es.length:=by
   have:=(Lb.1 h1).1;rw[Lf,Lr] at this;omega
  rw[Nq hlt] at h1;have h2:=h (i-B) p h1 (by omega);rw[Dl,show i-B+B=i by omega] at h2;refine⟨i,_,by rw[<-Dl] at h3;exact h3,rfl,?_⟩;rw[h2];simp[Ch,e]
theorem Z5 {n:Nat}{JR:Option (Nat × Nat)}{rs:List Nat}{L:List (Nat × Nat)}(hn:Nat.ble n B=true)(hB:B∈rs):∀(es:List (K × List α)) (o:Nat),(∀J R,JR=some (J,R)->J<o+B\/o+es.length+B<=J)->o+es.length<=4294967296->ER (EW n JR rs L) (Cy kv B vs o es)=some (Cy kv B vs o es)
 |[],o,_,_=>rfl
 |p::r,o,hJ,hl=>by
  have ih:=Z5 hn hB (JR:=JR) (L:=L) r (o+1) (fun J R e=>by have:=hJ J R e;simp only[Lg] at this;omega) (by simp only[Lg] at hl;omega);have h1:=XC (JR:=JR) (L:=L) hn hB (show o<4294967296 by simp only[Lg] at hl;omega);have h2:EW n JR rs L (CZ B o)=some (CZ B o):=by
   rw[h1];cases JR with
   |none=>rfl
   |some q=>
    obtain⟨J,R⟩:=q
    have:=hJ J R rfl;simp only[Lg] at this;simp only;rw[if_neg (by rw[Dl];omega)]
  simp only[Cy,ER,CK,h2,ih,LO]
theorem iA {n:Nat}{JR:Option (Nat × Nat)}{rs:List Nat}{L:List (Nat × Nat)}{es es':List (K × List α)}{dl:Bool}(hn:Nat.ble n B=true)(hB:B∈rs)(hJ:∀J R,JR=some (J,R)->J<B\/B+4294967296<=J)(hl:es.length<=4294967296)(he:es'=es):CP (EW n JR rs L) (.mo (Ay kv B vs es') dl)=some (.mo (Ay kv B vs es) dl):=by
 subst he
 have:=Z5 (kv:=kv) (vs:=vs) (JR:=JR) (L:=L) hn hB es' 0 (fun J R e=>by have:=hJ J R e;omega) (by omega);simp only[CP,Ay,this,LO]
theorem iB:∀(es:List (K × List α)) (o v:Nat) (k:K) (ys:List α),Cy kv B (Ch (o+es.length) v vs) o (es++[(k,ys)])=Cy kv B vs o es++[(kv k,.so (CZ B (o+es.length)) v 0 ys.length)]
 |[],o,v,k,ys=>by simp[Cy,Ch]
 |p::r,o,v,k,ys=>by
  have ih:=iB r (o+1) v k ys;rw[show o+1+r.length=o+(p::r).length by simp only[Lg];omega] at ih;have h1:Ch (o+(p::r).length) v vs o=vs o:=by simp[Ch]
  simp only[LJ,Cy,ih,h1]
theorem iC {ρ:Nat->Option Nat}:∀(a b a' b':List (Value × AV)),ER ρ a=some a'->ER ρ b=some b'->ER ρ (a++b)=some (a'++b')
 |[],b,a',b',h1,h2=>by cases h1;exact h2
 |(x,c)::r,b,a',b',h1,h2=>by
  unfold ER at h1;split at h1
  ·rename_i d ds e1 e2;cases h1
   have:=iC r b ds b' e2 h2;simp only[LJ,ER,e1,this]
  cases h1
theorem sA {n R:Nat}{rs:List Nat}{L:List (Nat × Nat)}{es es':List (K × List α)}{k:K}{ys:List α}{dl:Bool}(hn:Nat.ble n B=true)(hB:B∈rs)(hl:es.length<4294967296)(he:es'=es++[(k,ys)]):CP (EW n (some (CZ B es.length,R)) rs L) (.mo (Ay kv B (Ch es.length 0 vs) es') dl)=some (.mo (Ay kv B vs es++[(kv k,.so R 0 0 ys.length)]) dl):=by
 subst he;have h1:=Z5 (kv:=kv) (vs:=vs) (JR:=some (CZ B es.length,R)) (L:=L) hn hB es 0 (fun J R e=>by simp only[Le,Lu,Dl] at e;omega) (by omega);have h2:=iB (kv:=kv) (B:=B) (vs:=vs) es 0 0 k ys;rw[NC] at h2;have h3:EW n (some (CZ B es.length,R)) rs L (CZ B es.length)=some R:=(XC (JR:=some (CZ B es.length,R)) (L:=L) hn hB hl).trans (if_pos rfl);have h4:ER (EW n (some (CZ B es.length,R)) rs L) [(kv k,AV.so (CZ B es.length) 0 0 ys.length)]=some [(kv k,AV.so R 0 0 ys.length)]:=by simp only[ER,CK,h3,LO]
 simp only[CP,Ay,h2,iC _ _ _ _ h1 h4,LO]
end
section
variable {P:Program}{tab:Nat->TI}{ops:Array Oper}{nx0 nx i:Nat}{k:List It}{Q:Ex->St->Prop}{r:List Oper}{s:St}{dst:Option Nat}{acc:List Cd}{fr:Fr}{hp:Hp}
@[go_sem] theorem xp (A:TypeId)(x y:Operand):En P tab ops nx0 nx k Q i r dst acc fr hp (.mapEntry A x y)=FD P tab ops nx0 nx k Q (i+1) r dst acc (CX (ev fr) (.mapEntry A x y)) fr hp (CB tab (ev fr) hp (nx0+i) (.mapEntry A x y)):=rfl
@[go_sem] theorem xq (A:TypeId)(x y z:Operand):En P tab ops nx0 nx k Q i r dst acc fr hp (.entryStore A x y z)=FD P tab ops nx0 nx k Q (i+1) r dst acc (CX (ev fr) (.entryStore A x y z)) fr hp (CB tab (ev fr) hp (nx0+i) (.entryStore A x y z)):=rfl
end
section
variable (ρ:Operand->AV)
@[go_sem] theorem SW (T:TypeId)(x y:Operand):CX ρ (.mapEntry T x y)=Au (ρ x)++Au (ρ y):=by simp[CX,F5,Op.operands,Ax]
@[go_sem] theorem SX (T:TypeId)(x y z:Operand):CX ρ (.entryStore T x y z)=Au (ρ x)++(Au (ρ y)++Au (ρ z)):=by simp[CX,F5,Op.operands,Ax]
@[go_sem] theorem UY (T:TypeId)(x y z:Operand):CX ρ (.mapUpdate T x y z)=Au (ρ x)++(Au (ρ y)++Au (ρ z)):=by simp[CX,F5,Op.operands,Ax]
end
def GZ (q:Bool × List TK)(kv:Value)(z:AV)(i:Nat)(es:List (Value × AV)):Option (AV × List (Nat × AO)):=
 match Dm q kv es with
 |some none=>some (.tu [z,.v (.int .i64 es.length)],[(i,.mo (es++[(kv,z)]) false)])
 |some (some (j,v))=>some (.tu [v,.v (.int .i64 j)],[(i,.mo (es.set j (kv,v)) false)])
 |none=>none
def UZ (q:Option (Bool × List TK))(kv:Option Value)(z:Option AV)(m:AV)(hp:Hp):Option (AV × List (Nat × AO)):=
 match q,kv,z with
 |some q,some kv,some z=>if F3 q kv then match m with
  | .mo i=>match hp i with
   |some (.mo es false)=>GZ q kv z i es
   |_=>none
  |_=>none else none
 |_,_,_=>none
@[go_sem ↓ high] theorem xr {tab:Nat->TI}(ρ:Operand->AV)(hp:Hp)(id T:Nat)(m k:Operand):CB tab ρ hp id (.mapEntry T m k)=UZ (tab T).mkey (EQ (ρ k)) (IA (tab (tab T).elem)) (ρ m) hp:=rfl
@[go_sem] theorem XD (q:Bool × List TK)(kv:Value)(z:AV)(i:Nat)(hp:Hp):UZ (some q) (some kv) (some z) (.mo i) hp=if F3 q kv then(match hp i with |some (.mo es false)=>GZ q kv z i es |_=>none) else none:=rfl
theorem K9 {q:Bool × List TK}{es:List (Value × AV)}{x:Value}(h:Dm q x es=some none)(z:AV)(i:Nat):GZ q x z i es=some (.tu [z,.v (.int .i64 es.length)],[(i,.mo (es++[(x,z)]) false)]):=by
 unfold GZ;rw[h]
theorem MA {q:Bool × List TK}{es:List (Value × AV)}{x:Value}{j:Nat}{v:AV}(h:Dm q x es=some (some (j,v)))(z:AV)(i:Nat):GZ q x z i es=some (.tu [v,.v (.int .i64 j)],[(i,.mo (es.set j (x,v)) false)]):=by
 unfold GZ;rw[h]
def Ua (m:AV)(j:Option Nat)(x:AV)(hp:Hp):Option (AV × List (Nat × AO)):=
 match m,j with
 | .mo i,some j=>if Fh x then match hp i with
  |some (.mo es false)=>match es[j]? with
   |some (k,_)=>some (.un,[(i,.mo (es.set j (k,x)) false)])
   |none=>none
  |_=>none else none
 |_,_=>none
@[go_sem ↓ high] theorem xt {tab:Nat->TI}(ρ:Operand->AV)(hp:Hp)(id T:Nat)(m st x:Operand):CB tab ρ hp id (.entryStore T m st x)=Ua (ρ m) (D8 (ρ st)) (ρ x) hp:=rfl
@[go_sem] theorem XE (i j:Nat)(x:AV)(hp:Hp):Ua (.mo i) (some j) x hp=if Fh x then(match hp i with
  |some (.mo es false)=>match es[j]? with |some (k,_)=>some (.un,[(i,.mo (es.set j (k,x)) false)]) |none=>none
  |_=>none) else none:=rfl
def sw (J R i:Nat):Nat:=if i=J then R else i
def MB (J R:Nat)(a:Cd):Cd:=⟨a.ids.map (sw J R),a.ks.map (sw J R),a.g⟩
section
variable {J R:Nat}
theorem QJ {i k:Nat}(hi:i≠R)(hk:k≠R)(h:sw J R i=sw J R k):i=k:=by
 unfold sw at h;by_cases e1:i=J<;>by_cases e2:k=J
 ·rw[e1,e2]
 ·rw[if_pos e1,if_neg e2] at h;exact absurd h.symm hk
 ·rw[if_neg e1,if_pos e2] at h;exact absurd h hi
 rwa [if_neg e1,if_neg e2] at h
theorem iD {xs ys:List Nat}(hx:R∉xs)(hy:R∉ys):DM (xs.map (sw J R)) (ys.map (sw J R))=DM xs ys:=by
 unfold DM;rw[NF];simp only[Nm,LQ,Bm];constructor
 ·rintro⟨_,⟨i,hi,rfl⟩,⟨k,hk,e⟩⟩
  have:k=i:=QJ (J:=J) (R:=R) (by rintro rfl;exact hy hk) (by rintro rfl;exact hx hi) e;subst this;exact⟨k,hi,hk⟩
 rintro⟨i,hi,hk⟩;exact⟨_,⟨i,hi,rfl⟩,⟨i,hk,rfl⟩⟩
theorem sB {xs:List Nat}(hJ:J≠DN)(hR:R≠DN):(xs.map (sw J R)).contains DN=xs.contains DN:=by
 rw[NF];simp only[Bm,LQ];constructor
 ·rintro⟨i,hi,e⟩;unfold sw at e;split at e
  ·exact absurd e hR
  rwa [<-e]
 intro h;exact⟨DN,h,by unfold sw;rw[if_neg (Ne.symm hJ)]⟩
theorem sC {a b:Cd}(ha:R∉a.ids++a.ks)(hb:R∉b.ids++b.ks)(hJ:J≠DN)(hR:R≠DN):FL (MB J R a) (MB J R b)=FL a b:=by
 simp only[Ls,not_or] at ha hb;have e1:DM (a.ks.map (sw J R)) (b.ids.map (sw J R)++b.ks.map (sw J R))=DM a.ks (b.ids++b.ks):=by
  rw[<-Na];exact iD ha.2 (by simp[hb.1,hb.2])
 have e2:=iD (J:=J) hb.2 ha.1;simp only[FL,IF,Eu,MB,e1,e2,sB hJ hR,List.isEmpty_map]
theorem sD {ops:Array Oper}{rs:List Cd}(h:Gv ops (rs.map (MB J R))=true)(hr:∀a∈rs,R∉a.ids++a.ks)(hJ:J≠DN)(hR:R≠DN):Gv ops rs=true:=by
 simp only[Gv,Rh,Li,LL] at h⊢;refine⟨h.1,fun j hj i hi=> ?_⟩;have h1:=h.2 j hj i hi;rw[Lj,Lj] at h1;cases hx:rs[i]? with
 |none=>
  rw[hx] at h1;exact h1
 |some a=>
  cases hy:rs[j]? with
  |none=>
   rw[hx,hy] at h1;exact h1
  |some b=>
   rw[hx,hy] at h1;simp only[LO,sC (hr a (Lt hx)) (hr b (Lt hy)) hJ hR] at h1;exact h1
theorem XF {P:Program}{tab:Nat->TI}{ops:Array Oper}{nx0 nx i:Nat}{k:List It}{Q:Ex->St->Prop}{acc:List Cd}{fr:Fr}{hp:Hp}(J R:Nat)(hJ:J≠DN)(hR:R≠DN)(hr:∀a∈acc,R∉a.ids++a.ks)(h1:Px ops (acc.reverse.map (MB J R))=true)(h2:run P tab k Q ⟨fr,hp,nx⟩):Rd P tab ops nx0 nx k Q i [] acc fr hp:=
 ⟨sD (TZ h1) (fun a ha=>hr a (by simpa using ha)) hJ hR,h2⟩
end
def CO {K V:Type}(kv:K->Value)(ag:Bool)(enc:V->List D)(m:List (K × V)):List (Value × Bool × List D):=m.map fun p=>(kv p.1,ag,enc p.2)
theorem QK (b:Bool)(cs:List D):EF b (true,cs)= .d (.ag cs) b:=rfl
theorem QL (b:Bool)(c:D):EF b (false,[c])=Aw b c:=rfl
theorem sE:JS (.slice none 0 0)= .sl []:=rfl
theorem sF (k:IntKind)(n:Int):JS (.int k n)= .v (.int k n):=rfl
theorem sG (x:ByteArray):JS (.string x)= .v (.string x):=rfl
theorem sH (x:Option Addr):JS (.pointer x)= .v (.pointer x):=rfl
@[go_sem] theorem xu {α:Type}(a:α)(l b:List α):List.append (a::l) b=a::List.append l b:=rfl
@[go_sem] theorem xv {α:Type}(b:List α):List.append [] b=b:=rfl
@[go_sem] theorem XG (b:Bool)(m:List (Value × Bool × List D)):Aw b (.mp m)= .d (.mp m) b:=rfl
attribute [go_sem] Mb QK QL sE sF sG sH
section
variable {K V:Type}[BEq K]{q:Bool × List TK}{kv:K->Value}{ag b:Bool}{enc:V->List D}
theorem HU (hk:Ec q kv)(k:K)(z:V)(ok:Bool)(m:List (K × V)):EM q (kv k) (EF b (ag,enc z)) ok (Et b (CO kv ag enc m))=some (if ok then .tu [EF b (ag,enc (qg_ k z m)),.v (.bool (Ar k m))] else EF b (ag,enc (qg_ k z m)),[]):=by
 have e:Et b (CO kv ag enc m)=AP kv (fun v=>EF b (ag,enc v)) m:=by simp[Et,CO,AP]
 rw[e];exact SV (ev:=fun v=>EF b (ag,enc v)) hk k z ok m
theorem sI (hk:Ec q kv)(k:K)(z:V)(m:List (K × V))(x:AV)(h:Ar k m=true):EM q (kv k) x false (Et b (CO kv ag enc m))=some (EF b (ag,enc (qg_ k z m)),[]):=by
 have e:Et b (CO kv ag enc m)=AP kv (fun v=>EF b (ag,enc v)) m:=by simp[Et,CO,AP]
 rw[e];obtain⟨o,h1,h2,h3⟩:=Mr (ev:=fun v=>EF b (ag,enc v)) hk k m;unfold EM;rw[h1];cases hm:mget k m with
 |none=>simp[Ar,hm] at h
 |some w=>
  obtain⟨i,e1,e2⟩:=h2 w hm;subst e1;simp[qg_,hm]
theorem sJ (hk:Ec q kv)(k:K)(m:List (K × V))(x:AV)(h:Ar k m=false):EM q (kv k) x false (Et b (CO kv ag enc m))=some (x,[]):=by
 have e:Et b (CO kv ag enc m)=AP kv (fun v=>EF b (ag,enc v)) m:=by simp[Et,CO,AP]
 rw[e];obtain⟨o,h1,h2,h3⟩:=Mr (ev:=fun v=>EF b (ag,enc v)) hk k m;unfold EM;rw[h1];cases hm:mget k m with
 |none=>
  obtain⟨e1,e2⟩:=h3 hm;subst e1;simp
 |some w=>simp[Ar,hm] at h
end
section
variable {K α V:Type}{kv:K->Value}{B:Nat}{vs:Nat->Nat}{f:α->List D}{sz:Nat}
theorem Ce.fam {hp:Hp}{b dl:Bool}{m:Nat}{es:List (K × List α)}(h:hp m=some (.mo (Ay kv B vs es) dl))(hl:es.length<=4294967296)(hr:∀j p,es[j]? =some p->j<4294967296->hp (CZ B j)=some (.rw (p.2.map f) sz (vs j) false false)):Ce hp b (.mo m) (.mp (CO kv false (eL f) es)):=by
 have at_:∀ {j:Nat} {k:Value} {v:AV},(Ay kv B vs es)[j]? =some (k,v)->∃p,es[j]? =some p/\k=kv p.1/\v= .so (CZ B j) (vs j) 0 p.2.length:=fun{j k v} h=>by
  rw[UX,La] at h;obtain⟨p,h1,h2⟩:=h;simp only[Lu] at h2;exact⟨p,h1,h2.1.symm,h2.2.symm⟩
 have at2:∀ {j:Nat} {k:Value} {ag:Bool} {ds:List D} {p:K × List α},es[j]? =some p->(CO kv false (eL f) es)[j]? =some (k,ag,ds)->k=kv p.1/\ag=false/\ds= [D.sl (p.2.map f)]:=fun{j k ag ds p} h1 h2=>by
  simp only[CO,Lj,h1,LO,Le,Lu] at h2;exact⟨h2.1.symm,h2.2.1.symm,h2.2.2.symm⟩
 refine .mo h (by simp[CO,ru]) (fun j k v k' ag ds h1 h2=> ?_) fun j k v k' ag ds i x d h1 h2 h3 h4=> ?_
 ·obtain⟨p,e1,rfl,rfl⟩:=at_ h1;obtain⟨rfl,rfl,rfl⟩:=at2 e1 h2;exact⟨rfl,rfl,rfl,fun _=>rfl⟩
 obtain⟨p,e1,rfl,rfl⟩:=at_ h1;obtain⟨rfl,rfl,rfl⟩:=at2 e1 h2;have hlt:=(Lb.1 e1).1;have h5:=hr j p e1 (by omega);cases i with
 |zero=>
  simp only[HA,LV,Le] at h3 h4;subst h3;subst h4;refine .one (b':=false) (is:=[CZ B j]) ?_ (by simp);simp only[CS,h5,if_true,Nt];rw[Ny (by simp)]
 |succ i=>simp[HA] at h3
theorem iE {hp:Hp}{b dl:Bool}{m:Nat}{ev:V->AV}{enc:V->List D}{es:List (K × V)}(h:hp m=some (.mo (AP kv ev es) dl))(he:∀v,∃x,ev v= .v x/\enc v= [.v x]/\CS hp (.v x)=some (.v x,false,[])):Ce hp b (.mo m) (.mp (CO kv false enc es)):=by
 have at_:∀ {j:Nat} {k:Value} {v:AV},(AP kv ev es)[j]? =some (k,v)->∃p,es[j]? =some p/\k=kv p.1/\v=ev p.2:=fun{j k v} h=>by
  simp only[AP,Lj,La] at h;obtain⟨p,h1,h2⟩:=h;simp only[Lu] at h2;exact⟨p,h1,h2.1.symm,h2.2.symm⟩
 have at2:∀ {j:Nat} {k:Value} {ag:Bool} {ds:List D} {p:K × V},es[j]? =some p->(CO kv false enc es)[j]? =some (k,ag,ds)->k=kv p.1/\ag=false/\ds=enc p.2:=fun{j k ag ds p} h1 h2=>by
  simp only[CO,Lj,h1,LO,Le,Lu] at h2;exact⟨h2.1.symm,h2.2.1.symm,h2.2.2.symm⟩
 refine .mo h (by simp[CO,AP]) (fun j k v k' ag ds h1 h2=> ?_) fun j k v k' ag ds i x d h1 h2 h3 h4=> ?_
 ·obtain⟨p,e1,rfl,rfl⟩:=at_ h1;obtain⟨rfl,rfl,rfl⟩:=at2 e1 h2;obtain⟨x,q1,q2,_⟩:=he p.2;rw[q1,q2];exact⟨rfl,rfl,rfl,fun _=>rfl⟩
 obtain⟨p,e1,rfl,rfl⟩:=at_ h1;obtain⟨rfl,rfl,rfl⟩:=at2 e1 h2;obtain⟨y,q1,q2,q3⟩:=he p.2;rw[q1] at h3;rw[q2] at h4;cases i with
 |zero=>
  simp only[HA,LV,Le] at h3 h4;subst h3;subst h4;exact .one q3 (by simp)
 |succ i=>simp[HA] at h3
end
end
end Go.Proofs.YtnmkbmefohakmaaGreat.Ab
