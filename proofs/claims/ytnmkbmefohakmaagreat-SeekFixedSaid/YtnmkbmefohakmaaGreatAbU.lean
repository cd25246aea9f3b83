/-
 Lists of texts: Clone, Sort, Compact of the library.
-/
import Derived.Sort.EncStr
import Derived.Lib.OwnBridge
import Derived.Sort.Grow
import Derived.Test.YtnmkbmefohakmaaGreatAbJ
set_option linter.all false
namespace Go.Proofs.YtnmkbmefohakmaaGreat.Ab
variable {JR:Option (Nat × Nat)}{L:List (Nat × Nat)}{R i id j k m n:Nat}{as:List DA}{caps vs:List AV}{dl fr:Bool}{ds:List D}{f:FuncId}{hp hp0:Hp}{rs:List Nat}{u x:Value}{α:Type}
section
open Go.RowKit Go.Sort Go.Proofs
section
variable {P:Program}{tab:Nat->TI}
theorem vc (a:Ad P tab)(d:P.follows .mixedOrders=true){fn:Func}{T B:TypeId}(h:P.funcs[f]? =some fn)(l:fn.body=some (Po T B))(o:(fn.name== "runtime.NumGoroutine")=false)(p:D2 fn.ntmps (Po T B)=true)(t:1<=fn.ntmps)(w:fn.results= #[.tmp 2])
  (y:(tab T).kind= .slice) (z:(tab (tab T).elem).ok=true) (A:0<(tab (tab T).elem).size) (C:(tab (tab T).elem).bytes<=32768) {x:List D} {es:List (List D)} {b:Bool}  {nx:Nat}
  (E:(x.length==(tab (tab T).elem).size&&es.all fun e=>e.length==(tab (tab T).elem).size)=true) (F:es.length+1<=4294967296):
  AU P f [.d (.sl (x::es)) b] hp nx fun v G H=>H=nx+7/\v= .so (nx+3) 1 0 (es.length+1)/\G=upd (nx+3) (some (.rw (x::es) (tab (tab T).elem).size 1 (b&& !(J0 x&&KK es)) false)) hp:=by
 refine Mu (tab:=tab) a d h l o p (by simpa using t) ?_;rw[w];unfold Po;simp -implicitDefEqProofs only[go_sem,Nat.reduceEqDiff,Nat.reduceAdd,reduceCtorEq, ↓reduceIte,y,z,A,C,BQ,Lg,and_self,true_and,List.map,List.all,EX,frz,Cj];rw[if_pos ⟨E,F⟩];simp -implicitDefEqProofs only[go_sem,Nat.reduceAdd, ↓reduceIte];exact KY (by simp -implicitDefEqProofs only[go_sem, ↓reduceIte]<;>rfl) ⟨rfl,rfl,Em _ _ _ _⟩
abbrev eT (s:ByteArray):List D:=[.v (.string s)]
end
end
section
open Go.RowKit
section
variable {P:Program}{tab:Nat->TI}
variable {ops:Array Oper}{nx0 nx:Nat}{k:List It}{Q:Ex->St->Prop}{i:Nat}{r:List Oper}{dst:Option Nat}{acc:List Cx}{ids:List Nat}{fr:Fr}{hp:Hp}
theorem Pv {g:FuncId}{v:AV}{δ:List (Nat × AO)}{nx':Nat}(a:AU P g (vs++caps) hp nx fun d e l=>d=v/\e=CC δ hp/\l=nx')(h:Rd P tab ops nx0 nx' k Q i r (⟨[Df],δ.map (·.1),true⟩::acc) (CJ dst v fr) (CC δ hp)):
  Pk P tab ops nx0 nx k Q i r dst acc ids fr hp (.fn g caps) vs:=
 RR (ids':=[Df]) (fun p o=>by rw[o.2 (Lt.2 rfl)];exact a) h
end
end
section
open Go.RowKit
section
variable {P:Program}{tab:Nat->TI}
theorem vd {nx ver sz:Nat}{br:Bool}{es:List (List D)}(h:AU P f vs hp0 nx fun v p _=>∃l,m<=l.length/\l.take m=es/\v= .so id ver 0 m/\p=upd id (some (.rw l sz ver br false)) hp):
  AU P f vs hp0 nx fun v p _=>v= .so id (ver+1) 0 m/\p=upd id (some (.rw es sz (ver+1) br false)) hp:=by
 refine⟨h.1,fun g c F G H I M N=>(h.2 g c F G H I M N).mono ?_⟩;rintro e w' ⟨u,v,a,O,S,⟨l,hm,rfl,rfl,E⟩,rfl,U,w,X,Y,Z⟩;have t:a.hp id=some (.rw l sz ver br false):=by rw[E,Ap]
 have⟨aa,ab,T,ad,C,h3,h4,h5,h6,h7⟩:=w.obj id _ t;have⟨_,_,ak⟩:=w.dom id _ t;have y:CP a ⟨upd id (some (.rw (l.take m) sz (ver+1) br false)) a.hp,upd id (a.φ id) a.φ,a.w,a.kn⟩:=by
  refine CP.chg w t rfl rfl rfl rfl (Lc _) (fun _ _ _=>rfl) (.inl rfl) (fun _ h=>h) (fun h=>by cases h) (fun ao ap v2 aq ar e=> ?_) (Lc _);cases e;exact⟨l,ver,br,false,rfl,BB _,fun e=>by omega⟩
 have hh:HR g ⟨upd id (some (.rw (l.take m) sz (ver+1) br false)) a.hp,upd id (a.φ id) a.φ,a.w,a.kn⟩:=by
  refine HR.chg w t y (fun _ _ _=>rfl) (.inl rfl) ak ⟨aa,fun i z o=> ?_,T,ad,C,by simp only[Ap];exact h3,h4,by rw[LC];omega,h6,fun i j z d o hj=> ?_⟩
  ·rw[Nq] at o;split at o
   ·exact ab i z o
   cases o
  rw[Nq] at o;split at o
  ·have⟨u2,k1,A⟩:=h7 i j z d o hj;exact⟨u2,k1,A.ext y⟩
  cases o
 refine⟨u,.so id (ver+1) 0 m,⟨upd id (some (.rw (l.take m) sz (ver+1) br false)) a.hp,upd id (a.φ id) a.φ,a.w,a.kn⟩,O,S,⟨rfl,?_⟩,rfl,U.trans y,hh,?_,Y,Z⟩
 ·show upd id (some (.rw (l.take m) sz (ver+1) br false)) a.hp=_;rw[E,Em]
 have h8:RA g a (.so id ver 0 m) u:=X;cases h8 with
 |so _ _ _ _ _ av p h9=>
  have⟨_,A⟩:=h9 _ _ _ _ _ t;have⟨k3,aE,T2,C2,k4,k5,k6⟩:=A rfl;refine(show RA g _ (.so id (ver+1) 0 m) _ from RA.so id (ver+1) 0 m _ av p fun ao ap v2 aq ar e=> ?_);have e':=(Ap id (some (AO.rw (l.take m) sz (ver+1) br false)) a.hp).symm.trans e;cases e';refine⟨Lc _,fun _=>⟨by rw[LC];omega,aE,T2,C2,?_,k5,?_⟩⟩
  ·simp only[Ap];exact k4
  simp only[Ap];exact k6
theorem cr (l:Ad P tab)(o:P.follows .mixedOrders=true){fn:Func}{T B:TypeId}(p:P.funcs[f]? =some fn)(t:fn.body=some (Po T B))(w:(fn.name== "runtime.NumGoroutine")=false)(y:D2 fn.ntmps (Po T B)=true)(z:1<=fn.ntmps)(A:fn.results= #[.tmp 2])
  (C:(tab T).kind= .slice) (E:(tab (tab T).elem).ok=true)  (F:(tab (tab T).elem).size=k) (G:0<k) (H:(tab (tab T).elem).bytes<=32768)  {e:α->List D} (I:∀x,(e x).length=k) (xs:List α) (M:0<xs.length) (N:xs.length<=4294967296) {b:Bool}  {nx:Nat}:
  AU P f [.d (.sl (xs.map e)) b] hp nx fun v a d=>v= .so (nx+3) 1 0 xs.length/\a=upd (nx+3) (some (.rw (xs.map e) k 1 (b&& !(KK (xs.map e))) false)) hp/\d=nx+7:=by
 subst F;obtain⟨x,r,rfl⟩:∃x r,xs=x::r:=by cases xs with |nil=>simp at M |cons x r=>exact⟨x,r,rfl⟩
 have h:=vc (x:=e x) (es:=r.map e) (b:=b) (hp:=hp) (nx:=nx) l o p t w y z A C E G H (by simp[I]) (by simp at N⊢;omega);refine h.mono ?_;rintro v a d ⟨O,S,U⟩;exact⟨by simpa using S,U,O⟩
theorem ve {nx:Nat}{o:AO}{R:AV->Hp->Nat->Prop}(a:hp id=some o)(h:AU P f vs (upd id (some o) hp) nx R):AU P f vs hp nx R:=by
 rwa [Fv a] at h
end
end
section
section
theorem vg:J7 []=some []:=rfl
theorem vh (x:Value)(r:List AV):J7 (.v x::r)=(J7 r).map (x:: ·):=rfl
theorem vj (k:TK)(x y:Value):EH [k] [x] [y]=Gf k x y:=by
 show(match Gf k x y,some true with |some b,some c=>some (b&&c) |_,_=>none)=_
 cases Gf k x y<;>simp
theorem vm (k a:TK)(d:List TK)(x x2 y e:Value)(xs h:List Value):EH (k::a::d) (x::x2::xs) (y::e::h)=match Gf k x y,EH (a::d) (x2::xs) (e::h) with |some b,some c=>some (b&&c) |_,_=>none:=rfl
theorem vn (a b:ByteArray):Gf .string (.string a) (.string b)=some (a==b):=rfl
attribute [go_sem] vg vh vj vm vn
end
end
section
open Go.RowKit
def Mz:AV->Bool
 | .ag _=>true
 | .d (.ag _) _=>true
 |_=>false
def Hl:AV->List AV
 | .ag a=>a
 | .d (.ag a) b=>a.map (CE b)
 |x=>[x]
inductive Cy (hp:Hp) (b:Bool):AV->D->Prop
 |one {x:AV} {d:D} {b':Bool} {is:List Nat} (h:Ce hp x=some (d,b',is)) (hb:b'=true->b=true):Cy hp b x d
 |pt {id off:Nat} {cs:List AV} {ds:List D} (h:hp id=some (.bx cs)) (hl:ds.length=cs.length) (hc:∀(j:Nat) (x:AV) (d:D),cs[j]? =some x->ds[j]? =some d->Cy hp b x d):Cy hp b (.pt id off) (.pt ds off)
 |mo {id:Nat} {es:List (Value × AV)} {dl:Bool} {ms:List (Value × Bool × List D)} (h:hp id=some (.mo es dl)) (hl:ms.length=es.length)
   (hk:∀(j:Nat) (k:Value) (v:AV) (k':Value) (ag:Bool) (ds:List D),es[j]? =some (k,v)->ms[j]? =some (k',ag,ds)->k'=k/\ag=Mz v/\ds.length=(Hl v).length/\(ag=false->GD v=true))
   (hc:∀(j:Nat) (k:Value) (v:AV) (k':Value) (ag:Bool) (ds:List D) (i:Nat) (x:AV) (d:D),es[j]? =some (k,v)->ms[j]? =some (k',ag,ds)->(Hl v)[i]? =some x->ds[i]? =some d->Cy hp b x d):Cy hp b (.mo id) (.mp ms)
 |rb {x:AV} {ds:List D} {off:Nat} (m:Nat) (h:Cy hp b x (.pt ds off)):Cy hp b x (.pt ((ds.drop off).take m) 0)
section
variable {P:Program}{tab:Nat->TI}{g:Gh}{c:Cf}
theorem vp (h:u.oneCell'=true):u.cells= #[u]:=by
 cases u<;>first |rfl |cases h
theorem lI {v:AV}(a:Mz v=true\/GD v=true)(h:Dk g c v u):u.cells.size=(Hl v).length/\(Mz v=true->∃vs,u= .agg vs)/\(Mz v=false->u.cells= #[u])/\∀(j:Nat) (x:AV),(Hl v)[j]? =some x->∃y,u.cells[j]? =some y/\RA g c x y:=by
 have A:∀ {v:AV},RA g c v u->u.cells.size= [v].length/\(u.cells= #[u])/\∀(j:Nat) (x:AV),[v][j]? =some x->∃y,u.cells[j]? =some y/\RA g c x y:=fun{v} h=>by
  have p:=vp h.one;refine⟨by rw[p];rfl,p,fun j x l=> ?_⟩;cases j with |zero=>cases l;exact⟨u,by rw[p];rfl,h⟩ |succ j=>simp at l
 have e:∀ {v:AV},Mz v=false->Hl v= [v]->RA g c v u->u.cells.size=(Hl v).length/\(Mz v=true->∃vs,u= .agg vs)/\(Mz v=false->u.cells= #[u])/\∀(j:Nat) (x:AV),(Hl v)[j]? =some x->∃y,u.cells[j]? =some y/\RA g c x y:=fun{v} p t w=>by
  have⟨C,E,F⟩:=A w;rw[t];exact⟨C,fun h=>by rw[p] at h;(cases h),fun _=>E,F⟩
 cases v with
 |ag z=>
  obtain⟨vs,rfl,t,w⟩:=h;exact⟨t,fun _=>⟨vs,rfl⟩,fun h=>(by cases h),w⟩
 |d x b=>
  cases x with
  |ag z=>
   obtain⟨vs,rfl,t,w⟩:=h;refine⟨by show vs.size=(z.map (CE b)).length;rw[LE];exact t,fun _=>⟨vs,rfl⟩,fun h=>(by cases h),fun j x l=> ?_⟩;simp only[Hl] at l;rw[Lp,La] at l;obtain⟨d,G,rfl⟩:=l;have⟨y,H,I⟩:=w j d G;exact⟨y,H,RC.toRA I⟩
  |tu z=>rcases a with a |a<;>cases a
  |v x=>exact e rfl rfl h
  |sl x=>exact e rfl rfl h
  |pt x o=>exact e rfl rfl h
  |mp x=>exact e rfl rfl h
 |tu z=>rcases a with a |a<;>cases a
 |un=>rcases a with a |a<;>cases a
 |v x=>exact e rfl rfl h
 |pt i o=>exact e rfl rfl h
 |pr i v k o=>exact e rfl rfl h
 |so i v o n=>exact e rfl rfl h
 |mo i=>exact e rfl rfl h
 |fn f z=>exact e rfl rfl h
theorem Cy.ok (hr:HR g c)(hhp:c.hp=hp){b:Bool}{x:AV}{d:D}(h:Cy hp b x d)(hu:RA g c x u)(I:Nat->Prop)(hI:∀k,Im g c b k->I k)(hO:∀i o,hp i=some o->I (c.φ i)):RC c.w I d u:=by
 induction h generalizing u with
 | @one x d b' is h hb=>
  refine U6 hr hhp hu h I (fun k hk=>hI k ?_) fun i hi=> ?_
  ·cases b' with
   |true=>rw[hb rfl];exact hk
   |false=>cases b with |true=>exact hk.weak |false=>exact hk
  ·obtain⟨es,sz,v,fz,h4⟩:=U8 h i hi;exact hO i _ h4
 | @pt id off cs ds h hl hc ih=>
  cases hu with
  |pt _ _ hn ho=>
   have h':=h;rw[<-hhp] at h';obtain⟨T,vs,h1,h2,h3⟩:=hr.obj id _ h';have key:RC c.w I (.pt ds off) (.pointer (some ⟨c.φ id,0+off,none⟩)):=by
    refine RC.pt ds off (c.φ id) 0 (fun j=>vs.getD j undef) (hO id _ h) (fun j d hj=> ?_) fun j d hj=> ?_
    ·have hlt:j<vs.size:=by
      have:=(Lb.1 hj).1;omega
     simp[World.cell?,h1,Array.getD,hlt]
    have hlt:j<cs.length:=by
     have:=(Lb.1 hj).1;omega
    obtain⟨y,k1,k2⟩:=h3 j cs[j] (by simp[hlt])
    have:=ih j cs[j] d (by simp[hlt]) hj k2;rwa [LI,k1]
   rwa [NE] at key
 | @mo id es dl ms h hl hk hc ih=>
  cases hu with
  |mo _ hn ho=>
   have h':=h;rw[<-hhp] at h';obtain⟨en,k,h1,h2,_,h3⟩:=hr.obj id _ h';have at_:∀ {j:Nat} {p:Value × Bool × List D},ms[j]? =some p->∃k v,es[j]? =some (k,v):=fun{j p} hj=>by
    have:=(Lb.1 hj).1;exact⟨_,_,Le (by omega)⟩
   have val:∀ {j:Nat} {k0:Value} {v:AV} {k':Value} {ag:Bool} {ds:List D} {e:MapEntry},es[j]? =some (k0,v)->ms[j]? =some (k',ag,ds)->en[j]? =some e->e.key=k0/\Dk g c v e.val:=fun{j k0 v k' ag ds e} q1 _ q3=>by
    obtain⟨e',g1,g2,g3⟩:=h3 j k0 v q1;rw[q3] at g1;cases g1;exact⟨g2,g3⟩
   refine RC.mp ms (c.φ id) en k (hO id _ h) h1 (by omega) (fun j x ag ds e q1 q2=> ?_) fun j i x ag ds e d u q1 q2 q3 q4=> ?_
   ·obtain⟨k0,v,q3⟩:=at_ q1;obtain⟨r1,r2,r3,r4⟩:=hk j k0 v x ag ds q3 q1;obtain⟨s1,s2⟩:=val q3 q1 q2;have hv:Mz v=true\/GD v=true:=by
     cases ag with |true=>exact .inl r2.symm |false=>exact .inr (r4 rfl)
    obtain⟨t1,t2,t3,_⟩:=lI hv s2;exact⟨s1.trans r1.symm,by omega,fun e=>t2 (by rw[<-r2,e]),fun e=>t3 (by rw[<-r2,e])⟩
   ·obtain⟨k0,v,q5⟩:=at_ q1;obtain⟨r1,r2,r3,r4⟩:=hk j k0 v x ag ds q5 q1;obtain⟨s1,s2⟩:=val q5 q1 q2;have hv:Mz v=true\/GD v=true:=by
     cases ag with |true=>exact .inl r2.symm |false=>exact .inr (r4 rfl)
    obtain⟨_,_,_,t4⟩:=lI hv s2;have hlt:i<(Hl v).length:=by
     have:=(Lb.1 q3).1;omega
    obtain⟨y,t5,t6⟩:=t4 i (Hl v)[i] (by simp[hlt]);rw[t5] at q4;cases q4;exact ih j k0 v x ag ds i _ d q5 q1 (by simp[hlt]) q3 t6
 | @rb x ds off m h ih=>
  have h1:=ih hu;cases h1 with
  |pt _ _ bl o us hI hm hd=>
   have at_:∀ {j:Nat} {d:D},((ds.drop off).take m)[j]? =some d->ds[off+j]? =some d:=fun{j d} hj=>by
    rw[Nq] at hj;split at hj
    ·rwa [NV] at hj
    cases hj
   have key:RC c.w I (.pt ((ds.drop off).take m) 0) (.pointer (some ⟨bl,(o+off)+0,none⟩)):=
    RC.pt _ 0 bl (o+off) (fun j=>us (off+j)) hI (fun j d hj=>by rw[Ny];exact hm _ d (at_ hj)) fun j d hj=>hd _ d (at_ hj)
   exact key
inductive Ck (hp:Hp) (b:Bool):AV->D->Prop
 |one {x:AV} {d:D} (h:Cy hp b x d) (hx:GD x=true):Ck hp b x d
 |ag {cs:List AV} {ds:List D} (hl:ds.length=cs.length) (hc:∀(j:Nat) (x:AV) (d:D),cs[j]? =some x->ds[j]? =some d->Cy hp b x d):Ck hp b (.ag cs) (.ag ds)
 |dag {cs:List D} {b':Bool} (hb:b'=true->b=true\/J0 cs=true):Ck hp b (.d (.ag cs) b') (.ag cs)
def PW {α a:Type}(R:α->a->Prop)(xs:List α)(ds:List a):Prop:=ds.length=xs.length/\∀(j:Nat) (x:α) (d:a),xs[j]? =some x->ds[j]? =some d->R x d
theorem PW.nil {a:Type}{R:α->a->Prop}:PW R [] []:=⟨rfl,fun j x d h=>by simp at h⟩
theorem PW.cons {a:Type}{R:α->a->Prop}{x:α}{d:a}{xs:List α}{ds:List a}(h:R x d)(p:PW R xs ds):PW R (x::xs) (d::ds):=⟨by simp[p.1],fun j y e l o=>by
 cases j with
 |zero=>simp at l o;subst l;subst o;exact h
 |succ j=>exact p.2 j y e (by simpa using l) (by simpa using o)⟩
theorem Cy.place {b:Bool}{a:Nat}{cs:List AV}(h:hp id=some (.bx cs))(d:PW (Cy hp b) cs ds):Cy hp b (.pt id a) (.pt ds a):=.pt h d.1 d.2
theorem Cy.rbE {b:Bool}{x:AV}{es:List D}{a:Nat}(m:Nat)(h:Cy hp b x (.pt ds a))(d:(ds.drop a).take m=es):Cy hp b x (.pt es 0):=d▸Cy.rb m h
theorem Dj.of {w:World}{I:Nat->Prop}{d:D}(h:RC w I d u):Dj w I d u:=by
 cases d<;>first |exact h |cases h
theorem RV.of {w:World}{I:Nat->Prop}{d:D}(h:Dj w I d u)(a:∀ds,d≠ .tu ds):RV w I d u:=by
 cases d with
 |tu ds=>exact absurd rfl (a ds)
 |_=>exact h
theorem Ck.agP {b:Bool}{cs:List AV}(a:PW (Cy hp b) cs ds):Ck hp b (.ag cs) (.ag ds):=.ag a.1 a.2
theorem Ck.ok (hr:HR g c)(hhp:c.hp=hp){b:Bool}{x:AV}{d:D}(h:Ck hp b x d)(hu:Au g c x u)(I:Nat->Prop)(hI:∀k,Im g c b k->I k)(hO:∀i o,hp i=some o->I (c.φ i)):Dj c.w I d u/\∀ds,d≠ .tu ds:=by
 cases h with
 |one h hx=>
  have h1:=h.ok hr hhp (jU hx hu) I hI hO;exact⟨Dj.of h1,fun ds e=>by subst e;cases h1⟩
 |ag hl hc=>
  obtain⟨vs,rfl,h2,h3⟩:=hu;rename_i cs ds;refine⟨⟨vs,rfl,by omega,fun j d hj=> ?_⟩,fun _ e=>by cases e⟩;have hlt:j<cs.length:=by
   have:=(Lb.1 hj).1;omega
  obtain⟨y,h4,h5⟩:=h3 j cs[j] (by simp[hlt]);exact⟨y,h4,(hc j cs[j] d (by simp[hlt]) hj).ok hr hhp h5 I hI hO⟩
 | @dag cs b' hb=>
  obtain⟨vs,rfl,h2,h3⟩:=hu;refine⟨⟨vs,rfl,h2,fun j d hj=> ?_⟩,fun _ e=>by cases e⟩;obtain⟨y,h4,h5⟩:=h3 j d hj;refine⟨y,h4,?_⟩;cases b' with
  |false=>exact h5.mono (fun _ _=>rfl) fun k hk=>hI k (by cases b with |true=>exact hk.weak |false=>exact hk)
  |true=>
   rcases hb rfl with hb |hb
   ·subst hb;exact h5.mono (fun _ _=>rfl) hI
   exact RC.plain (by simp only[J0,LP] at hb;exact hb d (Lz hj)) h5
inductive Gq (hp:Hp) (b:Bool):AV->D->Prop
 |val {x:AV} {d:D} (h:Ck hp b x d):Gq hp b x d
 |tu {cs:List AV} {ds:List D} (hc:PW (Ck hp b) cs ds):Gq hp b (.tu cs) (.tu ds)
theorem Gq.ok (hr:HR g c)(hhp:c.hp=hp){b:Bool}{x:AV}{d:D}(h:Gq hp b x d)(hu:Au g c x u)(I:Nat->Prop)(hI:∀k,Im g c b k->I k)(hO:∀i o,hp i=some o->I (c.φ i)):RV c.w I d u:=by
 cases h with
 |val h=>
  obtain⟨h1,h2⟩:=h.ok hr hhp hu I hI hO;exact RV.of h1 h2
 | @tu cs ds hc=>
  obtain⟨vs,rfl,h2,h3⟩:=hu;have hl:=hc.1;refine⟨vs,rfl,by omega,fun j d hj=> ?_⟩;have hlt:j<cs.length:=by
   have:=(Lb.1 hj).1;omega
  obtain⟨y,h4,h5⟩:=h3 j cs[j] (by simp[hlt]);exact⟨y,h4,((hc.2 j cs[j] d (by simp[hlt]) hj).ok hr hhp h5.toAt I hI hO).1⟩
def M1 (d:D)(fr:Bool)(v:AV)(hp':Hp)(a:Nat):Prop:=∃b,Gq hp' b v d/\(fr=true->b=false)
theorem Pw {rs:Array ResultVar}{s:St}{v:AV}{d:D}{b:Bool}(a:EJ tab rs s=some v)(e:Gq s.hp b v d)(h:fr=true->b=false):Dd tab rs (M1 d fr) .ret s:=KY a ⟨b,e,h⟩
theorem vq {d:D}(h:AU P f (as.map DA.av) AM 0 (M1 d fr)):CO P f as d fr:=by
 refine⟨h.1,fun w p I M N O=> ?_⟩;have S:HR ⟨w.heap.size,p,w.heap.size⟩ ⟨AM,fun _=>0,w,fun _=>False⟩:=⟨Lc _,M,fun _ _ h=>by simp[AM] at h,fun _ _ _ _ h=>by simp[AM] at h,fun _ _ h=>by simp[AM] at h⟩;have F:∀k,(k<w.heap.size/\¬p k)->Im ⟨w.heap.size,p,w.heap.size⟩ ⟨AM,fun _=>0,w,fun _=>False⟩ true k:=fun k a=>⟨a.1,a.2,fun _ _ h=>by simp[AM] at h,by simp⟩;refine(h.2 ⟨w.heap.size,p,w.heap.size⟩ ⟨AM,fun _=>0,w,fun _=>False⟩ I rfl (fun _ h=>h.elim) S (by simpa using N) (fun j x z=> ?_)).mono fun e w' ⟨u,v,T,aa,C,⟨b,E,A⟩,l,t,G,U,_,_⟩=> ?_
 ·rw[Lp,La] at z;obtain⟨x,C,rfl⟩:=z;have⟨u,E,A⟩:=O j x C;refine⟨u,E,?_⟩;cases x with
  |d d=>
   have l:Dj w (Im ⟨w.heap.size,p,w.heap.size⟩ ⟨AM,fun _=>0,w,fun _=>False⟩ true) d u:=Dj.mono (fun _ _=>rfl) F A;show Au _ _ (CE true d) u;cases d with
   |ag X=>exact l
   |tu X=>cases l
   |v x=>exact(RC.toRA (c:=⟨AM,fun _=>0,w,fun _=>False⟩) l).toAt
   |sl x=>exact(RC.toRA (c:=⟨AM,fun _=>0,w,fun _=>False⟩) l).toAt
   |pt x y=>exact(RC.toRA (c:=⟨AM,fun _=>0,w,fun _=>False⟩) l).toAt
   |mp x=>exact(RC.toRA (c:=⟨AM,fun _=>0,w,fun _=>False⟩) l).toAt
  |fn f caps=>
   obtain⟨Y,n,Z,rfl,e3⟩:=A;show RA _ _ (.fn f (caps.map (CE true))) _;refine .fn f _ Y n (by simpa using Z) fun j x z=> ?_;rw[Lp,La] at z;obtain⟨y,e4,rfl⟩:=z;exact RC.toRA (c:=⟨AM,fun _=>0,w,fun _=>False⟩) ((e3 j y e4).mono (fun _ _=>rfl) F)
 subst l;refine⟨u,C,⟨⟨t.os,t.tape,t.output,t.size,fun k a=>t.block k a fun id o ho=>by simp[AM] at ho⟩,t.drawn⟩,?_⟩;refine E.ok G rfl U (fun k=>k<T.w.heap.size/\¬p k/\(fr=true->w.heap.size<=k)) (fun k a=>⟨a.1,a.2.1,fun hf=>a.2.2.2 (A hf)⟩) fun i o hi=> ?_;have⟨_,H,g2⟩:=G.dom i _ hi;exact⟨g2,H.2,fun _=>H.1⟩
theorem AI.of_A {d:D}(h:CO P f (ds.map .d) d fr):AI P f ds d fr:=
 ⟨h.1,fun w e l o p t=>h.2 w e l o (by simpa using p) fun j x a=>by
  rw[Lp,La] at a;obtain⟨y,v,rfl⟩:=a;exact t j y v⟩
theorem vt (l:Ad P tab){fn:Func}{a:Code}(o:P.funcs[f]? =some fn)(p:fn.body=some a)(t:(fn.name== "runtime.NumGoroutine")=false)(v:D2 fn.ntmps a=true){d:D}{e:Bool}
  (w:as.length<=fn.ntmps) (h:CQ 0 P [.c a] (Dd tab fn.results (M1 d e)) ⟨Dw (as.map DA.av),AM,0⟩):CO P f as d e:=
 vq (cg l o p t v (by simpa using w) h)
inductive Dq (hp:Hp) (b:Bool):AV->DA->Prop
 |d {x:AV} {d:D} (h:Ck hp b x d):Dq hp b x (.d d)
 |fn {f:FuncId} {caps:List AV} {ds:List D} (h:PW (Cy hp b) caps ds):Dq hp b (.fn f caps) (.fn f ds)
theorem Dq.ok (a:HR g c)(e:c.hp=hp){b:Bool}{x:AV}{d:DA}(h:Dq hp b x d)(l:Au g c x u)(I:Nat->Prop)(p:∀k,Im g c b k->I k)(t:∀i o,hp i=some o->I (c.φ i)):V4 c.w I d u:=by
 cases h with
 |d h=>exact(h.ok a e l I p t).1
 | @fn f caps ds h=>
  cases(show RA g c (.fn f caps) u from l) with
  |fn _ _ y n A z=>
   have C:=h.1;refine⟨y,n,by omega,rfl,fun j x v=> ?_⟩;have w:j<caps.length:=by
    have:=(Lb.1 v).1;omega
   exact(h.2 j caps[j] x (by simp[w]) v).ok a e (z j caps[j] (by simp[w])) I p t
theorem lJ {nx:Nat}{b:Bool}{d:D}(G:PW (Dq hp b) vs as)(hp0:CO P f as d true):
  AU P f vs hp nx fun O S T=>O=CE false d/\S=hp/\T=nx:=by
 refine⟨hp0.1,fun g c U A ab a ad X=> ?_⟩;have⟨_,hp0⟩:=hp0;have hl:=G.1;refine(hp0 c.w (fun _=>False) U (fun _ h=>h.elim) (by omega) (fun j x H=> ?_)).mono fun e t ⟨u,z,⟨l,Y⟩,hv⟩=> ?_
 ·have I:j<vs.length:=by
   have:=(Lb.1 H).1;omega
  have⟨u,C,E⟩:=X j vs[j] (by simp[I]);exact⟨u,C,(G.2 j vs[j] x (by simp[I]) H).ok a A E (fun k=>k<c.w.heap.size/\¬False) (fun k w=>⟨w.1,fun h=>h⟩) fun i o hi=>⟨(a.dom i _ (A▸hi)).2.2,fun h=>h⟩⟩
 subst z;have z:CP c ⟨c.hp,c.φ,t,c.kn⟩:=⟨l.os,l.tape,l.output,l.size,fun _ h=>h,fun k w _=>l.block k w,fun id o p hf=>.inr ⟨o,p,hf,rfl⟩,fun _ _ h=>⟨rfl,h⟩,
  fun id F _ v br fz w M=>⟨F,v,br,fz,M,Lc _,fun _=>⟨rfl,rfl,fun Z _ e=>⟨Z,(l.block _ (a.dom id _ M).2.2).trans e,rfl⟩⟩⟩,Y⟩
 have aa:HR g ⟨c.hp,c.φ,t,c.kn⟩:=⟨Lv a.le l.size,fun k w=>LF (a.m0 k w) l.size,fun id o p=>⟨(a.dom id o p).1,(a.dom id o p).2.1,LF (a.dom id o p).2.2 l.size⟩,a.inj,fun id o p=>(a.obj id o p).ext z rfl (l.block _ (a.dom id o p).2.2)⟩;refine⟨u,_,⟨c.hp,c.φ,t,c.kn⟩,nx,rfl,⟨rfl,A,rfl⟩,rfl,z,aa,?_,Lc _,fun i h=>.inl h⟩;have y:RV t (Im g ⟨c.hp,c.φ,t,c.kn⟩ false) d u:=hv.mono (fun _ _=>rfl) fun k w=>by
  have⟨C,_,E⟩:=w;have h3:=E rfl;refine⟨C,fun hm=> ?_,fun id o p _ e=> ?_,fun _=>Lv a.le h3⟩
  ·have:=a.m0 k hm
   have:=a.le;omega
  have:=(a.dom id o p).2.2;simp only at e;omega
 cases d with
 |v x=>exact(RC.toRA (c:=⟨c.hp,c.φ,t,c.kn⟩) y).toAt
 |sl F=>exact(RC.toRA (c:=⟨c.hp,c.φ,t,c.kn⟩) y).toAt
 |pt N ak=>exact(RC.toRA (c:=⟨c.hp,c.φ,t,c.kn⟩) y).toAt
 |mp F=>exact(RC.toRA (c:=⟨c.hp,c.φ,t,c.kn⟩) y).toAt
 |ag N=>exact y
 |tu N=>exact y
section
variable {ops:Array Oper}{nx0 nx i:Nat}{k:List It}{Q:Ex->St->Prop}{r:List Oper}{s:St}{dst:Option Nat}{acc:List Cx}{fr:Fr}{hp:Hp}{ids:List Nat}
theorem vu {g:FuncId}{b:Bool}{d:D}(a:PW (Dq s.hp b) (vs++caps) as)(e:CO P g as d true)(h:Rt P tab ops nx0 k Q i r ⟨CJ dst (CE false d) s.fr,s.hp,s.nx⟩):
  Ms P tab ops nx0 k Q i r dst s (.fn g caps) vs:=CR ((lJ a e).mono fun o p t l=>by
 obtain⟨rfl,rfl,rfl⟩:=l;exact h)
theorem Y0 {g:FuncId}{b:Bool}{d:D}(ids':List Nat)(e:∀a:Hp,(∀i∈ids',a i=hp i)->PW (Dq a b) (vs++caps) as)(l:CO P g as d true)(h:Rd P tab ops nx0 nx k Q i r (⟨ids',[],true⟩::acc) (CJ dst (CE false d) fr) hp):
  Pk P tab ops nx0 nx k Q i r dst acc ids fr hp (.fn g caps) vs:=
 RR (ids':=ids') (v:=CE false d) (δ:=[]) (nx':=nx) (fun a o=>(lJ (e a o.1) l).mono fun _ _ _ ⟨p,t,w⟩=>⟨p,t,w⟩) h
end
end
end
section
open Go.RowKit
instance baLawful:LawfulBEq ByteArray where
 eq_of_beq {a b} h:=by
  cases a;cases b;have h':ByteArray.beq _ _=true:=h;unfold ByteArray.beq at h';simpa using h'
 rfl {a}:=by
  show ByteArray.beq a a=true;unfold ByteArray.beq;simp
def CK {K α:Type}(f:α->List D)(sz B:Nat)(vs:Nat->Nat)(es:List (K × List α))(hp:Hp):Hp:=fun i=>bif Nat.ble B i&&Nat.blt i (B+4294967296) then(es[i-B]?).map fun p=>AO.rw (p.2.map f) sz (vs (i-B)) false false else hp i
noncomputable def Cs (B j:Nat):Nat:=Classical.choose (⟨j+B,rfl⟩:∃x,x=j+B)
theorem D4 (B j:Nat):Cs B j=j+B:=OX (⟨j+B,rfl⟩:∃x,x=j+B)
theorem Ri {B c:Nat}(h:c<B):(Cs B j=c)=False:=eq_false (by rw[D4];omega)
theorem WA {B c:Nat}(h:c<B):(c=Cs B j)=False:=eq_false (by rw[D4];omega)
theorem Rj {B c:Nat}(a:j<4294967296)(h:B+4294967296<=c):(Cs B j=c)=False:=eq_false (by rw[D4];omega)
theorem vv {B c:Nat}(a:j<4294967296)(h:B+4294967296<=c):(c=Cs B j)=False:=eq_false (by rw[D4];omega)
noncomputable def DI {K α:Type} (kv:K->Value) (B:Nat) (vs:Nat->Nat):Nat->List (K × List α)->List (Value × AV)
 |_,[]=>[]
 |o,p::r=>(kv p.1,.so (Cs B o) (vs o) 0 p.2.length)::DI kv B vs (o+1) r
noncomputable def CF {K α:Type} (kv:K->Value) (B:Nat) (vs:Nat->Nat) (es:List (K × List α)):List (Value × AV):=DI kv B vs 0 es
section
variable {K α:Type}[BEq K]
def Aw (k:K)(a:List α):List (K × List α)->List (K × List α)
 |[]=>[(k,a)]
 |p::r=>if k==p.1 then(k,p.2++a)::r else p::Aw k a r
def Fj (k:K)(es:List (K × List α)):Bool:=decide (es.length<4294967296)&&decide ((qf_ k [] es).length<4294967296)
theorem Y7 {k:K}{es:List (K × List α)}(h:Fj k es=true):es.length<4294967296/\(qf_ k [] es).length<4294967296:=by
 simpa [Fj] using h
end
section
variable {K α:Type}{kv:K->Value}{B:Nat}{vs:Nat->Nat}{f:α->List D}{sz:Nat}
theorem lK:∀(a:List (K × List α)) (o j:Nat),(DI kv B vs o a)[j]? =(a[j]?).map fun p=>(kv p.1,AV.so (Cs B (o+j)) (vs (o+j)) 0 p.2.length)
 |[],o,j=>by simp[DI]
 |p::r,o,j=>by
  cases j with |zero=>simp[DI] |succ j=>simp[DI,lK r (o+1) j,Ny,BT 1 j]
theorem WB (es:List (K × List α))(j:Nat):(CF kv B vs es)[j]? =(es[j]?).map fun p=>(kv p.1,AV.so (Cs B j) (vs j) 0 p.2.length):=by
 rw[CF,lK];simp
theorem vw (es:List (K × List α)):(CF kv B vs es).length=es.length:=by
 have:∀(es:List (K × List α)) o,(DI kv B vs o es).length=es.length:=by
  intro es;induction es with |nil=>intro o;rfl |cons p r a=>intro o;simp[DI,a]
 exact this es 0
theorem KD {es:List (K × List α)}{p:K × List α}(h:es[j]? =some p)(d:j<4294967296):CK f sz B vs es hp (Cs B j)=some (.rw (p.2.map f) sz (vs j) false false):=by
 rw[D4];unfold CK;have a:(Nat.ble B (j+B)&&Nat.blt (j+B) (B+4294967296))=true:=by simp;omega
 rw[a];simp[h]
theorem ct {es:List (K × List α)}(h:i<B\/B+4294967296<=i):CK f sz B vs es hp i=hp i:=by
 unfold CK;have a:(Nat.ble B i&&Nat.blt i (B+4294967296))=false:=by
  cases d:(Nat.ble B i&&Nat.blt i (B+4294967296)) with
  |false=>rfl
  |true=>
   simp only[Ln,By,NY] at d;omega
 rw[a];rfl
theorem vz {es:List (K × List α)}{x:Option AO}(h:i<B\/B+4294967296<=i):upd i x (CK f sz B vs es hp)=CK f sz B vs es (upd i x hp):=by
 funext k;by_cases e:k=i
 ·subst e;rw[ct h];simp[upd]
 unfold CK;simp[upd,e]
theorem wA {α:Type}{x y:α}{g:Nat->α}(h:i≠j):upd i x (upd j y g)=upd j y (upd i x g):=by
 funext k;unfold upd;by_cases a:k=i
 ·subst a;simp[h]
 simp[a]
def C4 (j v:Nat)(vs:Nat->Nat):Nat->Nat:=fun i=>if i=j then v else vs i
theorem Y8 {es:List (K × List α)}{v:Nat}{p q:K × List α}(h:es[j]? =some p)(d:j<4294967296):upd (Cs B j) (some (.rw (q.2.map f) sz v false false)) (CK f sz B vs es hp)=CK f sz B (C4 j v vs) (es.set j q) hp:=by
 have l:=(Lb.1 h).1;funext i;by_cases e:i=Cs B j
 ·subst e;rw[KD (p:=q) (by simp[l]) d];simp[upd,C4]
 have o:upd (Cs B j) (some (AO.rw (q.2.map f) sz v false false)) (CK f sz B vs es hp) i=CK f sz B vs es hp i:=by simp[upd,e]
 rw[o];unfold CK;cases t:(Nat.ble B i&&Nat.blt i (B+4294967296)) with
 |false=>rfl
 |true=>
  simp only[Ln,By,NY] at t;rw[D4] at e;have a:i-B≠j:=by omega
  simp[Ne.symm a,C4,a]
theorem lL:∀(e:List (K × List α)) (o j v:Nat) (q:K × List α),j<e.length->(DI kv B vs o e).set j (kv q.1,.so (Cs B (o+j)) v 0 q.2.length)=DI kv B (C4 (o+j) v vs) o (e.set j q)
 |[],_,_,_,_,h=>by simp at h
 |p::r,o,0,v,q,_=>by
  have:∀(r:List (K × List α)) (a:Nat),o<a->DI kv B vs a r=DI kv B (C4 o v vs) a r:=by
   intro r;induction r with |nil=>intro _ _;rfl |cons p r d=>intro a h;simp[DI,d (a+1) (by omega),C4,show a≠o by omega]
  simp[DI,C4,this r (o+1) (by omega)]
 |p::r,o,j+1,v,q,h=>by
  have d:=lL r (o+1) j v q (by simpa using h);rw[show o+1+j=o+(j+1) by omega] at d;simp[DI,d,C4]
theorem Y9 {es:List (K × List α)}{v:Nat}{q:K × List α}(h:j<es.length):(CF kv B vs es).set j (kv q.1,.so (Cs B j) v 0 q.2.length)=CF kv B (C4 j v vs) (es.set j q):=by
 have:=lL (kv:=kv) (B:=B) (vs:=vs) es 0 j v q h;rw[NE] at this;exact this
variable [BEq K][LawfulBEq K]{q:Bool × List TK}
theorem lM (t:FF q kv)(k:K):∀(d:List (K × List α)) (o:Nat),(mget k d=none/\D5 q (kv k) (DI kv B vs o d)=some none/\∀h,Aw k h d=d++[(k,h)])\/
  ∃j l,d[j]? =some (k,l)/\mget k d=some l/\D5 q (kv k) (DI kv B vs o d)=some (some (j,.so (Cs B (o+j)) (vs (o+j)) 0 l.length))/\∀h,Aw k h d=d.set j (k,l++h)
 |[],o=>.inl ⟨rfl,rfl,fun _=>rfl⟩
 |p::r,o=>by
  cases a:(k==p.1) with
  |true=>
   have e:k=p.1:=(by simpa using a);refine .inr ⟨0,p.2,by simp[e],by simp[mget,a],?_,fun h=>by simp[Aw,a]⟩;simp[DI,D5,t k p.1,a]
  |false=>
   rcases lM t k r (o+1) with⟨w,y,v⟩ |⟨j,l,w,y,v,z⟩
   ·refine .inl ⟨by simp[mget,a,w],?_,fun h=>by simp[Aw,a,v]⟩;simp[DI,D5,t k p.1,a,y]
   refine .inr ⟨j+1,l,by simpa using w,by simp[mget,a,y],?_,fun h=>by simp[Aw,a,z]⟩;rw[show o+1+j=o+(j+1) by omega] at v;simp[DI,D5,t k p.1,a,v]
theorem ZA (e:FF q kv)(k:K)(es:List (K × List α)):(mget k es=none/\D5 q (kv k) (CF kv B vs es)=some none/\∀a,Aw k a es=es++[(k,a)])\/
  ∃j d,es[j]? =some (k,d)/\mget k es=some d/\D5 q (kv k) (CF kv B vs es)=some (some (j,.so (Cs B j) (vs j) 0 d.length))/\∀a,Aw k a es=es.set j (k,d++a):=by
 have:=lM (kv:=kv) (B:=B) (vs:=vs) e k es 0;simp only[NE] at this;exact this
end
section
variable {q:Bool × List TK}
theorem Px {es:List (Value × AV)}(h:D5 q x es=some none)(z:AV)(ok:Bool):En q x z ok es=some (if ok then .tu [z,.v (.bool false)] else z,[]):=by
 unfold En;rw[h]
theorem Py {es:List (Value × AV)}{v:AV}(h:D5 q x es=some (some (j,v)))(z:AV)(ok:Bool):En q x z ok es=some (if ok then .tu [v,.v (.bool true)] else v,[]):=by
 unfold En;rw[h]
theorem Pz {es:List (Value × AV)}(h:D5 q x es=some none)(v:AV):Ec q x v es=some (es++[(x,v)]):=by
 unfold Ec;rw[h]
theorem P0 {es:List (Value × AV)}{w:AV}(h:D5 q x es=some (some (j,w)))(v:AV):Ec q x v es=some (es.set j (x,v)):=by
 unfold Ec;rw[h]
theorem lN {es:List (Value × AV)}(a:Value × AV):(es++[a])[es.length]? =some a:=by simp
theorem lO {es:List (Value × AV)}(a b:Value × AV):(es++[a]).set es.length b=es++[b]:=by simp
theorem M2 {es:List (Value × AV)}{c:Value × AV}(h:es[j]? =some c)(a:Value × AV):(es.set j a)[j]? =some a:=by
 have:=(Lb.1 h).1;simp[this]
end
section
variable {K α:Type}{kv:K->Value}{B:Nat}{vs:Nat->Nat}{f:α->List D}{sz:Nat}
def Kc (rs:List Nat)(i:Nat):Bool:=rs.any fun B=>Nat.ble B i&&Nat.blt i (B+4294967296)
def Ez (n:Nat)(JR:Option (Nat × Nat))(rs:List Nat)(L:List (Nat × Nat))(i:Nat):Option Nat:=
 bif Nat.blt i n then some i else bif Kc rs i then(match JR with |some (J,R)=>if i=J then some R else some i |none=>some i) else match L.find? (fun p=>Nat.beq p.1 i) with
  |some p=>some p.2
  |none=>none
def cu (n N R:Nat)(rs:List Nat)(L:List (Nat × Nat)):Bool:=Nat.ble n N&&T6 n N L&&L.all (fun p=> !Kc rs p.2&& !Nat.beq p.2 R)&&rs.all (fun B=>Nat.ble n B&&Nat.ble (B+4294967296) N)&&Nat.ble n R&& !Kc rs R
theorem wB (h:Kc rs i=true):∃B∈rs,B<=i/\i<B+4294967296:=by
 unfold Kc at h;rw[Nh] at h;have⟨B,d,a⟩:=h;simp only[Ln,By,NY] at a;exact⟨B,d,a⟩
theorem wC {N nx:Nat}{H fr:Fr}{hp':Hp}(JR:Option (Nat × Nat))(hJ:∀J z,JR=some (J,z)->z=R)(rs:List Nat)(L:List (Nat × Nat))(Y:cu n N R rs L=true)(I:∀t,H t= .un\/CY (Ez n JR rs L) (H t)=some (fr t))
  (h3:∀i o,hp' i=some o->∃j Z,Ez n JR rs L i=some j/\Cc (Ez n JR rs L) o=some Z/\hp j=some Z):CH n ⟨H,hp',N⟩ ⟨fr,hp,nx⟩:=by
 simp only[cu,Ln,By,LP,NF] at Y;have⟨⟨⟨⟨⟨h0,M⟩,aa⟩,hB⟩,hR⟩,C⟩:=Y;have E:∀i,i<n->Ez n JR rs L i=some i:=fun i l=>by
  unfold Ez;rw[show Nat.blt i n=true by rw[NY];exact l];rfl
 have F:∀i j,n<=i->Ez n JR rs L i=some j->(Kc rs i=true/\(j=i/\(∀J z,JR=some (J,z)->i≠J)\/∃J,JR=some (J,R)/\i=J/\j=R))\/(Kc rs i=false/\(i,j)∈L):=fun i j l h=>by
  unfold Ez at h;have e:Nat.blt i n=false:=by
   cases I:Nat.blt i n with |false=>rfl |true=>rw[NY] at I;omega
  rw[e] at h;simp only[cond_false] at h;cases v:Kc rs i with
  |true=>
   rw[v] at h;simp only[cond_true] at h;refine .inl ⟨rfl,?_⟩;cases JR with
   |none=>simp only[Lf] at h;exact .inl ⟨h.symm,fun _ _ e=>by cases e⟩
   |some p=>
    have⟨J,z⟩:=p
    have:=hJ J z rfl;subst this;simp only at h;split at h
    ·rename_i e;simp only[Lf] at h;exact .inr ⟨J,rfl,e,h.symm⟩
    ·rename_i e;simp only[Lf] at h;exact .inl ⟨h.symm,fun J2 R2 d=>by simp only[Lf,LB] at d;obtain⟨rfl,rfl⟩:=d;exact e⟩
  |false=>
   rw[v] at h;simp only[cond_false] at h;refine .inr ⟨rfl,?_⟩;split at h
   ·rename_i p hp;have⟨A,d⟩:=kZ hp;simp only[Lf] at h;rw[<-d,<-h];exact A
   cases h
 have O:∀i j,n<=i->Ez n JR rs L i=some j->n<=j:=fun i j l h=>by
  rcases F i j l h with⟨_,⟨rfl,_⟩ |⟨J,_,_,rfl⟩⟩ |⟨_,w⟩
  ·exact l
  ·exact hR
  exact(Pp M _ w).2.1
 refine .ren (Ez n JR rs L) ⟨E,fun i j l h=>⟨O i j l h,?_⟩,fun i y j A d=> ?_,I,h3,h0⟩
 ·rcases F i j l h with⟨v,_⟩ |⟨_,w⟩
  ·have⟨B,h5,h6,h7⟩:=wB v
   have:=(hB B h5).2;show i<N;omega
  exact(Pp M _ w).2.2.1
 by_cases l:i<n
 ·rw[E i l] at A;cases A;by_cases S:y<n
  ·rw[E y S] at d;cases d;rfl
  have:=O y i (by omega) d;omega
 by_cases S:y<n
 ·rw[E y S] at d;cases d
  have:=O i y (by omega) A;omega
 have no:∀ {a b j:Nat},Kc rs a=true->(j=a\/j=R)->(b,j)∈L->False:=fun{a b j} ha hj hb=>by
  have:=aa _ hb;simp only at this;rcases hj with rfl |rfl
  ·rw[ha] at this;simp at this
  simp at this
 rcases F i j (by omega) A with⟨v,⟨rfl,n1⟩ |⟨J,q1,rfl,rfl⟩⟩ |⟨v,w⟩<;>rcases F y _ (by omega) d with⟨G,⟨T,n2⟩ |⟨J',U,q4,q5⟩⟩ |⟨G,X⟩
 ·exact T
 ·subst q5;rw[v] at C;cases C
 ·exact(no v (.inl rfl) X).elim
 ·subst T;rw[G] at C;cases C
 ·rw[q1] at U;simp only[Lf,LB,and_true] at U;exact U.trans q4.symm
 ·exact(no v (.inr rfl) X).elim
 ·exact(no G (.inl T) w).elim
 ·subst q5;exact(no G (.inr rfl) w).elim
 exact(Pp M _ X).2.2.2 _ w rfl
theorem ZC {B:Nat}(a:Nat.ble n B=true)(d:B∈rs)(o:j<4294967296):Ez n JR rs L (Cs B j)=match JR with |some (J,R)=>if Cs B j=J then some R else some (Cs B j) |none=>some (Cs B j):=by
 rw[D4];rw[By] at a;unfold Ez;have e:Nat.blt (j+B) n=false:=by
  cases h:Nat.blt (j+B) n with |false=>rfl |true=>rw[NY] at h;omega
 have l:Kc rs (j+B)=true:=by
  unfold Kc;rw[Nh];exact⟨B,d,by simp;omega⟩
 rw[e,l];rfl
theorem Rk {α:Type}{g:Nat->α}{c:Nat}{x y:α}(h:k≠c)(a:g k=y):upd c x g k=y:=by
 unfold upd;rw[if_neg h];exact a
theorem Rl {es:List (K × List α)}{y:Option AO}(h:i<B\/B+4294967296<=i)(a:hp i=y):CK f sz B vs es hp i=y:=by rw[ct h];exact a
theorem lP {es v:List (K × List α)}(w:Nat.ble n B=true)(y:B∈rs)(z:∀J R,JR=some (J,R)->J<B\/B+4294967296<=J)(A:v=es)
  (h:∀j p,es[j]? =some p->j<4294967296->hp (Cs B j)=some (.rw (p.2.map f) sz (vs j) false false)) (C:∀i o,hp0 i=some o->∃j d,Ez n JR rs L i=some j/\Cc (Ez n JR rs L) o=some d/\hp j=some d):
  ∀i o,CK f sz B vs v hp0 i=some o->∃j d,Ez n JR rs L i=some j/\Cc (Ez n JR rs L) o=some d/\hp j=some d:=fun i o a=>by
 subst A;unfold CK at a;cases e:(Nat.ble B i&&Nat.blt i (B+4294967296)) with
 |false=>rw[e] at a;exact C i o a
 |true=>
  rw[e] at a;simp only[cond_true,La] at a;simp only[Ln,By,NY] at e;obtain⟨p,E,rfl⟩:=a;have l:=h (i-B) p E (by omega);have t:=ZC (JR:=JR) (L:=L) w y (show i-B<4294967296 by omega);rw[D4] at l;simp only[D4] at t;rw[show i-B+B=i by omega] at l t;refine⟨i,_,?_,rfl,l⟩;rw[t];cases JR with
  |none=>rfl
  |some q=>
   have⟨J,R⟩:=q
   have:=z J R rfl;simp only;rw[ifn]
theorem wD {es w:List (K × List α)}{k:K}{y:List α}(A:Nat.ble n B=true)(C:B∈rs)(I:es.length<4294967296)(E:w=es++[(k,y)])
  (h:∀j p,es[j]? =some p->j<4294967296->hp (Cs B j)=some (.rw (p.2.map f) sz (vs j) false false)) (F:hp R=some (.rw (y.map f) sz 0 false false)) (G:∀i o,hp0 i=some o->∃j l,Ez n (some (Cs B es.length,R)) rs L i=some j/\Cc (Ez n (some (Cs B es.length,R)) rs L) o=some l/\hp j=some l):
  ∀i o,CK f sz B (C4 es.length 0 vs) w hp0 i=some o->∃j l,Ez n (some (Cs B es.length,R)) rs L i=some j/\Cc (Ez n (some (Cs B es.length,R)) rs L) o=some l/\hp j=some l:=fun i o d=>by
 subst E;unfold CK at d;cases v:(Nat.ble B i&&Nat.blt i (B+4294967296)) with
 |false=>rw[v] at d;exact G i o d
 |true=>
  rw[v] at d;simp only[cond_true,La] at d;simp only[Ln,By,NY] at v;obtain⟨p,t,rfl⟩:=d;have a:=ZC (JR:=some (Cs B es.length,R)) (L:=L) A C (show i-B<4294967296 by omega);simp only[D4] at a;rw[show i-B+B=i by omega] at a;by_cases e:i-B=es.length
  ·rw[ifp] at a;rw[e,Nm (Lc _),BS] at t;cases t;refine⟨R,_,by rw[<-D4] at a;exact a,rfl,?_⟩;rw[F];simp[C4,e]
  rw[ifn] at a;have H:i-B<es.length:=by
   have:=(Lb.1 t).1;rw[Ld,Ll] at this;omega
  rw[NP H] at t;have z:=h (i-B) p t (by omega);rw[D4,show i-B+B=i by omega] at z;refine⟨i,_,by rw[<-D4] at a;exact a,rfl,?_⟩;rw[z];simp[C4,e]
theorem cv {n:Nat}{JR:Option (Nat × Nat)}{rs:List Nat}{L:List (Nat × Nat)}(d:Nat.ble n B=true)(h:B∈rs):∀(a:List (K × List α)) (o:Nat),(∀J R,JR=some (J,R)->J<o+B\/o+a.length+B<=J)->o+a.length<=4294967296->Et (Ez n JR rs L) (DI kv B vs o a)=some (DI kv B vs o a)
 |[],o,_,_=>rfl
 |p::r,o,l,t=>by
  have v:=cv d h (JR:=JR) (L:=L) r (o+1) (fun J R e=>by have:=l J R e;simp only[Lh] at this;omega) (by simp only[Lh] at t;omega);have w:=ZC (JR:=JR) (L:=L) d h (show o<4294967296 by simp only[Lh] at t;omega);have y:Ez n JR rs L (Cs B o)=some (Cs B o):=by
   rw[w];cases JR with
   |none=>rfl
   |some q=>
    have⟨J,R⟩:=q
    have:=l J R rfl;simp only[Lh] at this;simp only;rw[if_neg (by rw[D4];omega)]
  simp only[DI,Et,CY,y,v,LQ]
theorem lQ {es a:List (K × List α)}(d:Nat.ble n B=true)(h:B∈rs)(l:∀J R,JR=some (J,R)->J<B\/B+4294967296<=J)(p:es.length<=4294967296)(o:a=es):Cc (Ez n JR rs L) (.mo (CF kv B vs a) dl)=some (.mo (CF kv B vs es) dl):=by
 subst o
 have:=cv (kv:=kv) (vs:=vs) (JR:=JR) (L:=L) d h a 0 (fun J R e=>by have:=l J R e;omega) (by omega);simp only[Cc,CF,this,LQ]
theorem lR:∀(d:List (K × List α)) (o v:Nat) (k:K) (a:List α),DI kv B (C4 (o+d.length) v vs) o (d++[(k,a)])=DI kv B vs o d++[(kv k,.so (Cs B (o+d.length)) v 0 a.length)]
 |[],o,v,k,a=>by simp[DI,C4]
 |p::r,o,v,k,a=>by
  have e:=lR r (o+1) v k a;rw[show o+1+r.length=o+(p::r).length by simp only[Lh];omega] at e;have h:C4 (o+(p::r).length) v vs o=vs o:=by simp[C4]
  simp only[LL,DI,e,h]
theorem lS {ρ:Nat->Option Nat}:∀(a b l h:List (Value × AV)),Et ρ a=some l->Et ρ b=some h->Et ρ (a++b)=some (l++h)
 |[],b,l,h,e,o=>by cases e;exact o
 |(x,c)::r,b,l,h,e,o=>by
  unfold Et at e;split at e
  ·rename_i d ds p t;cases e
   have:=lS r b ds h t o;simp only[LL,Et,p,this]
  cases e
theorem wE {es d:List (K × List α)}{k:K}{a:List α}(h:Nat.ble n B=true)(l:B∈rs)(p:es.length<4294967296)(t:d=es++[(k,a)]):Cc (Ez n (some (Cs B es.length,R)) rs L) (.mo (CF kv B (C4 es.length 0 vs) d) dl)=some (.mo (CF kv B vs es++[(kv k,.so R 0 0 a.length)]) dl):=by
 subst t;have v:=cv (kv:=kv) (vs:=vs) (JR:=some (Cs B es.length,R)) (L:=L) h l es 0 (fun J R e=>by simp only[Lf,LB,D4] at e;omega) (by omega);have o:=lR (kv:=kv) (B:=B) (vs:=vs) es 0 0 k a;rw[NE] at o;have w:Ez n (some (Cs B es.length,R)) rs L (Cs B es.length)=some R:=(ZC (JR:=some (Cs B es.length,R)) (L:=L) h l p).trans (if_pos rfl);have y:Et (Ez n (some (Cs B es.length,R)) rs L) [(kv k,AV.so (Cs B es.length) 0 0 a.length)]=some [(kv k,AV.so R 0 0 a.length)]:=by simp only[Et,CY,w,LQ]
 simp only[Cc,CF,o,lS _ _ _ _ v y,LQ]
end
section
variable {P:Program}{tab:Nat->TI}{ops:Array Oper}{nx0 nx i:Nat}{k:List It}{Q:Ex->St->Prop}{r:List Oper}{s:St}{dst:Option Nat}{acc:List Cx}{fr:Fr}{hp:Hp}
@[go_sem] theorem cm_ (A:TypeId)(x y:Operand):Fh P tab ops nx0 nx k Q i r dst acc fr hp (.mapEntry A x y)=F2 P tab ops nx0 nx k Q (i+1) r dst acc (Ct (ev fr) (.mapEntry A x y)) fr hp (CM tab (ev fr) hp (nx0+i) (.mapEntry A x y)):=rfl
@[go_sem] theorem rl_ (A:TypeId)(x y z:Operand):Fh P tab ops nx0 nx k Q i r dst acc fr hp (.entryStore A x y z)=F2 P tab ops nx0 nx k Q (i+1) r dst acc (Ct (ev fr) (.entryStore A x y z)) fr hp (CM tab (ev fr) hp (nx0+i) (.entryStore A x y z)):=rfl
end
section
variable (ρ:Operand->AV)
@[go_sem] theorem UC (T:TypeId)(x y:Operand):Ct ρ (.mapEntry T x y)=CB (ρ x)++CB (ρ y):=by simp[Ct,G4,Op.operands,CG]
@[go_sem] theorem UD (T:TypeId)(x y z:Operand):Ct ρ (.entryStore T x y z)=CB (ρ x)++(CB (ρ y)++CB (ρ z)):=by simp[Ct,G4,Op.operands,CG]
@[go_sem] theorem WC (T:TypeId)(x y z:Operand):Ct ρ (.mapUpdate T x y z)=CB (ρ x)++(CB (ρ y)++CB (ρ z)):=by simp[Ct,G4,Op.operands,CG]
end
def HB (q:Bool × List TK)(kv:Value)(z:AV)(i:Nat)(es:List (Value × AV)):Option (AV × List (Nat × AO)):=
 match D5 q kv es with
 |some none=>some (.tu [z,.v (.int .i64 es.length)],[(i,.mo (es++[(kv,z)]) false)])
 |some (some (j,v))=>some (.tu [v,.v (.int .i64 j)],[(i,.mo (es.set j (kv,v)) false)])
 |none=>none
def WE (q:Option (Bool × List TK))(kv:Option Value)(z:Option AV)(m:AV)(hp:Hp):Option (AV × List (Nat × AO)):=
 match q,kv,z with
 |some q,some kv,some z=>if Gg q kv then match m with
  | .mo i=>match hp i with
   |some (.mo a false)=>HB q kv z i a
   |_=>none
  |_=>none else none
 |_,_,_=>none
@[go_sem ↓ high] theorem l1_ {tab:Nat->TI}(ρ:Operand->AV)(hp:Hp)(id T:Nat)(m k:Operand):CM tab ρ hp id (.mapEntry T m k)=WE (tab T).mkey (Es (ρ k)) (JW (tab (tab T).elem)) (ρ m) hp:=rfl
@[go_sem] theorem ZD (q:Bool × List TK)(kv:Value)(z:AV)(i:Nat)(hp:Hp):WE (some q) (some kv) (some z) (.mo i) hp=if Gg q kv then(match hp i with |some (.mo es false)=>HB q kv z i es |_=>none) else none:=rfl
theorem M3 {q:Bool × List TK}{es:List (Value × AV)}(h:D5 q x es=some none)(z:AV)(i:Nat):HB q x z i es=some (.tu [z,.v (.int .i64 es.length)],[(i,.mo (es++[(x,z)]) false)]):=by
 unfold HB;rw[h]
theorem M4 {q:Bool × List TK}{es:List (Value × AV)}{v:AV}(h:D5 q x es=some (some (j,v)))(z:AV)(i:Nat):HB q x z i es=some (.tu [v,.v (.int .i64 j)],[(i,.mo (es.set j (x,v)) false)]):=by
 unfold HB;rw[h]
def WF (m:AV)(j:Option Nat)(x:AV)(hp:Hp):Option (AV × List (Nat × AO)):=
 match m,j with
 | .mo i,some j=>if GM x then match hp i with
  |some (.mo a false)=>match a[j]? with
   |some (k,_)=>some (.un,[(i,.mo (a.set j (k,x)) false)])
   |none=>none
  |_=>none else none
 |_,_=>none
@[go_sem ↓ high] theorem l2_ {tab:Nat->TI}(ρ:Operand->AV)(hp:Hp)(id T:Nat)(m a x:Operand):CM tab ρ hp id (.entryStore T m a x)=WF (ρ m) (EI (ρ a)) (ρ x) hp:=rfl
@[go_sem] theorem ZE (i j:Nat)(x:AV)(hp:Hp):WF (.mo i) (some j) x hp=if GM x then(match hp i with
  |some (.mo a false)=>match a[j]? with |some (k,_)=>some (.un,[(i,.mo (a.set j (k,x)) false)]) |none=>none
  |_=>none) else none:=rfl
def sw (J R i:Nat):Nat:=if i=J then R else i
def M5 (J R:Nat)(a:Cx):Cx:=⟨a.ids.map (sw J R),a.ks.map (sw J R),a.g⟩
section
variable {J R:Nat}
theorem Rm (e:i≠R)(l:k≠R)(h:sw J R i=sw J R k):i=k:=by
 unfold sw at h;by_cases a:i=J<;>by_cases d:k=J
 ·rw[a,d]
 ·rw[if_pos a,if_neg d] at h;exact absurd h.symm l
 ·rw[if_neg a,if_pos d] at h;exact absurd h e
 rwa [if_neg a,if_neg d] at h
theorem lU {xs h:List Nat}(l:R∉xs)(o:R∉h):De (xs.map (sw J R)) (h.map (sw J R))=De xs h:=by
 unfold De;rw[Ni];simp only[Nh,LO,Bu];constructor
 ·rintro⟨_,⟨i,a,rfl⟩,⟨k,d,e⟩⟩
  have:k=i:=Rm (J:=J) (R:=R) (by rintro rfl;exact o d) (by rintro rfl;exact l a) e;subst this;exact⟨k,a,d⟩
 rintro⟨i,a,d⟩;exact⟨_,⟨i,a,rfl⟩,⟨i,d,rfl⟩⟩
theorem wF {xs:List Nat}(a:J≠Df)(d:R≠Df):(xs.map (sw J R)).contains Df=xs.contains Df:=by
 rw[Ni];simp only[Bu,LO];constructor
 ·rintro⟨i,l,e⟩;unfold sw at e;split at e
  ·exact absurd e d
  rwa [<-e]
 intro h;exact⟨Df,h,by unfold sw;rw[if_neg (Ne.symm a)]⟩
theorem wG {a b:Cx}(e:R∉a.ids++a.ks)(d:R∉b.ids++b.ks)(h:J≠Df)(l:R≠Df):F1 (M5 J R a) (M5 J R b)=F1 a b:=by
 simp only[Ly,not_or] at e d;have o:De (a.ks.map (sw J R)) (b.ids.map (sw J R)++b.ks.map (sw J R))=De a.ks (b.ids++b.ks):=by
  rw[<-Nc];exact lU e.2 (by simp[d.1,d.2])
 have p:=lU (J:=J) d.2 e.1;simp only[F1,Jb,Ff,M5,o,p,wF h l,List.isEmpty_map]
theorem wH {ops:Array Oper}{rs:List Cx}(h:HT ops (rs.map (M5 J R))=true)(o:∀a∈rs,R∉a.ids++a.ks)(p:J≠Df)(t:R≠Df):HT ops rs=true:=by
 simp only[HT,TN,Ln,LP] at h⊢;refine⟨h.1,fun j v i w=> ?_⟩;have d:=h.2 j v i w;rw[Lp,Lp] at d;cases e:rs[i]? with
 |none=>
  rw[e] at d;exact d
 |some a=>
  cases l:rs[j]? with
  |none=>
   rw[e,l] at d;exact d
  |some b=>
   rw[e,l] at d;simp only[LQ,wG (o a (Lz e)) (o b (Lz l)) p t] at d;exact d
theorem ZG {P:Program}{tab:Nat->TI}{ops:Array Oper}{nx0 nx:Nat}{k:List It}{Q:Ex->St->Prop}{acc:List Cx}{fr:Fr}(J R:Nat)(d:J≠Df)(e:R≠Df)(h:∀a∈acc,R∉a.ids++a.ks)(l:RN ops (acc.reverse.map (M5 J R))=true)(o:run P tab k Q ⟨fr,hp,nx⟩):Rd P tab ops nx0 nx k Q i [] acc fr hp:=
 ⟨wH (VK l) (fun a p=>h a (by simpa using p)) d e,o⟩
end
def Cb {K V:Type}(kv:K->Value)(ag:Bool)(enc:V->List D)(m:List (K × V)):List (Value × Bool × List D):=m.map fun p=>(kv p.1,ag,enc p.2)
theorem Rn (b:Bool)(cs:List D):Eb b (true,cs)= .d (.ag cs) b:=rfl
theorem Rp (b:Bool)(c:D):Eb b (false,[c])=CE b c:=rfl
theorem wI:KO (.slice none 0 0)= .sl []:=rfl
theorem wJ (k:IntKind)(n:Int):KO (.int k n)= .v (.int k n):=rfl
theorem wK (x:ByteArray):KO (.string x)= .v (.string x):=rfl
theorem wL (x:Option Addr):KO (.pointer x)= .v (.pointer x):=rfl
@[go_sem] theorem ed_ (a:α)(l b:List α):List.append (a::l) b=a::List.append l b:=rfl
@[go_sem] theorem iL_ (b:List α):List.append [] b=b:=rfl
@[go_sem] theorem ZH (b:Bool)(m:List (Value × Bool × List D)):CE b (.mp m)= .d (.mp m) b:=rfl
attribute [go_sem] Pe Rn Rp wI wJ wK wL
section
variable {K V:Type}[BEq K]{q:Bool × List TK}{kv:K->Value}{ag b:Bool}{enc:V->List D}
theorem IW (a:FF q kv)(k:K)(z:V)(ok:Bool)(m:List (K × V)):En q (kv k) (Eb b (ag,enc z)) ok (Fe b (Cb kv ag enc m))=some (if ok then .tu [Eb b (ag,enc (qf_ k z m)),.v (.bool (Av k m))] else Eb b (ag,enc (qf_ k z m)),[]):=by
 have e:Fe b (Cb kv ag enc m)=AZ kv (fun v=>Eb b (ag,enc v)) m:=by simp[Fe,Cb,AZ]
 rw[e];exact UB (ev:=fun v=>Eb b (ag,enc v)) a k z ok m
theorem wM (d:FF q kv)(k:K)(z:V)(m:List (K × V))(x:AV)(h:Av k m=true):En q (kv k) x false (Fe b (Cb kv ag enc m))=some (Eb b (ag,enc (qf_ k z m)),[]):=by
 have e:Fe b (Cb kv ag enc m)=AZ kv (fun v=>Eb b (ag,enc v)) m:=by simp[Fe,Cb,AZ]
 rw[e];have⟨o,l,p,y⟩:=Pu (ev:=fun v=>Eb b (ag,enc v)) d k m;unfold En;rw[l];cases a:mget k m with
 |none=>simp[Av,a] at h
 |some w=>
  have⟨i,t,A⟩:=p w a;subst t;simp[qf_,a]
theorem wN (d:FF q kv)(k:K)(m:List (K × V))(x:AV)(h:Av k m=false):En q (kv k) x false (Fe b (Cb kv ag enc m))=some (x,[]):=by
 have e:Fe b (Cb kv ag enc m)=AZ kv (fun v=>Eb b (ag,enc v)) m:=by simp[Fe,Cb,AZ]
 rw[e];have⟨o,l,y,p⟩:=Pu (ev:=fun v=>Eb b (ag,enc v)) d k m;unfold En;rw[l];cases a:mget k m with
 |none=>
  have⟨t,z⟩:=p a;subst t;simp
 |some w=>simp[Av,a] at h
end
section
variable {K α V:Type}{kv:K->Value}{B:Nat}{vs:Nat->Nat}{f:α->List D}{sz:Nat}
theorem Cy.fam {b:Bool}{es:List (K × List α)}(h:hp m=some (.mo (CF kv B vs es) dl))(E:es.length<=4294967296)(z:∀j p,es[j]? =some p->j<4294967296->hp (Cs B j)=some (.rw (p.2.map f) sz (vs j) false false)):Cy hp b (.mo m) (.mp (Cb kv false (eL f) es)):=by
 have t:∀ {j:Nat} {k:Value} {v:AV},(CF kv B vs es)[j]? =some (k,v)->∃p,es[j]? =some p/\k=kv p.1/\v= .so (Cs B j) (vs j) 0 p.2.length:=fun{j k v} h=>by
  rw[WB,La] at h;have⟨p,e,a⟩:=h;simp only[LB] at a;exact⟨p,e,a.1.symm,a.2.symm⟩
 have w:∀ {j:Nat} {k:Value} {ag:Bool} {ds:List D} {p:K × List α},es[j]? =some p->(Cb kv false (eL f) es)[j]? =some (k,ag,ds)->k=kv p.1/\ag=false/\ds= [D.sl (p.2.map f)]:=fun{j k ag ds p} e a=>by
  simp only[Cb,Lp,e,LQ,Lf,LB] at a;exact⟨a.1.symm,a.2.1.symm,a.2.2.symm⟩
 refine .mo h (by simp[Cb,vw]) (fun j k v A ag ds e a=> ?_) fun j k v A ag ds i x d e a o y=> ?_
 ·obtain⟨p,l,rfl,rfl⟩:=t e;obtain⟨rfl,rfl,rfl⟩:=w l a;exact⟨rfl,rfl,rfl,fun _=>rfl⟩
 obtain⟨p,l,rfl,rfl⟩:=t e;obtain⟨rfl,rfl,rfl⟩:=w l a;have F:=(Lb.1 l).1;have C:=z j p l (by omega);cases i with
 |zero=>
  simp only[Hl,Nf,Lf] at o y;subst o;subst y;refine .one (b':=false) (is:=[Cs B j]) ?_ (by simp);simp only[Ce,C,if_true,LJ];rw[ND (by simp)]
 |succ i=>simp[Hl] at o
theorem lV {b:Bool}{ev:V->AV}{enc:V->List D}{es:List (K × V)}(h:hp m=some (.mo (AZ kv ev es) dl))(A:∀v,∃x,ev v= .v x/\enc v= [.v x]/\Ce hp (.v x)=some (.v x,false,[])):Cy hp b (.mo m) (.mp (Cb kv false enc es)):=by
 have C:∀ {j:Nat} {k:Value} {v:AV},(AZ kv ev es)[j]? =some (k,v)->∃p,es[j]? =some p/\k=kv p.1/\v=ev p.2:=fun{j k v} h=>by
  simp only[AZ,Lp,La] at h;have⟨p,e,a⟩:=h;simp only[LB] at a;exact⟨p,e,a.1.symm,a.2.symm⟩
 have E:∀ {j:Nat} {k:Value} {ag:Bool} {ds:List D} {p:K × V},es[j]? =some p->(Cb kv false enc es)[j]? =some (k,ag,ds)->k=kv p.1/\ag=false/\ds=enc p.2:=fun{j k ag ds p} e a=>by
  simp only[Cb,Lp,e,LQ,Lf,LB] at a;exact⟨a.1.symm,a.2.1.symm,a.2.2.symm⟩
 refine .mo h (by simp[Cb,AZ]) (fun j k v F ag ds e a=> ?_) fun j k v F ag ds i x d e a l o=> ?_
 ·obtain⟨p,t,rfl,rfl⟩:=C e;obtain⟨rfl,rfl,rfl⟩:=E t a;have⟨x,w,z,_⟩:=A p.2;rw[w,z];exact⟨rfl,rfl,rfl,fun _=>rfl⟩
 obtain⟨p,t,rfl,rfl⟩:=C e;obtain⟨rfl,rfl,rfl⟩:=E t a;have⟨y,w,z,G⟩:=A p.2;rw[w] at l;rw[z] at o;cases i with
 |zero=>
  simp only[Hl,Nf,Lf] at l o;subst l;subst o;exact .one G (by simp)
 |succ i=>simp[Hl] at l
end
end
end Go.Proofs.YtnmkbmefohakmaaGreat.Ab
