/-
 Sorting by a comparison, so that equals stay: few.
-/
import Derived.Test.YtnmkbmefohakmaaGreatSk3
set_option linter.all false
namespace Go.Proofs.YtnmkbmefohakmaaGreat.Ab
open Go.RowKit IntKind
def aG (n:Nat)(s:List AN)(v:AN):Nat->Int->Option ((Unit) ⊕ Int)
 |0,_=>none
 |c+1,a=>(if decide (a<(s.length:Int)) then (CD s a).bind fun b=>(if ((v.type_==b.type_)&&((v.id_==b.id_)&&(v.rel==b.rel))) then some (.inr a) else aG n s v c (i64.wrap (a+1))) else some (.inl ()))
def aH (n:Nat)(s:List AN)(v:AN):Option Int:=(aG n s v n 0:Option ((Unit) ⊕ Int)).bind fun
  | .inl _=>some (-1)
  | .inr r=>some r
variable {dl:Bool}{es:List (Value × AV)}{hp:Hp}{m n q:Nat}{o:AV}{r:AB}
theorem yz {s:List AN}{v:AN}{r:Int}(H:aH n s v=some r):AI Tryz.prog 117 [D.sl (List.map AR s),D.ag (AR v)] (D.v (.int .i64 r)) true:=by
 unfold aH at H;refine zP #[.tmp 4] Tryz.func117 ?_;refine KF ?_;refine zi H (fun _ _ _=>⟨AK,AM,0⟩) (fun t k a=> ?_) fun _ a=> ?_
 ·refine EG k (fun f h e=>⟨kp [0,3,7] f (upd 8 (.v (.int .i64 e)) AK),kh [0] h AM,1⟩) (ZR [(0,0)]) fun c e l=> ?_
  refine AP ?_;obtain⟨b,H15⟩ |⟨b,H15⟩:=As l
  ·obtain⟨u,w,x,p,H17⟩:=zI AR H15;have j:=Y2 b p;refine Ds j ?_;obtain⟨d,H23⟩ |⟨d,H23⟩:=Cg j H17
   ·refine Z1 d ?_;cases H23;cases a;exact Ax
   refine Z1 d ?_;exact⟨_,H23,ZR [(0,0)]⟩
  refine Z1 b ?_;cases H15;exact⟨_,rfl,ZR []⟩
 refine AP ?_;cases a;exact Ax
def Si (n:Nat)(s:List AN)(v:AN):Option Bool:=(aH n s v).bind fun a=>some (decide (0<=a))
theorem pE {s:List AN}{v:AN}{r:Bool}(H:Si n s v=some r):AI Tryz.prog 93 [D.sl (List.map AR s),D.ag (AR v)] (D.v (.bool r)) true:=by
 unfold Si at H;refine zP #[.tmp 4] Tryz.func93 ?_;refine ZT 1 ?_;have⟨c,a,b⟩:=AL H;refine Z0 ?_;refine Cn (yz a) ?_;refine Z0 ?_;cases b;exact Ax
set_option maxRecDepth 4000 in
theorem Sn {nx u:Nat}{B:Bool}{G:AY}{s:AN}{rel:AW × Bool}{subs:List AN}{c:Bool}{d:List AB}{rk x E:AV}{is:AB->Bool}(a:∀j,nx<=j->hp j=none)
  (e:hp q=some (.bx [.d (.pt (A7 G) 0) true,.v (.string s.type_),.v (.string s.id_),.v (.string s.rel),.mo m,o])) (p:hp m=some (.mo es dl)) (y:Du es r u) (z:hp u=some (.bx [rk,.d (.sl (d.map AH)) B,x,E]))
  (C:HK n G.schema r.obj.type_ r.rel=some rel) (F:rel.1.expr= []) (H:Qj n G.index.left r.obj r.rel=some subs) (I:Si n subs s=some c)
  (J:Fx hp es is d) (K:d.length<4611686018427387904):
  ∃t,nx<=t/\AU Tryz.prog 100 [.pt q 0,.ag [.v (.string r.obj.type_),.v (.string r.obj.id_),.v (.string r.rel)]] hp nx fun v M O=>v= .v (.bool (c||d.any is))/\M=hp/\O=t:=by
 have⟨⟨P,Q,re⟩,ro⟩:=rel;cases F;have R:nw nx q=0:=pJ (Cd a e);have T:nw nx nx=1:=pK;have U:nw nx (nx+2+16)=19:=by unfold nw;omega
 have w:=And.intro (show(nx=nx+2+16)=False from Ey)<|And.intro (show(q=nx+2+16)=False from eq_false (by have:=Cd a e;omega))<|And.intro (show(m=nx+2+16)=False from eq_false (by have:=Cd a p;omega))<|And.intro (show(u=nx+2+16)=False from eq_false (by have:=Cd a z;omega))<|And.intro (Fp a e) (Y6 (Fp a p) (Fp a z) e p y z);obtain⟨f,k⟩:∃f,f=upd (nx+2+16) (some (.bx [.v (.string P),.d (.sl (Q.map AR)) true,.d (.sl []) true])) (upd (nx+2+16) (some (.bx [.v (.string ByteArray.empty),.v (.slice none 0 0),.v (.slice none 0 0)])) (upd nx (some (.bx [.v (.string r.obj.type_),.v (.string r.obj.id_),.v (.string r.rel)])) hp)):=⟨_,rfl⟩;have A:∀ {i:Nat} {o:AO},hp i=some o->f i=some o:=fun{i o} h=>by
  have:=Cd a h;rw[k,Aa,Aa,Aa];exact h
 have less:Gi hp f:=⟨fun i=>by
  by_cases h:i<nx
  ·exact .inr (by rw[k,Aa,Aa,Aa])
  exact .inl (a i (by omega))⟩
 have⟨t,g1,V⟩:=pL (nx:=nx+2+19+4+33) (b:=B) (is:=is) (l:=d) (fun j hj=>by rw[k,Aa,Aa,Aa];exact a j (by omega)) (A e) (A p) (fun r y=>by
   have⟨id,rk,X,x,Y,k2⟩:=J r y;exact⟨id,rk,X,x,Y,A k2⟩) K
 refine⟨if c then nx+2+19+4+33 else t,by split<;>omega,Mu Ep EN Tryz.func100 (by rfl) (by kernel_rfl) (by kernel_rfl) (by exact NM rfl) ?_⟩;refine Z1 w ?_;refine EB (Ma C) ?_;refine Z1 w ?_;refine KH (nw nx) _ rfl (by simp only[Nl,Np,LA,LL,Li,Lw,H0,R,T,U];rfl) (by rfl) ?_;refine Z1 w ?_;refine Y0 (b:=true) [] (fun f C=>by exact(PW.cons (Dq.d (Ck.one (Cy.rbE 2 (Cy.one (b':=true) (is:=[]) rfl (fun _=>rfl)) (by rfl)) rfl)) (PW.cons (Dq.d (Ck.agP (PW.cons (Cy.one (b':=false) (is:=[]) rfl (fun _=>rfl)) (PW.cons (Cy.one (b':=false) (is:=[]) rfl (fun _=>rfl)) PW.nil)))) (PW.cons (Dq.d (Ck.one (Cy.one (b':=false) (is:=[]) rfl (fun _=>rfl)) rfl)) PW.nil)))) (CO.of_pure (fY H)) ?_;refine Z1 w ?_;refine EB (pE I) ?_;cases c with
 |true=>
  refine Ds w ?_;exact⟨_,hp,rfl,by rw[<-k];exact less,rfl,rfl,rfl⟩
 |false=>
  refine Z1 w ?_;rw[<-k];refine Pv (δ:=[]) V ?_;refine Qk ?_;exact⟨_,hp,rfl,less,rfl,rfl,rfl⟩
structure PN where
 k:AB
 rank:Int
 deps:List AB
 above:List AB
 is:Bool
structure Nd extends PN where
 id:Nat
 rid:Nat
 ver:Nat
def pN:Option Nat->AV
 |none=>.v (.pointer none)
 |some id=>.pt id 0
def Fy (N:List Nd):List (AB × Option Nat):=N.map fun n=>(n.k,some n.id)
def F8 (N:List Nd):List (Value × AV):=AZ GU pN (Fy N)
def K6 (n:Nd):AO:=.bx [.v (.int .i64 n.rank),.d (.sl (n.deps.map AH)) false,Ac n.rid n.ver (n.above.map AH),.v (.bool n.is)]
def GJ (r:AB):List Nd->Option Nd
 |[]=>none
 |n::l=>if r==n.k then some n else GJ r l
def C9 (r:AB):List PN->Option PN
 |[]=>none
 |n::l=>if r==n.k then some n else C9 r l
abbrev Dp (N:List Nd):List PN:=N.map Nd.toPN
theorem Js (r:AB):∀N:List Nd,C9 r (Dp N)=(GJ r N).map Nd.toPN
 |[]=>rfl
 |n::l=>by
  have a:=Js r l;unfold GJ;show(if r==n.k then some n.toPN else C9 r (Dp l))=_;split
  ·rfl
  exact a
theorem Me {r:AB}:∀ {N:List Nd} {n:Nd},GJ r N=some n->n∈N/\n.k=r
 |[],_,h=>by cases h
 |x::l,n,h=>by
  unfold GJ at h;split at h
  ·rename_i e;cases h;exact⟨Lo ..,(eq_of_beq e).symm⟩
  have⟨a,b⟩:=Me h;exact⟨Lj _ a,b⟩
theorem pM {r:AB}:∀ {N:List Nd},GJ r N=none->∀n∈N,n.k≠r
 |[],_,_,a=>by cases a
 |x::l,h,n,a=>by
  unfold GJ at h;split at h
  ·cases h
  rename_i e;rcases Lr.1 a with rfl |a
  ·exact fun b=>e (by rw[b];exact beq_self_eq_true _)
  exact pM h n a
theorem aL (r:AB):∀N:List Nd,mget r (Fy N)=(GJ r N).map fun n=>some n.id
 |[]=>rfl
 |n::l=>by
  have a:=aL r l;unfold GJ;by_cases e:(r==n.k)=true
  ·simp[Fy,mget,e]
  simp only[Fy,Li,mget,e];simpa [Fy] using a
variable {N:List Nd}{i:Nat}{s1 s2 s3:AV}
theorem Mf {n:Nd}(h:GJ r N=some n):Du (F8 N) r n.id:=by
 have:=UB (ev:=pN) Sj r none false (Fy N);simp only[qf_,aL,h] at this;exact this
theorem fl (h:GJ r N=none):En (true,[.string,.string,.string]) (.agg #[.string r.obj.type_,.string r.obj.id_,.string r.rel]) (.v (.pointer none)) false (F8 N)=some (.v (.pointer none),[]):=by
 have:=UB (ev:=pN) Sj r none false (Fy N);simp only[qf_,aL,h] at this;exact this
theorem zB (h:GJ r N=none)(n:Nd)(b:n.k=r):Ec (true,[.string,.string,.string]) (.agg #[.string r.obj.type_,.string r.obj.id_,.string r.rel]) (.pt n.id 0) (F8 N)=some (F8 (N++[n])):=by
 have a:=Yx (ev:=pN) Sj r (some n.id) (Fy N);have⟨o,_,_,c⟩:=Pu (ev:=pN) Sj r (Fy N);have d:=(c (by rw[aL,h];rfl)).2 (some n.id);rw[d] at a;subst b;have e:Fy N++[(n.k,some n.id)]=Fy (N++[n]):=by simp[Fy]
 rw[e] at a;exact a
structure DJ (hp:Hp) (m:Nat) (N:List Nd):Prop where
 map:hp m=some (.mo (F8 N) false)
 box:∀n∈N,hp n.id=some (K6 n)
 row:∀n∈N,n.above≠[]->hp n.rid=A6 3 n.ver false (n.above.map AH)
 keys:(N.map (·.k)).Nodup
 ids:(N.map (·.id)).Nodup
 rids:∀a∈N,∀b∈N,a.above≠[]->b.above≠[]->a.rid=b.rid->a.k=b.k
theorem DJ.at_ (h:DJ hp m N){l:List AB}(b:∀r∈l,(GJ r N).isSome=true):Fx hp (F8 N) (fun r=>((C9 r (Dp N)).map (·.is)).getD false) l:=fun r c=>by
 have⟨n,a⟩:=NJ.1 (b r c);refine⟨n.id,.v (.int .i64 n.rank),.d (.sl (n.deps.map AH)) false,Ac n.rid n.ver (n.above.map AH),Mf a,?_⟩;rw[h.box n (Me a).1];simp only[Js,a,LQ,Nw];rfl
theorem HM {sz ver:Nat}{br:Bool}{l:List AB}(h:l≠[]):A6 sz ver br (l.map AH)=some (.rw (l.map AH) sz ver br false):=by
 cases l with
 |nil=>exact absurd rfl h
 |cons x r=>simp[A6]
def K7 (N:List Nd):List Nat:=(N.filter fun n=> !n.above.isEmpty).map (·.rid)
theorem So {n:Nd}(a:n∈N)(b:n.above≠[]):n.rid∈K7 N:=LH (Nb.2 ⟨a,by cases h:n.above with |nil=>exact absurd h b |cons _ _=>rfl⟩)
theorem Un (h:i∈K7 N):∃n∈N,n.above≠[]/\n.rid=i:=by
 obtain⟨n,b,rfl⟩:=LO.1 h;have⟨c,a⟩:=Nb.1 b;exact⟨n,c,fun e=>by rw[e] at a;simp at a,rfl⟩
theorem DJ.more {hp':Hp}(h:DJ hp m N)(em:hp' m=hp m)(c:∀n∈N,hp' n.id=hp n.id)(d:∀n∈N,n.above≠[]->hp' n.rid=hp n.rid):DJ hp' m N where
 map:=em▸h.map
 box:=fun n a=>(c n a).trans (h.box n a)
 row:=fun n a b=>(d n a b).trans (h.row n a b)
 keys:=h.keys
 ids:=h.ids
 rids:=h.rids
theorem DJ.upd_row {o:Option AO}(h:DJ hp m N)(a:hp i=none\/∃es c v b f,hp i=some (.rw es c v b f))(l:i∉K7 N):DJ (upd i o hp) m N:=by
 have ne:∀ {j:Nat} {x:AO},hp j=some x->(∀es c v b f,x≠ .rw es c v b f)->j≠i:=fun k p e=>by
  subst e;rcases a with a |⟨es,c,v,b,f,a⟩
  ·rw[k] at a;cases a
  rw[k] at a;cases a;exact p _ _ _ _ _ rfl
 exact h.more (Ai _ _ (ne h.map fun _ _ _ _ _ e=>by cases e)) (fun n d=>Ai _ _ (ne (h.box n d) fun _ _ _ _ _ e=>by cases e)) fun n d s=>Ai _ _ fun e=>l (e▸So d s)
theorem DJ.upd_new {o:Option AO}(h:DJ hp m N)(a:hp i=none):DJ (upd i o hp) m N:=h.upd_row (.inl a) fun c=>by
 have⟨n,d,b,e⟩:=Un c
 have:=h.row n d b;rw[e,a,HM b] at this;cases this
def Jt (n:Nat)(G:AY)(r:AB):Option (Int × List AB):=(fe n G.schema r.obj.type_ r.rel).bind fun k=>(Sh n G r).map fun d=>(k,d)
def JE (nd:AB->Option (Int × List AB)):Nat->List PN->List AB->Option (List PN)
  |0,_,_=>none
  |_+1,N,[]=>some N
  |f+1,N,r::w=>if (C9 r N).isSome then JE nd f N w else(nd r).bind fun p=>if w.length+p.2.length<=4294967296/\N.length<4294967296 then JE nd f (N++[⟨r,p.1,p.2,[],false⟩]) (p.2.reverse++w) else none
structure RS where
  hp:Hp
  nx:Nat
  N:List Nd
  oid:Nat
  over:Nat
  ver:Nat
  es:List AB
  n:Nat
  c:Nat
abbrev ordN (N:List Nd):List AB:=N.map (·.k)
abbrev H9 (G:AY)(s1 s2 s3:AV)(m oid over:Nat)(N:List Nd):AO:=.bx [.d (.pt (A7 G) 0) true,s1,s2,s3,.mo m,Ac oid over ((ordN N).map AH)]
structure fm (nd:AB->Option (Int × List AB)) (G:AY) (hp0:Hp) (nx0 q m wid oid0:Nat) (N0:List Nd) (s1 s2 s3:AV) (R:List PN) (x:RS):Prop where
  new:∀j,x.nx<=j->x.hp j=none
  box:x.hp q=some (H9 G s1 s2 s3 m x.oid x.over x.N)
  row:x.N≠[]->x.hp x.oid=A6 3 x.over false ((ordN x.N).map AH)
  work:x.hp wid=some (.rw (x.es.map AH) 3 x.ver false false)
  len:x.n<=x.es.length
  nodes:DJ x.hp m x.N
  abo:∀n∈x.N,n.above= []
  small:x.n<=4294967296
  sep:x.N≠[]->x.oid≠wid
  own:x.N≠[]->(N0≠[]/\x.oid=oid0)\/nx0<=x.oid
  keep:∀i,hp0 i≠none->i≠q->i≠m->(N0≠[]->i≠oid0)->x.hp i=hp0 i
  wnew:nx0<=wid
  nxs:nx0<=x.nx
  mod:JE nd x.c (Dp x.N) (x.es.take x.n).reverse=some R
structure Sp (G:AY) (hp0:Hp) (nx0 q m oid0:Nat) (N0:List Nd) (s1 s2 s3:AV) (R:List PN) (hp:Hp) (nx:Nat):Prop where
  ex:∃N oid over,Dp N=R/\DJ hp m N/\(∀n∈N,n.above= [])/\hp q=some (H9 G s1 s2 s3 m oid over N)/\(N≠[]->hp oid=A6 3 over false ((ordN N).map AH))/\(N≠[]->(N0≠[]/\oid=oid0)\/nx0<=oid)
  keep:∀i,hp0 i≠none->i≠q->i≠m->(N0≠[]->i≠oid0)->hp i=hp0 i
  new:∀j,nx<=j->hp j=none
  nxs:nx0<=nx
def PO (q m nx i:Nat):Nat:=if i=q then 1 else if i=m then 2 else if i<nx then 0 else i+3-nx
theorem pO {r:AB}{n:Nd}:∀ {N:List Nd},GJ r N=none->n.k=r->GJ r (N++[n])=some n
  |[],_,h=>by
    subst h;show(if n.k==n.k then some n else none)=some n;rw[if_pos (beq_self_eq_true _)]
  |x::l,h,a=>by
    unfold GJ at h;split at h
    · cases h
    · rename_i e
      show(if r==x.k then some x else GJ r (l++[n]))=some n;rw[if_neg e];exact pO h a
def K8 (a b c d e i:Nat):Nat:=if i=a then 1 else if i=b then 2 else if i=c then 3 else if i=d then 4 else if i=e then 5 else 0
theorem Mg {nx:Nat}{fr a:Fr}(h:∀t,a t= .un\/a t=fr t):CH n ⟨a,hp,nx⟩ ⟨fr,hp,nx⟩:=.weak ⟨h,fun _=>.inr rfl,Lc _⟩
def Ci (a b c d i:Nat):Nat:=if i=a then 1 else if i=b then 2 else if i=c then 3 else if i=d then 4 else 0
set_option maxRecDepth 4000 in
theorem zC {nx oid over c:Nat}{vr:AV}{G:AY}{r0:AB}{R:List PN}(M:∀j,nx<=j->hp j=none)
    (hq:hp q=some (H9 G s1 s2 s3 m oid over N)) (ho:N≠[]->hp oid=A6 3 over false ((ordN N).map AH)) (hN:DJ hp m N) (I:∀n∈N,n.above= []) (hR:JE (Jt n G) c (Dp N) [r0]=some R) (hv:Dv vr=some [.v (.string r0.obj.type_),.v (.string r0.obj.id_),.v (.string r0.rel)]):
    AU Tryz.prog 66 [.pt q 0,vr] hp nx fun v a9 ba=>v= .tu []/\Sp G hp nx q m oid N s1 s2 s3 R a9 ba:=by
  refine zq Tryz.func66 ?_;have w:=Y2 (Fp M hq) (Y2 hv hq);refine AT (ZT 1 ?_);refine HL w ?_;refine CS ?_;have a0:N≠[]->oid<nx:=fun h=>Cd M ((ho h).trans (HM (by simpa using h)));refine DQ (α:={ x:RS // fm (Jt n G) G hp nx q m (nx+1+1) oid N s1 s2 s3 R x }) (fun x=>⟨upd 0 (.pt q 0) (upd 4 (.so (nx+1+1) x.1.ver 0 x.1.n) AK),x.1.hp,x.1.nx⟩) (fun x=>x.1.c) ⟨⟨upd (nx+1+1) (some (.rw [AH r0] 3 0 false false)) hp,nx+1+3,N,oid,over,0,[r0],1,c⟩,?_⟩ ?_ ?_
  · have e:∀i,i<nx->upd (nx+1+1) (some (AO.rw [AH r0] 3 0 false false)) hp i=hp i:=fun i p=>Aa
    exact{
            new:=fun j B=>by
              have B:nx+1+3<=j:=B;show upd (nx+1+1) _ hp j=none;rw[Aa];exact M j (by omega)
            box:=(e q (Cd M hq)).trans hq
            row:=fun h=>(e oid (a0 h)).trans (ho h)
            work:=Ap ..
            len:=Lc _
            nodes:=hN.upd_new (M _ (by omega))
            abo:=I
            small:=by show 1<=4294967296;omega
            sep:=fun h=>by have:=a0 h;show oid≠nx+1+1;omega
            own:=fun h=>.inl ⟨h,rfl⟩
            keep:=fun i p _ _ _=>e i (by
              rcases LY i nx with h |h
              · exact h
              · exact absurd (M i h) p)
            wnew:=by omega
            nxs:=by show nx<=nx+1+3;omega
            mod:=hR }
  · refine .weak ⟨fun t=> ?_,fun i=> ?_,Lc _⟩
    · show upd 0 _ _ t=AV.un\/_
      by_cases l:t=0
      · subst l
        exact .inr rfl
      · by_cases X:t=4
        · subst X
          exact .inr rfl
        · refine .inl ?_
          rw[Ai _ _ l,Ai _ _ X];rfl
    · show upd (nx+1+1) _ hp i=none\/upd (nx+1+1) _ hp i=upd (nx+1+1) _ (upd nx _ hp) i
      by_cases h1:i=nx+1+1
      · subst h1
        exact .inr (by rw[Ap,Ap])
      · by_cases J:i=nx
        · subst J
          exact .inl (by rw[Ai _ _ h1];exact M i (Lc _))
        · exact .inr (by rw[Ai _ _ h1,Ai _ _ h1,Ai _ _ J])
  · rintro⟨x,h⟩
    have z:=h.mod;obtain⟨f,hc⟩:∃f,x.c=f+1:=by
      cases e:x.c with |zero=>rw[e] at z;cases z |succ f=>exact⟨f,rfl⟩
    rw[hc] at z;refine EZ ?_;rcases d:x.n with _ |k
    · have h1:(decide (((0:Nat):Int) > 0))=false:=rfl
      refine Fo d ?_;refine⟨_,x.hp,rfl,⟨fun _=>.inr rfl⟩,rfl,?_⟩;rw[d] at z;have bb:Dp x.N=R:=LM z;exact⟨⟨x.N,x.oid,x.over,bb,h.nodes,h.abo,h.box,h.row,h.own⟩,h.keep,fun j B=>h.new j (Lv (by show x.nx<=x.nx+3;omega) B),by have:=h.nxs;show nx<=x.nx+3;omega⟩
    · have h1:(decide (((k+1:Nat):Int) > 0))=true:=Cp
      have J:(decide ((0:Int)<((k+1:Nat):Int)))=true:=Cp;refine ZT 1 ?_;refine Z1 (Y3 d h1 J) ?_;refine CS ?_;refine AT ?_;have hk:k<x.es.length:=(by have:=h.len;omega);obtain⟨r,hr⟩:∃r,x.es[k]? =some r:=⟨_,Le hk⟩;have h3:i64.wrap (((k+1:Nat):Int)-1)=(k:Int):=by
        have:=h.small;rw[show(((k+1:Nat):Int)-1)=(k:Int) by omega];exact IntWalk.i64_in _ (by omega)
      have X:(k<k+1)=True:=eq_true (Ls k);have h5:=Cr AH hr;have h6:=h.work;have bd:(x.es.take (k+1)).reverse=r::(x.es.take k).reverse:=by
        rw[Bv,hr];simp
      rw[d,bd] at z;refine ZT 1 ?_;refine Z1 (Y5 d h3 X h5 h6) ?_;refine AT (ZT 1 ?_);have h7:(k<=k+1)=True:=eq_true (BB k);have h8:(nx+1+1=x.nx+3+6)=False:=eq_false (by have:=Cd h.new h.work;omega);refine Z1 (Y6 d h3 X h7 h8 h6) ?_;refine AT (AT ?_);refine ZT 1 ?_;have Y:(q=x.nx+3+6)=False:=eq_false (by have:=Cd h.new h.box;omega);have Z:(m=x.nx+3+6)=False:=eq_false (by have:=Cd h.new h.nodes.map;omega);rcases O:GJ r x.N with _ |n0
      · refine Z1 (Y5 Y Z h.box h.nodes.map (fl O)) ?_
        refine DF (by rfl) ?_;refine Fc ?_;refine AT (ZT 1 ?_);refine Z1 (Y5 Y Z h.box h.nodes.map (fl O)) ?_;simp only[JE,Js,O,Option.map_none,Option.isSome_none,Nr,if_false] at z;have⟨⟨P,s⟩,aa,z⟩:=AL z;have⟨b3,be,aa⟩:=AL aa;have⟨b4,bg,aa⟩:=La.1 aa;cases aa;split at z;rotate_left
        · cases z
        rename_i ak;refine EB (yx be) ?_;refine Z1 (Y5 Y Z h.box h.nodes.map (fl O)) ?_;refine EB (yw bg) ?_;have bl:=zB O ⟨⟨r,P,s,[],false⟩,x.nx+3+8+6+7+25,0,0⟩ rfl;have bo:(m=x.nx+3+8+6+7+25)=False:=eq_false (by have:=Cd h.new h.nodes.map;omega);refine Z1 (Y6 Y Z bo h.box h.nodes.map bl) ?_;have ad:q≠m:=fun e=>by
          have u:=h.box;rw[e,h.nodes.map] at u;cases u
        have lq:=Cd h.new h.box;have lm:=Cd h.new h.nodes.map;have g1:PO q m x.nx q=1:=(by simp[PO]);have g2:PO q m x.nx m=2:=(by simp[PO,Ne.symm ad]);have g3:PO q m x.nx (x.nx+3+6)=12:=(by unfold PO;rw[ifn,ifn,ifn];omega);have g4:PO q m x.nx (x.nx+3+8+6+7+25)=52:=(by unfold PO;rw[ifn,ifn,ifn];omega);refine KH (PO q m x.nx) _ rfl (by simp only[Nl,Np,LA,LL,Li,Lw,H0,g1,g2,g3,g4];rfl) (by rfl) ?_;refine Z0 ?_;generalize e6:upd m _ _=K;have T:∀i,i<x.nx->i≠m->K i=x.hp i:=fun i h1 J=>(by rw[<-e6,Ai _ _ J,Aa,Aa,Aa]);have m6:K m=some (.mo (F8 (x.N++[⟨⟨r,P,s,[],false⟩,x.nx+3+8+6+7+25,0,0⟩])) false):=(by rw[<-e6,Ap]);have i6:K (x.nx+3+8+6+7+25)=some (.bx [.v (.int .i64 P),.d (.sl (s.map AH)) false,.v (.slice none 0 0),.v (.bool false)]):=(by rw[<-e6,Aa,Ap]);have c6:K (x.nx+3+6)=some (.bx [.v (.string r.obj.type_),.v (.string r.obj.id_),.v (.string r.rel)]):=(by rw[<-e6,Aa,Aa,Ap]);have n6:∀j,x.nx+3+8+6+7+27<=j->K j=none:=fun j B=>(by rw[<-e6,Aa,Aa,Aa,Aa];exact h.new j (by omega));have oN:x.N≠[]->x.oid<x.nx:=fun l=>Cd h.new ((h.row l).trans (HM (by simpa using l)));obtain⟨C,eo,ag,a1,ao⟩:∃C,Ac x.oid x.over ((ordN x.N).map AH)=Ac C x.over ((ordN x.N).map AH)/\K C=A6 3 x.over false ((ordN x.N).map AH)/\(∀j,j<100->C≠x.nx+3+8+6+7+27+j)/\(x.N≠[]->C=x.oid):=by
          rcases E:x.N with _ |⟨F,N1⟩
          · exact⟨x.nx+3+8+6+7+27+1000,rfl,n6 _ (by omega),fun j B=>by omega,fun h=>absurd rfl h⟩
          · rw[<-E]
            have l:x.N≠[]:=by rw[E];exact fun h=>by cases h
            have:=oN l;refine⟨x.oid,rfl,?_,fun j B=>by omega,fun _=>rfl⟩;rw[T _ this fun e=>by
              have u:=h.row l;rw[e,h.nodes.map,HM (by simpa using l)] at u;cases u]
            exact h.row l
        have q6:K q=some (.bx [.d (.pt (A7 G) 0) true,s1,s2,s3,.mo m,Ac C x.over ((ordN x.N).map AH)]):=by
          rw[T q lq ad,h.box,H9,eo]
        refine AT (ZT 1 ?_);obtain⟨A,U⟩:∃A,A=CW (x.nx+3+8+6+7+27+7) C ((ordN x.N).map AH):=⟨_,rfl⟩;have hA:∀(i:Nat) (y:AO),K i=some y->(∀es sz v b f,y≠ .rw es sz v b f)->i≠A:=fun i y p hy e=>by
          rw[e,U] at p;cases hL:(ordN x.N).map AH with
          |nil=>
            rw[hL] at p
            have:=n6 (x.nx+3+8+6+7+27+7) (by omega);rw[show K (x.nx+3+8+6+7+27+7)=some y from p] at this;cases this
          |cons c0 l0=>
            rw[hL] at p ag;rw[show K C=some y from p] at ag;cases ag;exact hy _ _ _ _ _ rfl
        have ap:q≠A:=hA _ _ q6 fun _ _ _ _ _ e=>(by cases e);have a2:x.nx+3+6≠A:=hA _ _ c6 fun _ _ _ _ _ e=>(by cases e);have bs:m≠A:=hA _ _ m6 fun _ _ _ _ _ e=>(by cases e);have aq:x.nx+3+8+6+7+25≠A:=hA _ _ i6 fun _ _ _ _ _ e=>(by cases e);have bx:x.nx+3+8+6+7+27+6≠A:=by
          rw[U];cases hL:(ordN x.N).map AH with |nil=>show x.nx+3+8+6+7+27+6≠x.nx+3+8+6+7+27+7;omega |cons _ _=>exact(a1 6 (by omega)).symm
        have w7:=Y2 (show(q=CW (x.nx+3+8+6+7+27+7) C ((ordN x.N).map AH))=False from eq_false (U▸ap)) (Y2 (Y6 q6 c6 ag (show(C=x.nx+3+8+6+7+27+6)=False from eq_false (a1 6 (by omega))) (show(q=x.nx+3+8+6+7+27+6)=False from Ey) (show(x.nx+3+6=x.nx+3+8+6+7+27+6)=False from Ey)) (show(x.N.length+1<=4294967296)=True from eq_true (by have:=ak.2;simp only[LE] at this;omega)));refine Z1 w7 ?_;rw[<-U];have g1:Ci q A (x.nx+3+6) (x.nx+3+8+6+7+27+6) q=1:=(by simp[Ci]);have g2:Ci q A (x.nx+3+6) (x.nx+3+8+6+7+27+6) A=2:=(by simp[Ci,Ne.symm ap]);have g3:Ci q A (x.nx+3+6) (x.nx+3+8+6+7+27+6) (x.nx+3+6)=3:=(by unfold Ci;rw[ifn,if_neg a2,if_pos rfl]);have g4:Ci q A (x.nx+3+6) (x.nx+3+8+6+7+27+6) (x.nx+3+8+6+7+27+6)=4:=(by unfold Ci;rw[ifn,if_neg bx,ifn,if_pos rfl]);refine KH (Ci q A (x.nx+3+6) (x.nx+3+8+6+7+27+6)) _ rfl (by simp only[Nl,Np,LA,LL,Li,Lw,H0,g1,g2,g3,g4];rfl) (by rfl) ?_;refine Z0 ?_;generalize Q:upd q _ _=H;have lw:=Cd h.new h.work;have ar:nx+1+1≠A:=by
          rw[U];rcases E:x.N with _ |⟨F,N1⟩
          · show _≠x.nx+3+8+6+7+27+7
            omega
          · have l:x.N≠[]:=by rw[E];exact fun h=>by cases h
            show nx+1+1≠C;rw[ao l];exact(h.sep l).symm
        have av:nx+1+1≠m:=fun e=>by
          have u:=h.work;rw[e,h.nodes.map] at u;cases u
        have aE:nx+1+1≠q:=fun e=>by
          have u:=h.work;rw[e,h.box] at u;cases u
        have q7:H q=some (H9 G s1 s2 s3 m A (CZ x.over ((ordN x.N).map AH)) (x.N++[⟨⟨r,P,s,[],false⟩,x.nx+3+8+6+7+25,0,0⟩])):=by
          rw[<-Q,Ap,H9,KC (by simp)];simp
        have m7:H m=some (.mo (F8 (x.N++[⟨⟨r,P,s,[],false⟩,x.nx+3+8+6+7+25,0,0⟩])) false):=(by rw[<-Q,Ai _ _ (Ne.symm ad),Ai _ _ bs,Aa,m6]);have i7:H (x.nx+3+8+6+7+25)=some (.bx [.v (.int .i64 P),.d (.sl (s.map AH)) false,.v (.slice none 0 0),.v (.bool false)]):=(by rw[<-Q,Aa,Ai _ _ aq,Aa,i6]);have c7:H (x.nx+3+6)=some (.bx [.v (.string r.obj.type_),.v (.string r.obj.id_),.v (.string r.rel)]):=(by rw[<-Q,Aa,Ai _ _ a2,Aa,c6]);have w7:H (nx+1+1)=some (.rw (x.es.map AH) 3 x.ver false false):=(by rw[<-Q,Ai _ _ aE,Ai _ _ ar,Aa,T _ lw av,h6]);have b0:GJ r (x.N++[⟨⟨r,P,s,[],false⟩,x.nx+3+8+6+7+25,0,0⟩])=some ⟨⟨r,P,s,[],false⟩,x.nx+3+8+6+7+25,0,0⟩:=pO O rfl;refine ZT 1 ?_;have b1:EX 3 (s.map AH)=true:=Hk (f:=AH) (fun _=>rfl) _;refine Z1 (Y2 (Y6 q7 m7 i7 c7 w7 (Mf b0)) (Y4 (show(k<=x.es.length)=True from Fu) b1 (Ob k) (show(k+s.length<=4294967296)=True from eq_true (by have:=ak.1;simp only[Bl,LC] at this;omega)))) ?_;have g1:K8 (nx+1+1) q m (x.nx+3+6) (x.nx+3+8+6+7+25) (nx+1+1)=1:=(by simp[K8]);have g2:K8 (nx+1+1) q m (x.nx+3+6) (x.nx+3+8+6+7+25) q=2:=(by simp[K8,Ne.symm aE]);have g3:K8 (nx+1+1) q m (x.nx+3+6) (x.nx+3+8+6+7+25) m=3:=(by simp[K8,Ne.symm av,Ne.symm ad]);have g4:K8 (nx+1+1) q m (x.nx+3+6) (x.nx+3+8+6+7+25) (x.nx+3+6)=4:=(by unfold K8;rw[ifn,ifn,ifn,if_pos rfl]);have g5:K8 (nx+1+1) q m (x.nx+3+6) (x.nx+3+8+6+7+25) (x.nx+3+8+6+7+25)=5:=(by unfold K8;rw[ifn,ifn,ifn,ifn,if_pos rfl]);refine KH (K8 (nx+1+1) q m (x.nx+3+6) (x.nx+3+8+6+7+25)) _ rfl (by simp only[Nl,Np,LA,LL,Li,Lw,H0,g1,g2,g3,g4,g5];rfl) (by rfl) ?_;refine Z0 ?_;have b2:∀n∈x.N,H n.id=some (K6 n):=fun n d=>by
          have u:=h.nodes.box n d;have l1:=Cd h.new u;have F:n.id≠m:=fun e=>by
            rw[e,h.nodes.map] at u;cases u
          have n2:n.id≠q:=fun e=>by
            rw[e,h.box] at u;cases u
          have n3:=hA n.id _ ((T _ l1 F).trans u) fun _ _ _ _ _ e=>(by cases e);rw[<-Q,Ai _ _ n2,Ai _ _ n3,Aa,T _ l1 F,u]
        refine⟨⟨⟨_,_,x.N++[⟨⟨r,P,s,[],false⟩,x.nx+3+8+6+7+25,0,0⟩],A,CZ x.over ((ordN x.N).map AH),x.ver+1,x.es.take k++s,k+s.length,f⟩,?_⟩,Mg DS,by show f<x.c;omega⟩;have ab:A<x.nx+3+8+6+7+27+8/\(x.N= []->x.nx<=A)/\(x.N≠[]->A=x.oid):=by
          rw[U];rcases E:x.N with _ |⟨F,N1⟩
          · exact⟨by show x.nx+3+8+6+7+27+7<_;omega,fun _=>by show _<=x.nx+3+8+6+7+27+7;omega,fun h=>absurd rfl h⟩
          · have l:x.N≠[]:=by rw[E];exact fun h=>by cases h
            have:=oN l;rw[<-ao l] at this;exact⟨by show C<_;omega,fun h=>(by cases h),fun _=>ao l⟩
        have a3:(x.es.take k).length=k:=(by rw[LC];omega);exact{
                new:=fun j B=>by
                  have B:x.nx+3+8+6+7+27+11+12<=j:=B
                  have:=ab.1;show upd (nx+1+1) _ H j=none;rw[Aa,<-Q,Aa,Aa,Aa,n6 _ (by omega)]
                box:=(Ai _ _ (Ne.symm aE)).trans q7
                row:=fun _=>by
                  show upd (nx+1+1) _ H A=_;rw[Ai _ _ (Ne.symm ar),<-Q,Ai _ _ (Ne.symm ap),Ap,Vz (by simp)];simp
                work:=by
                  show upd (nx+1+1) _ H (nx+1+1)=_;rw[Ap,Nc,N8]
                len:=by
                  show k+s.length<=(x.es.take k++s).length;rw[Ld,a3];exact Lc _
                nodes:={
                           map:=(Ai _ _ (Ne.symm av)).trans m7
                           box:=fun n d=>by
                             have a4:∀i (y:AO),H i=some y->(∀es sz v b f,y≠ .rw es sz v b f)->upd (nx+1+1) (some (AO.rw (List.take k (List.map AH x.es)++List.map AH s) 3 (x.ver+1) false false)) H i=some y:=fun i y p hy=>by
                               rw[Ai _ _ fun e=>by
                                 rw[e,w7] at p;cases p;exact hy _ _ _ _ _ rfl]
                               exact p
                             rcases Ly.1 d with d |d
                             · exact a4 _ _ (b2 n d) fun _ _ _ _ _ e=>by cases e
                             · rw[Lt.1 d]
                               exact a4 _ _ i7 fun _ _ _ _ _ e=>by cases e
                           row:=fun n d I=>absurd (by
                             rcases Ly.1 d with d |d
                             · exact h.abo n d
                             · rw[Lt.1 d]) I
                           keys:=by
                             rw[Nc];refine BP.2 ⟨h.nodes.keys,Na.2 ⟨L8,NX⟩,fun a I b hb=> ?_⟩;obtain⟨F,h1,rfl⟩:=LO.1 I;rw[Lt.1 hb];exact pM O F h1
                           ids:=by
                             rw[Nc];refine BP.2 ⟨h.nodes.ids,Na.2 ⟨L8,NX⟩,fun a I b hb=> ?_⟩;obtain⟨F,h1,rfl⟩:=LO.1 I;rw[Lt.1 hb]
                             have:=Cd h.new (h.nodes.box F h1);show F.id≠x.nx+3+8+6+7+25;omega
                           rids:=fun n d _ _ I=>absurd (by
                             rcases Ly.1 d with d |d
                             · exact h.abo n d
                             · rw[Lt.1 d]) I }
                abo:=fun n d=>by
                  rcases Ly.1 d with d |d
                  · exact h.abo n d
                  · rw[Lt.1 d]
                small:=by
                  show k+s.length<=_
                  have:=ak.1;simp only[Bl,LC] at this;omega
                sep:=fun _=>Ne.symm ar
                own:=fun _=>by
                  show(N≠[]/\A=oid)\/nx<=A;rcases E:x.N with _ |⟨F,N1⟩
                  · have:=ab.2.1 E
                    have:=h.nxs;exact .inr (by omega)
                  · have l:x.N≠[]:=by rw[E];exact fun h=>by cases h
                    rw[ab.2.2 l];exact h.own l
                keep:=fun i p a5 a6 a7=>by
                  have b5:i<nx:=by
                    rcases LY i nx with h |h
                    · exact h
                    · exact absurd (M i h) p
                  have b6:=h.nxs;have aq:i≠A:=by
                    rcases E:x.N with _ |⟨F,N1⟩
                    · have:=ab.2.1 E
                      omega
                    · have l:x.N≠[]:=by rw[E];exact fun h=>by cases h
                      rw[ab.2.2 l];rcases h.own l with⟨h1,J⟩ |h1
                      · rw[J]
                        exact a7 h1
                      · omega
                  show upd (nx+1+1) _ H i=hp i;rw[Aa,<-Q,Ai _ _ a5,Ai _ _ aq,Aa,T i (by omega) a6];exact h.keep i p a5 a6 a7
                wnew:=h.wnew
                nxs:=by
                  have:=h.nxs;show nx<=x.nx+3+8+6+7+27+11+12;omega
                mod:=by
                  show JE (Jt n G) f (Dp (x.N++_)) (List.take (k+s.length) (x.es.take k++s)).reverse=some R;rw[ND (by rw[Ld,a3];exact Lc _),If];simpa [Dp] using z }
      · refine Z1 (Y5 Y Z h.box h.nodes.map (Mf O)) ?_
        refine DF (by rfl) ?_;refine Fc ?_;simp only[JE,Js,O,LQ,OD,if_true] at z;generalize eh:upd (x.nx+3+6) _ _=a8;have V:∀i,i<x.nx->a8 i=x.hp i:=fun i p=>(by rw[<-eh,Aa,Aa]);refine⟨⟨⟨_,_,x.N,x.oid,x.over,x.ver,x.es,k,f⟩,?_⟩,Mg (DE rfl (DE (by show AV.so _ _ 0 (k-0)=AV.so _ _ 0 k;rw[Ob]) (MH _))),by show f<x.c;omega⟩;have lr:x.N≠[]->x.oid<x.nx:=fun l=>Cd h.new ((h.row l).trans (HM (by simpa using l)));exact{
                new:=fun j B=>by
                  have B:x.nx+3+8+6+7<=j:=B;show a8 j=none;rw[<-eh,Aa,Aa];exact h.new j (by omega)
                box:=(V _ (Cd h.new h.box)).trans h.box
                row:=fun l=>(V _ (lr l)).trans (h.row l)
                work:=(V _ (Cd h.new h.work)).trans h.work
                len:=by show k<=x.es.length;omega
                nodes:=h.nodes.more (V _ (Cd h.new h.nodes.map)) (fun n d=>V _ (Cd h.new (h.nodes.box n d))) fun n d I=>absurd (h.abo n d) I
                abo:=h.abo
                small:=by have:=h.small;show k<=_;omega
                sep:=h.sep
                own:=h.own
                keep:=fun i p h1 J h3=>(V _ (by
                  rcases LY i x.nx with l |l
                  · exact l
                  · have:=h.nxs
                    exact absurd (M i (by omega)) p)).trans (h.keep i p h1 J h3)
                wnew:=h.wnew
                nxs:=by have:=h.nxs;show nx<=x.nx+3+8+6+7;omega
                mod:=z }
def XY (_:Nat)(x:Int):Option Bool:=some (x != x)
theorem pI {x:Int}{r:Bool}(H:XY n x=some r):AI Tryz.prog 125 [D.v (.int .i64 x)] (D.v (.bool r)) true:=by
 unfold XY at H;refine zP #[.tmp 2] Tryz.func125 ?_;refine AP ?_;cases H;exact Ax
def aI (n:Nat)(x:Int)(y:Int):Option Int:=(XY n x).bind fun b=>(XY n y).bind fun a=>(if b then (if a then some 0 else some (-1)) else (if a then some 1 else (if decide (x<y) then some (-1) else (if decide (y<x) then some 1 else some 0))))
theorem y6 {x:Int}{y:Int}{r:Int}(H:aI n x y=some r):AI Tryz.prog 99 [D.v (.int .i64 x),D.v (.int .i64 y)] (D.v (.int .i64 r)) true:=by
 unfold aI at H;refine zP #[.tmp 4] Tryz.func99 ?_;refine ZT 1 ?_;have⟨t,k,l⟩:=AL H;refine Z0 ?_;refine Cn (pI k) ?_;have⟨u,p,s⟩:=AL l;refine Z0 ?_;refine Cn (pI p) ?_;refine Z0 ?_;obtain⟨a,c⟩ |⟨a,c⟩:=As s
 ·refine Z1 a ?_;obtain⟨d,e⟩ |⟨d,e⟩:=As c
  ·refine Z1 (Y2 a d) ?_;cases e;exact Ax
  refine Z1 (Y2 a d) ?_;cases e;exact Ax
 refine Z1 a ?_;obtain⟨f,H10⟩ |⟨f,H10⟩:=As c
 ·refine Z1 (Y2 a f) ?_;cases H10;exact Ax
 have j:=Y2 a f;refine Z1 j ?_;obtain⟨b,H12⟩ |⟨b,H12⟩:=Cg j H10
 ·refine Z1 b ?_;cases H12;exact Ax
 refine Z1 b ?_;obtain⟨h,H14⟩ |⟨h,H14⟩:=Cg b H12
 ·refine Z1 h ?_;cases H14;exact Ax
 refine Z1 h ?_;cases H14;exact Ax
def Gz (x y:Int):Int:=if x<y then -1 else if y<x then 1 else 0
theorem zD (n:Nat)(x y:Int):aI n x y=some (Gz x y):=by
 unfold aI XY Gz;simp only[bne_self_eq_false,Zo,Nr,if_false,decide_eq_true_eq];split
 ·rfl
 split<;>rfl
theorem fo {nx c s t:Nat}{a b:AB}{u x:Bool}{e f:Int}{g y x2 z A B C:AV}
  (h:hp c=some (.bx [.pt q 0])) (j:hp q=some (.bx [g,s1,s2,s3,.mo m,o])) (k:hp m=some (.mo es dl)) (E:Du es a s) (F:Du es b t)
  (l:hp s=some (.bx [.v (.int .i64 e),y,x2,z])) (p:hp t=some (.bx [.v (.int .i64 f),A,B,C])):
  AU Tryz.prog 98 [.d (.ag (AH a)) u,.d (.ag (AH b)) x,.pt c 0] hp nx fun v G H=>v= .v (.int .i64 (Gz e f))/\G=hp/\H=nx+3+20:=by
 refine AU.fresh (fun d=> ?_) ⟨Tryz.f98,Tryz.func98,by kernel_rfl,by kernel_rfl⟩;refine zr Tryz.func98 ?_;have w:=And.intro (show(nx=nx+1)=False from Ey)<|And.intro (Fp d h) (Y3 (Y6 (Fp d j) (Fp d k) (Fp d l) (Fp d p) (Md d h) (Md d j)) (Y6 (Md d k) (Md d l) (Md d p) h j k) (Y4 E F l p));refine Z1 w ?_;refine EB (y6 (zD 0 e f)) ?_;refine Ds w ?_;exact⟨_,hp,rfl,fk d,rfl,rfl,rfl⟩
def Ju {α:Type}(P:Program)(f:FuncId)(caps:List AV)(a:α->AV)(S:α->Prop)(cf:α->α->Int)(ids:List Nat)(hp0:Hp):Prop:=∀(x y:α),S x->S y->∀(b:Nat),∃c,b<=c/\∀hp:Hp,(∀i∈ids,hp i=hp0 i)->AU P f ([a x,a y]++caps) hp b fun d e h=>d= .v (.int .i64 (cf x y))/\e=hp/\h=c
theorem zF {c:Nat}{b:Bool}{g:AV}{rk:AB->Int}{ids:List Nat}
  (j:hp c=some (.bx [.pt q 0])) (k:hp q=some (.bx [g,s1,s2,s3,.mo m,o])) (l:hp m=some (.mo es dl)):
  Ju Tryz.prog 98 [.pt c 0] (fun r:AB=>.d (.ag (AH r)) b) (fun r=>∃id e f h,Du es r id/\hp id=some (.bx [.v (.int .i64 (rk r)),e,f,h])/\id∈ids) (fun a b=>Gz (rk a) (rk b)) (c::q::m::ids) hp:=by
 rintro x y ⟨p,e,f,h,s,t,u⟩ ⟨v,C,E,F,w,z,A⟩ B;refine⟨B+3+20,by omega,fun G d=> ?_⟩;exact fo (by rw[d c (by simp)];exact j) (by rw[d q (by simp)];exact k) (by rw[d m (by simp)];exact l) s w (by rw[d p (by simp[u])];exact t) (by rw[d v (by simp[A])];exact z)
def G0 {α:Type}(cf:α->α->Int)(x y:α):Bool:=decide (cf x y<0)
def JF {α:Type}(c:α->α->Bool):Nat->List α->Nat->Nat->Option (List α)
 |0,_,_,_=>none
 |_+1,b,_,0=>some b
 |f+1,b,a,j+1=>if a<j+1 then(b[j+1]?).bind fun x=>(b[j]?).bind fun y=>if c x y then JF c f ((b.set (j+1) y).set j x) a j else some b else some b
def Jv {α:Type}(c:α->α->Bool):Nat->List α->Nat->Nat->Nat->Option (List α)
 |0,_,_,_,_=>none
 |f+1,d,a,i,b=>if i<b then(JF c (f+1) d a i).bind fun e=>Jv c f e a (i+1) b else some d
theorem pP {α:Type}{d:α->α->Bool}{a:Nat}:∀ {f:Nat} {b c:List α} {j:Nat},JF d f b a j=some c->c.length=b.length
 |0,_,_,_,h=>by cases h
 |_+1,b,_,0,h=>by cases h;rfl
 |f+1,b,c,j+1,h=>by
  unfold JF at h;split at h
  ·have⟨x,e,h⟩:=AL h;have⟨y,k,h⟩:=AL h;split at h
   ·rw[pP h];simp
   cases h;rfl
  cases h;rfl
theorem pQ {α:Type}{xs:List α}{j:Nat}{x y z:α}(a:xs[i]? =some x)(b:xs[j]? =some y)(h:z∈(xs.set i y).set j x):z∈xs:=by
 rcases BA h with h |h
 ·rcases BA h with h |h
  ·exact h
  rw[h];exact Lz b
 rw[h];exact Lz a
theorem pR {α:Type}{d:α->α->Bool}{a:Nat}{z:α}:∀ {f:Nat} {b c:List α} {j:Nat},JF d f b a j=some c->z∈c->z∈b
 |0,_,_,_,h=>by cases h
 |_+1,b,_,0,h=>by cases h;exact id
 |f+1,b,c,j+1,h=>by
  unfold JF at h;split at h
  ·have⟨x,e,h⟩:=AL h;have⟨y,k,h⟩:=AL h;split at h
   ·exact fun l=>pQ e k (pR h l)
   cases h;exact id
  cases h;exact id
abbrev Ca (xs:List AB)(ver:Nat)(br:Bool):Option AO:=some (.rw (xs.map AH) 3 ver br false)
theorem JG (h:n<4611686018427387904:=by omega):i64.wrap (n:Int)=(n:Int):=IntWalk.i64_in _ (by omega)
theorem GV (h:n<4611686018427387904):i64.wrap (((n+1:Nat):Int)-1)=(n:Int):=by
 rw[show(((n+1:Nat):Int)-1)=(n:Int) by omega];exact JG h
theorem Al (h:n+1<4611686018427387904:=by omega):i64.wrap ((n:Int)+1)=((n+1:Nat):Int):=by
 rw[show(n:Int)+1=((n+1:Nat):Int) by omega];exact JG h
theorem Gd {nx:Nat}{fr a:Fr}{hp':Hp}(e:hp'=hp)(h:∀t,a t= .un\/a t=fr t):CH n ⟨a,hp',nx⟩ ⟨fr,hp,nx⟩:=by
 subst e;exact Mg h
section
variable {g:FuncId}{caps:List AV}{S:AB->Prop}{cf:AB->AB->Int}{ids:List Nat}{hp0:Hp}{br:Bool}{i ver L:Nat}
set_option maxRecDepth 4000 in
theorem pS (T:Ju Tryz.prog g caps (fun r:AB=>.d (.ag (AH r)) br) S cf ids hp0)(U:i∉ids){xs R:List AB}{f a b nx:Nat}(V:∀j∈ids,hp j=hp0 j)(X:hp i=Ca xs ver br)(Y:∀x∈xs,S x)(hL:xs.length=L)(ha:a<4611686018427387904-1)(hb:b<4611686018427387904)
  (hR:Jv (G0 cf) f xs a (a+1) b=some R):
  AU Tryz.prog 128 [.so i ver 0 L,.v (.int .i64 (a:Int)),.v (.int .i64 (b:Int)),.fn g caps] hp nx fun v Z h=>v= .tu []/\Z=upd i (Ca R ver br) hp/\nx<=h:=by
 refine zq Tryz.func128 ?_;refine AT (ZT 1 ?_);refine Z1 (Al (show a+1<_ by omega)) ?_;refine CS ?_;refine DQ (α:={ x:Nat × List AB × Nat × Nat // nx<=x.2.2.1/\(∀y∈x.2.1,S y)/\x.2.1.length=L/\Jv (G0 cf) x.2.2.2 x.2.1 a x.1 b=some R })
  (fun x=>⟨upd 0 (.so i ver 0 L) (upd 1 (.v (.int .i64 (a:Int))) (upd 2 (.v (.int .i64 (b:Int))) (upd 3 (.fn g caps) (upd 8 (.v (.int .i64 (x.1.1:Int))) AK)))),upd i (Ca x.1.2.1 ver br) hp,x.1.2.2.1⟩) (fun x=>x.1.2.2.2) ⟨(a+1,xs,nx+3,f),by show nx<=nx+3;omega,Y,hL,hR⟩ ?_ ?_
 ·rw[Fv X];exact CT
 rintro⟨⟨k,ys,E,f⟩,h1,M,O,d⟩;dsimp only at h1 M O d;obtain⟨f,rfl⟩:∃F,f=F+1:=by
  cases f with |zero=>cases d |succ f=>exact⟨f,rfl⟩
 unfold Jv at d;refine AT (AT ?_);refine ZT 1 ?_;by_cases G:k<b;rotate_left
 ·rw[if_neg G] at d;cases d;have H:(decide ((k:Int)<(b:Int)))=false:=C6;refine Fb H ?_;exact⟨_,_,rfl,⟨fun _=>.inr rfl⟩,rfl,rfl,by show nx<=E+3;omega⟩
 rw[if_pos G] at d;have⟨A,d,I⟩:=AL d;have H:(decide ((k:Int)<(b:Int)))=true:=Cp;refine Fb H ?_;refine AT (CS ?_);refine Ay ?_;refine CS ?_;refine DQ (α:={ x:Nat × List AB × Nat × Nat // nx<=x.2.2.1/\x.1<b/\(∀y∈x.2.1,S y)/\x.2.1.length=L/\JF (G0 cf) x.2.2.2 x.2.1 a x.1=some A })
  (fun x=>⟨upd 0 (.so i ver 0 L) (upd 1 (.v (.int .i64 (a:Int))) (upd 2 (.v (.int .i64 (b:Int))) (upd 3 (.fn g caps) (upd 8 (.v (.int .i64 (k:Int))) (upd 9 (.v (.int .i64 (x.1.1:Int))) AK))))),upd i (Ca x.1.2.1 ver br) hp,x.1.2.2.1⟩) (fun x=>x.1.2.2.2) ⟨(k,ys,E+3+2,f+1),by show nx<=E+3+2;omega,G,M,O,d⟩ ?_ ?_
 ·exact CT
 rintro⟨⟨j,J,h,l⟩,g1,g0,e,p,c⟩;dsimp only at g0 g1 e p c;obtain⟨l,rfl⟩:∃F,l=F+1:=by
  cases l with |zero=>cases c |succ f=>exact⟨f,rfl⟩
 refine AT (AT ?_);refine ZT 1 ?_;rcases j with _ |j
 ·have s:(decide (((0:Nat):Int) > (a:Int)))=false:=C6;have t:(decide ((a:Int)<0))=false:=C6;cases c;refine Z1 (Y2 s t) ?_;refine DF (by rfl) ?_;refine Fc ?_;refine ZT 1 ?_;refine Z1 (Al (show k+1<_ by omega)) ?_;refine⟨⟨(k+1,A,_,f),?_,e,p,I⟩,CT,Ls f⟩;show nx<=h+17+3;omega
 by_cases P:a<j+1
 ·have s:(decide (((j+1:Nat):Int) > (a:Int)))=true:=Cp;have t:(decide ((a:Int)<((j+1:Nat):Int)))=true:=Cp;unfold JF at c;rw[if_pos P] at c;have⟨x,B,c⟩:=AL c;have⟨y,u,c⟩:=AL c;have l1:(j+1<L)=True:=eq_true (by have:=(Lb.1 B).1;omega);have l2:(j<L)=True:=eq_true (by have:=(Lb.1 u).1;omega);have w:=Y2 s (Y6 t l1 l2 (GV (show j<4611686018427387904 by omega)) (Cr AH B) (Cr AH u));refine Z1 w ?_;have⟨Q,q1,q2⟩:=T x y (e x (Lz B)) (e y (Lz u)) (h+17);refine Pv (δ:=[]) (q2 _ (uV V U)) ?_;refine Qk ?_;refine ZT 1 ?_;rcases C:G0 cf x y with _ |_
  ·rw[C] at c;cases c;have K:(decide (cf x y<0))=false:=C;refine Z1 K ?_;refine ZT 1 ?_;refine Z1 (Al (show k+1<_ by omega)) ?_;refine⟨⟨(k+1,A,_,f),?_,e,p,I⟩,CT,Ls f⟩;show nx<=Q+3;omega
  rw[C,if_pos rfl] at c;have K:(decide (cf x y<0))=true:=C;refine Z1 K ?_;refine AT (CS ?_);refine ZT 1 ?_;have e3:((J.map AH).set (j+1) (AH y))[j]? =some (AH y):=by
   rw[Ou (by omega)];exact Cr AH u
  refine Z1 (Y2 w e3) ?_;refine DF (by rfl) ?_;refine Z0 ?_;refine ZT 1 ?_;refine Z1 (GV (show j<4611686018427387904 by omega)) ?_;refine⟨⟨(j,(J.set (j+1) y).set j x,_,l),?_,by show j<b;omega,fun z hz=>e z (pQ B u hz),by simpa using p,c⟩,Gd ?_ DS,Ls l⟩
  ·show nx<=Q+18+3;omega
  rw[Em,Em];show upd i (some (.rw (((J.set (j+1) y).set j x).map AH) 3 ver br false)) hp=_;rw[NK,NK]
 have s:(decide (((j+1:Nat):Int) > (a:Int)))=false:=C6;have t:(decide ((a:Int)<((j+1:Nat):Int)))=false:=C6;unfold JF at c;rw[if_neg P] at c;cases c;refine Z1 (Y2 s t) ?_;refine DF (by rfl) ?_;refine Fc ?_;refine ZT 1 ?_;refine Z1 (Al (show k+1<_ by omega)) ?_;refine⟨⟨(k+1,A,_,f),?_,e,p,I⟩,CT,Ls f⟩;show nx<=h+17+3;omega
end
end Go.Proofs.YtnmkbmefohakmaaGreat.Ab
