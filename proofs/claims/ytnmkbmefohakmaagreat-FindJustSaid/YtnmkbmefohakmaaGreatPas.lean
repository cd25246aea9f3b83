/-
 The program's structures.
-/
import Derived.Test.YtnmkbmefohakmaaGreatSk3
set_option linter.all false
namespace Go.Proofs.YtnmkbmefohakmaaGreat.Ab
open Go.RowKit IntKind
def Y9 (n:Nat)(s:List AL)(v:AL):Nat->Int->Option ((Unit) ⊕ Int)
 |0,_=>none
 |c+1,a=>(if decide (a<(s.length:Int)) then (idx s a).bind fun b=>(if ((v.type_==b.type_)&&((v.id_==b.id_)&&(v.rel==b.rel))) then some (.inr a) else Y9 n s v c (i64.wrap (a+1))) else some (.inl ()))
def ZA (n:Nat)(s:List AL)(v:AL):Option Int:=(Y9 n s v n 0:Option ((Unit) ⊕ Int)).bind fun
  | .inl _=>some (-1)
  | .inr r=>some r
variable {dl:Bool}{es:List (Value × AV)}{hp:Hp}{m n q:Nat}{o:AV}{r:AB}
theorem yU {s:List AL}{v:AL}{r:Int}(H:ZA n s v=some r):AM Tryz.prog 117 [D.sl (List.map AR s),D.ag (AR v)] (D.v (.int .i64 r)) true:=by
 unfold ZA at H;refine zP #[.tmp 4] Tryz.func117 ?_;refine JA ?_;refine zi H (fun _ _ _=>⟨AJ,AK,0⟩) (fun t k a=> ?_) fun _ a=> ?_
 ·refine D9 k (fun f h e=>⟨kp [0,3,7] f (upd 8 (.v (.int .i64 e)) AJ),kh [0] h AK,1⟩) (ZR [(0,0)]) fun c e l=> ?_
  refine AQ ?_;obtain⟨b,H15⟩ |⟨b,H15⟩:=Ah l
  ·obtain⟨u,w,x,p,H17⟩:=zI AR H15;have j:=Y2 b p;refine Dj j ?_;obtain⟨d,H23⟩ |⟨d,H23⟩:=Cb j H17
   ·refine Z1 d ?_;cases H23;cases a;exact As
   refine Z1 d ?_;exact⟨_,H23,ZR [(0,0)]⟩
  refine Z1 b ?_;cases H15;exact⟨_,rfl,ZR []⟩
 refine AQ ?_;cases a;exact As
def RZ (n:Nat)(s:List AL)(v:AL):Option Bool:=(ZA n s v).bind fun a=>some (decide (0<=a))
theorem np {s:List AL}{v:AL}{r:Bool}(H:RZ n s v=some r):AM Tryz.prog 93 [D.sl (List.map AR s),D.ag (AR v)] (D.v (.bool r)) true:=by
 unfold RZ at H;refine zP #[.tmp 4] Tryz.func93 ?_;refine ZT 1 ?_;have⟨c,a,b⟩:=AP H;refine Z0 ?_;refine CT (yU a) ?_;refine Z0 ?_;cases b;exact As
set_option maxRecDepth 4000 in
theorem Rg {nx u:Nat}{B:Bool}{G:AI}{s:AL}{rel:AZ × Bool}{C:List AL}{c:Bool}{d:List AB}{rk x F:AV}{is:AB->Bool}(a:∀j,nx<=j->hp j=none)
  (e:hp q=some (.bx [.d (.pt (Ak G) 0) true,.v (.string s.type_),.v (.string s.id_),.v (.string s.rel),.mo m,o])) (p:hp m=some (.mo es dl)) (y:Dt es r u) (z:hp u=some (.bx [rk,.d (.sl (d.map AF)) B,x,F]))
  (E:Gs n G.schema r.obj.type_ r.rel=some rel) (H:rel.1.expr= []) (I:Pl n G.index.left r.obj r.rel=some C) (J:RZ n C s=some c)
  (K:Ff hp es is d) (M:d.length<4611686018427387904):
  ∃t,nx<=t/\AT Tryz.prog 100 [.pt q 0,.ag [.v (.string r.obj.type_),.v (.string r.obj.id_),.v (.string r.rel)]] hp nx fun v O P=>v= .v (.bool (c||d.any is))/\O=hp/\P=t:=by
 obtain⟨⟨Q,R,re⟩,ro⟩:=rel;cases H;have T:nw nx q=0:=nz (Ch a e);have U:nw nx nx=1:=n7;have V:nw nx (nx+2+16)=19:=by unfold nw;omega
 have w:=And.intro (show(nx=nx+2+16)=False from Ep)<|And.intro (show(q=nx+2+16)=False from eq_false (by have:=Ch a e;omega))<|And.intro (show(m=nx+2+16)=False from eq_false (by have:=Ch a p;omega))<|And.intro (show(u=nx+2+16)=False from eq_false (by have:=Ch a z;omega))<|And.intro (FX a e) (Y6 (FX a p) (FX a z) e p y z);obtain⟨f,k⟩:∃f,f=upd (nx+2+16) (some (.bx [.v (.string Q),.d (.sl (R.map AR)) true,.d (.sl []) true])) (upd (nx+2+16) (some (.bx [.v (.string ByteArray.empty),.v (.slice none 0 0),.v (.slice none 0 0)])) (upd nx (some (.bx [.v (.string r.obj.type_),.v (.string r.obj.id_),.v (.string r.rel)])) hp)):=⟨_,rfl⟩;have A:∀ {i:Nat} {o:AO},hp i=some o->f i=some o:=fun{i o} h=>by
  have:=Ch a h;rw[k,Ac,Ac,Ac];exact h
 have less:GJ hp f:=⟨fun i=>by
  by_cases h:i<nx
  ·exact .inr (by rw[k,Ac,Ac,Ac])
  exact .inl (a i (by omega))⟩
 obtain⟨t,g1,X⟩:=n8 (nx:=nx+2+19+4+33) (b:=B) (is:=is) (l:=d) (fun j hj=>by rw[k,Ac,Ac,Ac];exact a j (by omega)) (A e) (A p) (fun r y=>by
   obtain⟨id,rk,Y,x,k1,k2⟩:=K r y;exact⟨id,rk,Y,x,k1,A k2⟩) M
 refine⟨if c then nx+2+19+4+33 else t,by split<;>omega,KL Ev FI Tryz.func100 (by rfl) (by kernel_rfl) (by kernel_rfl) (by exact NI rfl) ?_⟩;refine Z1 w ?_;refine Ds (Kf E) ?_;refine Z1 w ?_;refine JW (nw nx) _ rfl (by simp only[Nm,Nr,LA,LU,Lh,Lu,HL,T,U,V];rfl) (by rfl) ?_;refine Z1 w ?_;refine X5 (b:=true) [] (fun f E=>by exact(PW.cons (Dr.d (Cg.one (C3.rbE 2 (C3.one (b':=true) (is:=[]) rfl (fun _=>rfl)) (by rfl)) rfl)) (PW.cons (Dr.d (Cg.agP (PW.cons (C3.one (b':=false) (is:=[]) rfl (fun _=>rfl)) (PW.cons (C3.one (b':=false) (is:=[]) rfl (fun _=>rfl)) PW.nil)))) (PW.cons (Dr.d (Cg.one (C3.one (b':=false) (is:=[]) rfl (fun _=>rfl)) rfl)) PW.nil)))) (CP.of_pure (dM I)) ?_;refine Z1 w ?_;refine Ds (np J) ?_;cases c with
 |true=>
  refine Dj w ?_;exact⟨_,hp,rfl,by rw[<-k];exact less,rfl,rfl,rfl⟩
 |false=>
  refine Z1 w ?_;rw[<-k];refine K7 (δ:=[]) X ?_;refine Ki ?_;exact⟨_,hp,rfl,less,rfl,rfl,rfl⟩
structure PN where
 k:AB
 rank:Int
 deps:List AB
 above:List AB
 is:Bool
structure Nd extends PN where
 id:Nat
 rid:Nat
 ver:Nat
def pN:Option Nat->AV
 |none=>.v (.pointer none)
 |some id=>.pt id 0
def Fg (N:List Nd):List (AB × Option Nat):=N.map fun n=>(n.k,some n.id)
def Fv (N:List Nd):List (Value × AV):=Aa Em pN (Fg N)
def J9 (n:Nd):AO:=.bx [.v (.int .i64 n.rank),.d (.sl (n.deps.map AF)) false,AW n.rid n.ver (n.above.map AF),.v (.bool n.is)]
def F1 (r:AB):List Nd->Option Nd
 |[]=>none
 |n::l=>if r==n.k then some n else F1 r l
def DJ (r:AB):List PN->Option PN
 |[]=>none
 |n::l=>if r==n.k then some n else DJ r l
abbrev Dq (N:List Nd):List PN:=N.map Nd.toPN
theorem JB (r:AB):∀N:List Nd,DJ r (Dq N)=(F1 r N).map Nd.toPN
 |[]=>rfl
 |n::l=>by
  have a:=JB r l;unfold F1;show(if r==n.k then some n.toPN else DJ r (Dq l))=_;split
  ·rfl
  exact a
theorem Kk {r:AB}:∀ {N:List Nd} {n:Nd},F1 r N=some n->n∈N/\n.k=r
 |[],_,h=>by cases h
 |x::l,n,h=>by
  unfold F1 at h;split at h
  ·rename_i e;cases h;exact⟨Lp ..,(eq_of_beq e).symm⟩
  have⟨a,b⟩:=Kk h;exact⟨Lk _ a,b⟩
theorem n9 {r:AB}:∀ {N:List Nd},F1 r N=none->∀n∈N,n.k≠r
 |[],_,_,a=>by cases a
 |x::l,h,n,a=>by
  unfold F1 at h;split at h
  ·cases h
  rename_i e;rcases Lv.1 a with rfl |a
  ·exact fun b=>e (by rw[b];exact beq_self_eq_true _)
  exact n9 h n a
theorem ZH (r:AB):∀N:List Nd,mget r (Fg N)=(F1 r N).map fun n=>some n.id
 |[]=>rfl
 |n::l=>by
  have a:=ZH r l;unfold F1;by_cases e:(r==n.k)=true
  ·simp[Fg,mget,e]
  simp only[Fg,Lh,mget,e];simpa [Fg] using a
variable {N:List Nd}{i:Nat}{s1 s2 s3:AV}
theorem Kl {n:Nd}(h:F1 r N=some n):Dt (Fv N) r n.id:=by
 have:=Sz (ev:=pN) Ra r none false (Fg N);simp only[qf_,ZH,h] at this;exact this
theorem dV (h:F1 r N=none):EV (true,[.string,.string,.string]) (.agg #[.string r.obj.type_,.string r.obj.id_,.string r.rel]) (.v (.pointer none)) false (Fv N)=some (.v (.pointer none),[]):=by
 have:=Sz (ev:=pN) Ra r none false (Fg N);simp only[qf_,ZH,h] at this;exact this
theorem yd (h:F1 r N=none)(n:Nd)(b:n.k=r):Ef (true,[.string,.string,.string]) (.agg #[.string r.obj.type_,.string r.obj.id_,.string r.rel]) (.pt n.id 0) (Fv N)=some (Fv (N++[n])):=by
 have a:=Xz (ev:=pN) Ra r (some n.id) (Fg N);have⟨o,_,_,c⟩:=Mx (ev:=pN) Ra r (Fg N);have d:=(c (by rw[ZH,h];rfl)).2 (some n.id);rw[d] at a;subst b;have e:Fg N++[(n.k,some n.id)]=Fg (N++[n]):=by simp[Fg]
 rw[e] at a;exact a
structure DU (hp:Hp) (m:Nat) (N:List Nd):Prop where
 map:hp m=some (.mo (Fv N) false)
 box:∀n∈N,hp n.id=some (J9 n)
 row:∀n∈N,n.above≠[]->hp n.rid=Am 3 n.ver false (n.above.map AF)
 keys:(N.map (·.k)).Nodup
 ids:(N.map (·.id)).Nodup
 rids:∀a∈N,∀b∈N,a.above≠[]->b.above≠[]->a.rid=b.rid->a.k=b.k
theorem DU.at_ (h:DU hp m N){l:List AB}(b:∀r∈l,(F1 r N).isSome=true):Ff hp (Fv N) (fun r=>((DJ r (Dq N)).map (·.is)).getD false) l:=fun r c=>by
 have⟨n,a⟩:=NG.1 (b r c);refine⟨n.id,.v (.int .i64 n.rank),.d (.sl (n.deps.map AF)) false,AW n.rid n.ver (n.above.map AF),Kl a,?_⟩;rw[h.box n (Kk a).1];simp only[JB,a,LT,Nw];rfl
theorem Gu {sz ver:Nat}{br:Bool}{l:List AB}(h:l≠[]):Am sz ver br (l.map AF)=some (.rw (l.map AF) sz ver br false):=by
 cases l with
 |nil=>exact absurd rfl h
 |cons x r=>simp[Am]
def KA (N:List Nd):List Nat:=(N.filter fun n=> !n.above.isEmpty).map (·.rid)
theorem Rh {n:Nd}(a:n∈N)(b:n.above≠[]):n.rid∈KA N:=LG (LO.2 ⟨a,by cases h:n.above with |nil=>exact absurd h b |cons _ _=>rfl⟩)
theorem Tm (h:i∈KA N):∃n∈N,n.above≠[]/\n.rid=i:=by
 obtain⟨n,b,rfl⟩:=LL.1 h;have⟨c,a⟩:=LO.1 b;exact⟨n,c,fun e=>by rw[e] at a;simp at a,rfl⟩
theorem DU.more {hp':Hp}(h:DU hp m N)(em:hp' m=hp m)(c:∀n∈N,hp' n.id=hp n.id)(d:∀n∈N,n.above≠[]->hp' n.rid=hp n.rid):DU hp' m N where
 map:=em▸h.map
 box:=fun n a=>(c n a).trans (h.box n a)
 row:=fun n a b=>(d n a b).trans (h.row n a b)
 keys:=h.keys
 ids:=h.ids
 rids:=h.rids
theorem DU.upd_row {o:Option AO}(h:DU hp m N)(a:hp i=none\/∃es c v b f,hp i=some (.rw es c v b f))(l:i∉KA N):DU (upd i o hp) m N:=by
 have ne:∀ {j:Nat} {x:AO},hp j=some x->(∀es c v b f,x≠ .rw es c v b f)->j≠i:=fun k p e=>by
  subst e;rcases a with a |⟨es,c,v,b,f,a⟩
  ·rw[k] at a;cases a
  rw[k] at a;cases a;exact p _ _ _ _ _ rfl
 exact h.more (Aj _ _ (ne h.map fun _ _ _ _ _ e=>by cases e)) (fun n d=>Aj _ _ (ne (h.box n d) fun _ _ _ _ _ e=>by cases e)) fun n d s=>Aj _ _ fun e=>l (e▸Rh d s)
theorem DU.upd_new {o:Option AO}(h:DU hp m N)(a:hp i=none):DU (upd i o hp) m N:=h.upd_row (.inl a) fun c=>by
 have⟨n,d,b,e⟩:=Tm c
 have:=h.row n d b;rw[e,a,Gu b] at this;cases this
def JC (n:Nat)(G:AI)(r:AB):Option (Int × List AB):=(dQ n G.schema r.obj.type_ r.rel).bind fun k=>(RY n G r).map fun d=>(k,d)
def Hj (nd:AB->Option (Int × List AB)):Nat->List PN->List AB->Option (List PN)
  |0,_,_=>none
  |_+1,N,[]=>some N
  |f+1,N,r::w=>if (DJ r N).isSome then Hj nd f N w else(nd r).bind fun p=>if w.length+p.2.length<=4294967296/\N.length<4294967296 then Hj nd f (N++[⟨r,p.1,p.2,[],false⟩]) (p.2.reverse++w) else none
structure RS where
  hp:Hp
  nx:Nat
  N:List Nd
  oid:Nat
  over:Nat
  ver:Nat
  es:List AB
  n:Nat
  c:Nat
abbrev ordN (N:List Nd):List AB:=N.map (·.k)
abbrev HM (G:AI)(s1 s2 s3:AV)(m oid over:Nat)(N:List Nd):AO:=.bx [.d (.pt (Ak G) 0) true,s1,s2,s3,.mo m,AW oid over ((ordN N).map AF)]
structure dW (nd:AB->Option (Int × List AB)) (G:AI) (hp0:Hp) (nx0 q m wid oid0:Nat) (N0:List Nd) (s1 s2 s3:AV) (R:List PN) (x:RS):Prop where
  new:∀j,x.nx<=j->x.hp j=none
  box:x.hp q=some (HM G s1 s2 s3 m x.oid x.over x.N)
  row:x.N≠[]->x.hp x.oid=Am 3 x.over false ((ordN x.N).map AF)
  work:x.hp wid=some (.rw (x.es.map AF) 3 x.ver false false)
  len:x.n<=x.es.length
  nodes:DU x.hp m x.N
  abo:∀n∈x.N,n.above= []
  small:x.n<=4294967296
  sep:x.N≠[]->x.oid≠wid
  own:x.N≠[]->(N0≠[]/\x.oid=oid0)\/nx0<=x.oid
  keep:∀i,hp0 i≠none->i≠q->i≠m->(N0≠[]->i≠oid0)->x.hp i=hp0 i
  wnew:nx0<=wid
  nxs:nx0<=x.nx
  mod:Hj nd x.c (Dq x.N) (x.es.take x.n).reverse=some R
structure Ri (G:AI) (hp0:Hp) (nx0 q m oid0:Nat) (N0:List Nd) (s1 s2 s3:AV) (R:List PN) (hp:Hp) (nx:Nat):Prop where
  ex:∃N oid over,Dq N=R/\DU hp m N/\(∀n∈N,n.above= [])/\hp q=some (HM G s1 s2 s3 m oid over N)/\(N≠[]->hp oid=Am 3 over false ((ordN N).map AF))/\(N≠[]->(N0≠[]/\oid=oid0)\/nx0<=oid)
  keep:∀i,hp0 i≠none->i≠q->i≠m->(N0≠[]->i≠oid0)->hp i=hp0 i
  new:∀j,nx<=j->hp j=none
  nxs:nx0<=nx
def MY (q m nx i:Nat):Nat:=if i=q then 1 else if i=m then 2 else if i<nx then 0 else i+3-nx
theorem oA {r:AB}{n:Nd}:∀ {N:List Nd},F1 r N=none->n.k=r->F1 r (N++[n])=some n
  |[],_,h=>by
    subst h;show(if n.k==n.k then some n else none)=some n;rw[if_pos (beq_self_eq_true _)]
  |x::l,h,a=>by
    unfold F1 at h;split at h
    · cases h
    · rename_i e
      show(if r==x.k then some x else F1 r (l++[n]))=some n;rw[if_neg e];exact oA h a
def KB (a b c d e i:Nat):Nat:=if i=a then 1 else if i=b then 2 else if i=c then 3 else if i=d then 4 else if i=e then 5 else 0
theorem Km {nx:Nat}{b a:Fr}(h:∀t,a t= .un\/a t=b t):CE n ⟨a,hp,nx⟩ ⟨b,hp,nx⟩:=.weak ⟨h,fun _=>.inr rfl,Lc _⟩
def Cr (a b c d i:Nat):Nat:=if i=a then 1 else if i=b then 2 else if i=c then 3 else if i=d then 4 else 0
set_option maxRecDepth 4000 in
theorem ye {nx oid over c:Nat}{vr:AV}{G:AI}{r0:AB}{R:List PN}(M:∀j,nx<=j->hp j=none)
    (hq:hp q=some (HM G s1 s2 s3 m oid over N)) (ho:N≠[]->hp oid=Am 3 over false ((ordN N).map AF)) (hN:DU hp m N) (I:∀n∈N,n.above= []) (hR:Hj (JC n G) c (Dq N) [r0]=some R) (hv:EB vr=some [.v (.string r0.obj.type_),.v (.string r0.obj.id_),.v (.string r0.rel)]):
    AT Tryz.prog 66 [.pt q 0,vr] hp nx fun v be bg=>v= .tu []/\Ri G hp nx q m oid N s1 s2 s3 R be bg:=by
  refine zq Tryz.func66 ?_;have w:=Y2 (FX M hq) (Y2 hv hq);refine AU (ZT 1 ?_);refine Gt w ?_;refine CV ?_;have a2:N≠[]->oid<nx:=fun h=>Ch M ((ho h).trans (Gu (by simpa using h)));refine DV (α:={ x:RS // dW (JC n G) G hp nx q m (nx+1+1) oid N s1 s2 s3 R x }) (fun x=>⟨upd 0 (.pt q 0) (upd 4 (.so (nx+1+1) x.1.ver 0 x.1.n) AJ),x.1.hp,x.1.nx⟩) (fun x=>x.1.c) ⟨⟨upd (nx+1+1) (some (.rw [AF r0] 3 0 false false)) hp,nx+1+3,N,oid,over,0,[r0],1,c⟩,?_⟩ ?_ ?_
  · have e:∀i,i<nx->upd (nx+1+1) (some (AO.rw [AF r0] 3 0 false false)) hp i=hp i:=fun i p=>Ac
    exact{
            new:=fun j B=>by
              have B:nx+1+3<=j:=B;show upd (nx+1+1) _ hp j=none;rw[Ac];exact M j (by omega)
            box:=(e q (Ch M hq)).trans hq
            row:=fun h=>(e oid (a2 h)).trans (ho h)
            work:=At ..
            len:=Lc _
            nodes:=hN.upd_new (M _ (by omega))
            abo:=I
            small:=by show 1<=4294967296;omega
            sep:=fun h=>by have:=a2 h;show oid≠nx+1+1;omega
            own:=fun h=>.inl ⟨h,rfl⟩
            keep:=fun i p _ _ _=>e i (by
              rcases Nt i nx with h |h
              · exact h
              · exact absurd (M i h) p)
            wnew:=by omega
            nxs:=by show nx<=nx+1+3;omega
            mod:=hR }
  · refine .weak ⟨fun t=> ?_,fun i=> ?_,Lc _⟩
    · show upd 0 _ _ t=AV.un\/_
      by_cases l:t=0
      · subst l
        exact .inr rfl
      · by_cases X:t=4
        · subst X
          exact .inr rfl
        · refine .inl ?_
          rw[Aj _ _ l,Aj _ _ X];rfl
    · show upd (nx+1+1) _ hp i=none\/upd (nx+1+1) _ hp i=upd (nx+1+1) _ (upd nx _ hp) i
      by_cases h1:i=nx+1+1
      · subst h1
        exact .inr (by rw[At,At])
      · by_cases J:i=nx
        · subst J
          exact .inl (by rw[Aj _ _ h1];exact M i (Lc _))
        · exact .inr (by rw[Aj _ _ h1,Aj _ _ h1,Aj _ _ J])
  · rintro⟨x,h⟩
    have z:=h.mod;obtain⟨f,hc⟩:∃f,x.c=f+1:=by
      cases e:x.c with |zero=>rw[e] at z;cases z |succ f=>exact⟨f,rfl⟩
    rw[hc] at z;refine Dy ?_;rcases d:x.n with _ |k
    · have h1:(decide (((0:Nat):Int) > 0))=false:=rfl
      refine ES d ?_;refine⟨_,x.hp,rfl,⟨fun _=>.inr rfl⟩,rfl,?_⟩;rw[d] at z;have bl:Dq x.N=R:=LI z;exact⟨⟨x.N,x.oid,x.over,bl,h.nodes,h.abo,h.box,h.row,h.own⟩,h.keep,fun j B=>h.new j (Lq (by show x.nx<=x.nx+3;omega) B),by have:=h.nxs;show nx<=x.nx+3;omega⟩
    · have h1:(decide (((k+1:Nat):Int) > 0))=true:=DB
      have J:(decide ((0:Int)<((k+1:Nat):Int)))=true:=DB;refine ZT 1 ?_;refine Z1 (Y3 d h1 J) ?_;refine CV ?_;refine AU ?_;have hk:k<x.es.length:=(by have:=h.len;omega);obtain⟨r,hr⟩:∃r,x.es[k]? =some r:=⟨_,Le hk⟩;have h3:i64.wrap (((k+1:Nat):Int)-1)=(k:Int):=by
        have:=h.small;rw[show(((k+1:Nat):Int)-1)=(k:Int) by omega];exact IntWalk.i64_in _ (by omega)
      have X:(k<k+1)=True:=eq_true (Ls k);have h5:=Cz AF hr;have h6:=h.work;have bo:(x.es.take (k+1)).reverse=r::(x.es.take k).reverse:=by
        rw[BJ,hr];simp
      rw[d,bo] at z;refine ZT 1 ?_;refine Z1 (Y5 d h3 X h5 h6) ?_;refine AU (ZT 1 ?_);have h7:(k<=k+1)=True:=eq_true (Bj k);have h8:(nx+1+1=x.nx+3+6)=False:=eq_false (by have:=Ch h.new h.work;omega);refine Z1 (Y6 d h3 X h7 h8 h6) ?_;refine AU (AU ?_);refine ZT 1 ?_;have Y:(q=x.nx+3+6)=False:=eq_false (by have:=Ch h.new h.box;omega);have Z:(m=x.nx+3+6)=False:=eq_false (by have:=Ch h.new h.nodes.map;omega);rcases O:F1 r x.N with _ |n0
      · refine Z1 (Y5 Y Z h.box h.nodes.map (dV O)) ?_
        refine DD (by rfl) ?_;refine FN ?_;refine AU (ZT 1 ?_);refine Z1 (Y5 Y Z h.box h.nodes.map (dV O)) ?_;simp only[Hj,JB,O,Option.map_none,Option.isSome_none,Nb,if_false] at z;have⟨⟨P,s⟩,aa,z⟩:=AP z;have⟨b7,bs,aa⟩:=AP aa;have⟨b8,bx,aa⟩:=La.1 aa;cases aa;split at z;rotate_left
        · cases z
        rename_i ak;refine Ds (yT bs) ?_;refine Z1 (Y5 Y Z h.box h.nodes.map (dV O)) ?_;refine Ds (yS bx) ?_;have b0:=yd O ⟨⟨r,P,s,[],false⟩,x.nx+3+8+6+7+25,0,0⟩ rfl;have b1:(m=x.nx+3+8+6+7+25)=False:=eq_false (by have:=Ch h.new h.nodes.map;omega);refine Z1 (Y6 Y Z b1 h.box h.nodes.map b0) ?_;have ad:q≠m:=fun e=>by
          have u:=h.box;rw[e,h.nodes.map] at u;cases u
        have lq:=Ch h.new h.box;have lm:=Ch h.new h.nodes.map;have g1:MY q m x.nx q=1:=(by simp[MY]);have g2:MY q m x.nx m=2:=(by simp[MY,Ne.symm ad]);have g3:MY q m x.nx (x.nx+3+6)=12:=(by unfold MY;rw[ifn,ifn,ifn];omega);have g4:MY q m x.nx (x.nx+3+8+6+7+25)=52:=(by unfold MY;rw[ifn,ifn,ifn];omega);refine JW (MY q m x.nx) _ rfl (by simp only[Nm,Nr,LA,LU,Lh,Lu,HL,g1,g2,g3,g4];rfl) (by rfl) ?_;refine Z0 ?_;generalize e6:upd m _ _=K;have T:∀i,i<x.nx->i≠m->K i=x.hp i:=fun i h1 J=>(by rw[<-e6,Aj _ _ J,Ac,Ac,Ac]);have m6:K m=some (.mo (Fv (x.N++[⟨⟨r,P,s,[],false⟩,x.nx+3+8+6+7+25,0,0⟩])) false):=(by rw[<-e6,At]);have i6:K (x.nx+3+8+6+7+25)=some (.bx [.v (.int .i64 P),.d (.sl (s.map AF)) false,.v (.slice none 0 0),.v (.bool false)]):=(by rw[<-e6,Ac,At]);have c6:K (x.nx+3+6)=some (.bx [.v (.string r.obj.type_),.v (.string r.obj.id_),.v (.string r.rel)]):=(by rw[<-e6,Ac,Ac,At]);have n6:∀j,x.nx+3+8+6+7+27<=j->K j=none:=fun j B=>(by rw[<-e6,Ac,Ac,Ac,Ac];exact h.new j (by omega));have oN:x.N≠[]->x.oid<x.nx:=fun l=>Ch h.new ((h.row l).trans (Gu (by simpa using l)));obtain⟨C,eo,ag,a3,ao⟩:∃C,AW x.oid x.over ((ordN x.N).map AF)=AW C x.over ((ordN x.N).map AF)/\K C=Am 3 x.over false ((ordN x.N).map AF)/\(∀j,j<100->C≠x.nx+3+8+6+7+27+j)/\(x.N≠[]->C=x.oid):=by
          rcases E:x.N with _ |⟨F,N1⟩
          · exact⟨x.nx+3+8+6+7+27+1000,rfl,n6 _ (by omega),fun j B=>by omega,fun h=>absurd rfl h⟩
          · rw[<-E]
            have l:x.N≠[]:=by rw[E];exact fun h=>by cases h
            have:=oN l;refine⟨x.oid,rfl,?_,fun j B=>by omega,fun _=>rfl⟩;rw[T _ this fun e=>by
              have u:=h.row l;rw[e,h.nodes.map,Gu (by simpa using l)] at u;cases u]
            exact h.row l
        have q6:K q=some (.bx [.d (.pt (Ak G) 0) true,s1,s2,s3,.mo m,AW C x.over ((ordN x.N).map AF)]):=by
          rw[T q lq ad,h.box,HM,eo]
        refine AU (ZT 1 ?_);obtain⟨A,U⟩:∃A,A=CF (x.nx+3+8+6+7+27+7) C ((ordN x.N).map AF):=⟨_,rfl⟩;have hA:∀(i:Nat) (y:AO),K i=some y->(∀es sz v b f,y≠ .rw es sz v b f)->i≠A:=fun i y p hy e=>by
          rw[e,U] at p;cases hL:(ordN x.N).map AF with
          |nil=>
            rw[hL] at p
            have:=n6 (x.nx+3+8+6+7+27+7) (by omega);rw[show K (x.nx+3+8+6+7+27+7)=some y from p] at this;cases this
          |cons c0 l0=>
            rw[hL] at p ag;rw[show K C=some y from p] at ag;cases ag;exact hy _ _ _ _ _ rfl
        have aq:q≠A:=hA _ _ q6 fun _ _ _ _ _ e=>(by cases e);have a4:x.nx+3+6≠A:=hA _ _ c6 fun _ _ _ _ _ e=>(by cases e);have b2:m≠A:=hA _ _ m6 fun _ _ _ _ _ e=>(by cases e);have av:x.nx+3+8+6+7+25≠A:=hA _ _ i6 fun _ _ _ _ _ e=>(by cases e);have b3:x.nx+3+8+6+7+27+6≠A:=by
          rw[U];cases hL:(ordN x.N).map AF with |nil=>show x.nx+3+8+6+7+27+6≠x.nx+3+8+6+7+27+7;omega |cons _ _=>exact(a3 6 (by omega)).symm
        have w7:=Y2 (show(q=CF (x.nx+3+8+6+7+27+7) C ((ordN x.N).map AF))=False from eq_false (U▸aq)) (Y2 (Y6 q6 c6 ag (show(C=x.nx+3+8+6+7+27+6)=False from eq_false (a3 6 (by omega))) (show(q=x.nx+3+8+6+7+27+6)=False from Ep) (show(x.nx+3+6=x.nx+3+8+6+7+27+6)=False from Ep)) (show(x.N.length+1<=4294967296)=True from eq_true (by have:=ak.2;simp only[Lt] at this;omega)));refine Z1 w7 ?_;rw[<-U];have g1:Cr q A (x.nx+3+6) (x.nx+3+8+6+7+27+6) q=1:=(by simp[Cr]);have g2:Cr q A (x.nx+3+6) (x.nx+3+8+6+7+27+6) A=2:=(by simp[Cr,Ne.symm aq]);have g3:Cr q A (x.nx+3+6) (x.nx+3+8+6+7+27+6) (x.nx+3+6)=3:=(by unfold Cr;rw[ifn,if_neg a4,if_pos rfl]);have g4:Cr q A (x.nx+3+6) (x.nx+3+8+6+7+27+6) (x.nx+3+8+6+7+27+6)=4:=(by unfold Cr;rw[ifn,if_neg b3,ifn,if_pos rfl]);refine JW (Cr q A (x.nx+3+6) (x.nx+3+8+6+7+27+6)) _ rfl (by simp only[Nm,Nr,LA,LU,Lh,Lu,HL,g1,g2,g3,g4];rfl) (by rfl) ?_;refine Z0 ?_;generalize Q:upd q _ _=H;have lw:=Ch h.new h.work;have aE:nx+1+1≠A:=by
          rw[U];rcases E:x.N with _ |⟨F,N1⟩
          · show _≠x.nx+3+8+6+7+27+7
            omega
          · have l:x.N≠[]:=by rw[E];exact fun h=>by cases h
            show nx+1+1≠C;rw[ao l];exact(h.sep l).symm
        have a0:nx+1+1≠m:=fun e=>by
          have u:=h.work;rw[e,h.nodes.map] at u;cases u
        have a1:nx+1+1≠q:=fun e=>by
          have u:=h.work;rw[e,h.box] at u;cases u
        have q7:H q=some (HM G s1 s2 s3 m A (CG x.over ((ordN x.N).map AF)) (x.N++[⟨⟨r,P,s,[],false⟩,x.nx+3+8+6+7+25,0,0⟩])):=by
          rw[<-Q,At,HM,JN (by simp)];simp
        have m7:H m=some (.mo (Fv (x.N++[⟨⟨r,P,s,[],false⟩,x.nx+3+8+6+7+25,0,0⟩])) false):=(by rw[<-Q,Aj _ _ (Ne.symm ad),Aj _ _ b2,Ac,m6]);have i7:H (x.nx+3+8+6+7+25)=some (.bx [.v (.int .i64 P),.d (.sl (s.map AF)) false,.v (.slice none 0 0),.v (.bool false)]):=(by rw[<-Q,Ac,Aj _ _ av,Ac,i6]);have c7:H (x.nx+3+6)=some (.bx [.v (.string r.obj.type_),.v (.string r.obj.id_),.v (.string r.rel)]):=(by rw[<-Q,Ac,Aj _ _ a4,Ac,c6]);have w7:H (nx+1+1)=some (.rw (x.es.map AF) 3 x.ver false false):=(by rw[<-Q,Aj _ _ a1,Aj _ _ aE,Ac,T _ lw a0,h6]);have b4:F1 r (x.N++[⟨⟨r,P,s,[],false⟩,x.nx+3+8+6+7+25,0,0⟩])=some ⟨⟨r,P,s,[],false⟩,x.nx+3+8+6+7+25,0,0⟩:=oA O rfl;refine ZT 1 ?_;have b5:EZ 3 (s.map AF)=true:=Fm (f:=AF) (fun _=>rfl) _;refine Z1 (Y2 (Y6 q7 m7 i7 c7 w7 (Kl b4)) (Y4 (show(k<=x.es.length)=True from Fa) b5 (BP k) (show(k+s.length<=4294967296)=True from eq_true (by have:=ak.1;simp only[Be,Lx] at this;omega)))) ?_;have g1:KB (nx+1+1) q m (x.nx+3+6) (x.nx+3+8+6+7+25) (nx+1+1)=1:=(by simp[KB]);have g2:KB (nx+1+1) q m (x.nx+3+6) (x.nx+3+8+6+7+25) q=2:=(by simp[KB,Ne.symm a1]);have g3:KB (nx+1+1) q m (x.nx+3+6) (x.nx+3+8+6+7+25) m=3:=(by simp[KB,Ne.symm a0,Ne.symm ad]);have g4:KB (nx+1+1) q m (x.nx+3+6) (x.nx+3+8+6+7+25) (x.nx+3+6)=4:=(by unfold KB;rw[ifn,ifn,ifn,if_pos rfl]);have g5:KB (nx+1+1) q m (x.nx+3+6) (x.nx+3+8+6+7+25) (x.nx+3+8+6+7+25)=5:=(by unfold KB;rw[ifn,ifn,ifn,ifn,if_pos rfl]);refine JW (KB (nx+1+1) q m (x.nx+3+6) (x.nx+3+8+6+7+25)) _ rfl (by simp only[Nm,Nr,LA,LU,Lh,Lu,HL,g1,g2,g3,g4,g5];rfl) (by rfl) ?_;refine Z0 ?_;have b6:∀n∈x.N,H n.id=some (J9 n):=fun n d=>by
          have u:=h.nodes.box n d;have l1:=Ch h.new u;have F:n.id≠m:=fun e=>by
            rw[e,h.nodes.map] at u;cases u
          have n2:n.id≠q:=fun e=>by
            rw[e,h.box] at u;cases u
          have n3:=hA n.id _ ((T _ l1 F).trans u) fun _ _ _ _ _ e=>(by cases e);rw[<-Q,Aj _ _ n2,Aj _ _ n3,Ac,T _ l1 F,u]
        refine⟨⟨⟨_,_,x.N++[⟨⟨r,P,s,[],false⟩,x.nx+3+8+6+7+25,0,0⟩],A,CG x.over ((ordN x.N).map AF),x.ver+1,x.es.take k++s,k+s.length,f⟩,?_⟩,Km DW,by show f<x.c;omega⟩;have ab:A<x.nx+3+8+6+7+27+8/\(x.N= []->x.nx<=A)/\(x.N≠[]->A=x.oid):=by
          rw[U];rcases E:x.N with _ |⟨F,N1⟩
          · exact⟨by show x.nx+3+8+6+7+27+7<_;omega,fun _=>by show _<=x.nx+3+8+6+7+27+7;omega,fun h=>absurd rfl h⟩
          · have l:x.N≠[]:=by rw[E];exact fun h=>by cases h
            have:=oN l;rw[<-ao l] at this;exact⟨by show C<_;omega,fun h=>(by cases h),fun _=>ao l⟩
        have a5:(x.es.take k).length=k:=(by rw[Lx];omega);exact{
                new:=fun j B=>by
                  have B:x.nx+3+8+6+7+27+11+12<=j:=B
                  have:=ab.1;show upd (nx+1+1) _ H j=none;rw[Ac,<-Q,Ac,Ac,Ac,n6 _ (by omega)]
                box:=(Aj _ _ (Ne.symm a1)).trans q7
                row:=fun _=>by
                  show upd (nx+1+1) _ H A=_;rw[Aj _ _ (Ne.symm aE),<-Q,Aj _ _ (Ne.symm aq),At,U1 (by simp)];simp
                work:=by
                  show upd (nx+1+1) _ H (nx+1+1)=_;rw[At,LX,NZ]
                len:=by
                  show k+s.length<=(x.es.take k++s).length;rw[Ld,a5];exact Lc _
                nodes:={
                           map:=(Aj _ _ (Ne.symm a0)).trans m7
                           box:=fun n d=>by
                             have a6:∀i (y:AO),H i=some y->(∀es sz v b f,y≠ .rw es sz v b f)->upd (nx+1+1) (some (AO.rw (List.take k (List.map AF x.es)++List.map AF s) 3 (x.ver+1) false false)) H i=some y:=fun i y p hy=>by
                               rw[Aj _ _ fun e=>by
                                 rw[e,w7] at p;cases p;exact hy _ _ _ _ _ rfl]
                               exact p
                             rcases Lw.1 d with d |d
                             · exact a6 _ _ (b6 n d) fun _ _ _ _ _ e=>by cases e
                             · rw[Lr.1 d]
                               exact a6 _ _ i7 fun _ _ _ _ _ e=>by cases e
                           row:=fun n d I=>absurd (by
                             rcases Lw.1 d with d |d
                             · exact h.abo n d
                             · rw[Lr.1 d]) I
                           keys:=by
                             rw[LX];refine N8.2 ⟨h.nodes.keys,Nj.2 ⟨Bh,NV⟩,fun a I b hb=> ?_⟩;obtain⟨F,h1,rfl⟩:=LL.1 I;rw[Lr.1 hb];exact n9 O F h1
                           ids:=by
                             rw[LX];refine N8.2 ⟨h.nodes.ids,Nj.2 ⟨Bh,NV⟩,fun a I b hb=> ?_⟩;obtain⟨F,h1,rfl⟩:=LL.1 I;rw[Lr.1 hb]
                             have:=Ch h.new (h.nodes.box F h1);show F.id≠x.nx+3+8+6+7+25;omega
                           rids:=fun n d _ _ I=>absurd (by
                             rcases Lw.1 d with d |d
                             · exact h.abo n d
                             · rw[Lr.1 d]) I }
                abo:=fun n d=>by
                  rcases Lw.1 d with d |d
                  · exact h.abo n d
                  · rw[Lr.1 d]
                small:=by
                  show k+s.length<=_
                  have:=ak.1;simp only[Be,Lx] at this;omega
                sep:=fun _=>Ne.symm aE
                own:=fun _=>by
                  show(N≠[]/\A=oid)\/nx<=A;rcases E:x.N with _ |⟨F,N1⟩
                  · have:=ab.2.1 E
                    have:=h.nxs;exact .inr (by omega)
                  · have l:x.N≠[]:=by rw[E];exact fun h=>by cases h
                    rw[ab.2.2 l];exact h.own l
                keep:=fun i p a9 ba bb=>by
                  have b9:i<nx:=by
                    rcases Nt i nx with h |h
                    · exact h
                    · exact absurd (M i h) p
                  have cb:=h.nxs;have av:i≠A:=by
                    rcases E:x.N with _ |⟨F,N1⟩
                    · have:=ab.2.1 E
                      omega
                    · have l:x.N≠[]:=by rw[E];exact fun h=>by cases h
                      rw[ab.2.2 l];rcases h.own l with⟨h1,J⟩ |h1
                      · rw[J]
                        exact bb h1
                      · omega
                  show upd (nx+1+1) _ H i=hp i;rw[Ac,<-Q,Aj _ _ a9,Aj _ _ av,Ac,T i (by omega) ba];exact h.keep i p a9 ba bb
                wnew:=h.wnew
                nxs:=by
                  have:=h.nxs;show nx<=x.nx+3+8+6+7+27+11+12;omega
                mod:=by
                  show Hj (JC n G) f (Dq (x.N++_)) (List.take (k+s.length) (x.es.take k++s)).reverse=some R;rw[Nu (by rw[Ld,a5];exact Lc _),Ic];simpa [Dq] using z }
      · refine Z1 (Y5 Y Z h.box h.nodes.map (Kl O)) ?_
        refine DD (by rfl) ?_;refine FN ?_;simp only[Hj,JB,O,LT,Ox,if_true] at z;generalize eh:upd (x.nx+3+6) _ _=bd;have V:∀i,i<x.nx->bd i=x.hp i:=fun i p=>(by rw[<-eh,Ac,Ac]);refine⟨⟨⟨_,_,x.N,x.oid,x.over,x.ver,x.es,k,f⟩,?_⟩,Km (DO rfl (DO (by show AV.so _ _ 0 (k-0)=AV.so _ _ 0 k;rw[BP]) (KM _))),by show f<x.c;omega⟩;have lr:x.N≠[]->x.oid<x.nx:=fun l=>Ch h.new ((h.row l).trans (Gu (by simpa using l)));exact{
                new:=fun j B=>by
                  have B:x.nx+3+8+6+7<=j:=B;show bd j=none;rw[<-eh,Ac,Ac];exact h.new j (by omega)
                box:=(V _ (Ch h.new h.box)).trans h.box
                row:=fun l=>(V _ (lr l)).trans (h.row l)
                work:=(V _ (Ch h.new h.work)).trans h.work
                len:=by show k<=x.es.length;omega
                nodes:=h.nodes.more (V _ (Ch h.new h.nodes.map)) (fun n d=>V _ (Ch h.new (h.nodes.box n d))) fun n d I=>absurd (h.abo n d) I
                abo:=h.abo
                small:=by have:=h.small;show k<=_;omega
                sep:=h.sep
                own:=h.own
                keep:=fun i p h1 J h3=>(V _ (by
                  rcases Nt i x.nx with l |l
                  · exact l
                  · have:=h.nxs
                    exact absurd (M i (by omega)) p)).trans (h.keep i p h1 J h3)
                wnew:=h.wnew
                nxs:=by have:=h.nxs;show nx<=x.nx+3+8+6+7;omega
                mod:=z }
def WW (_:Nat)(x:Int):Option Bool:=some (x != x)
theorem nv {x:Int}{r:Bool}(H:WW n x=some r):AM Tryz.prog 125 [D.v (.int .i64 x)] (D.v (.bool r)) true:=by
 unfold WW at H;refine zP #[.tmp 2] Tryz.func125 ?_;refine AQ ?_;cases H;exact As
def ZD (n:Nat)(x:Int)(y:Int):Option Int:=(WW n x).bind fun b=>(WW n y).bind fun a=>(if b then (if a then some 0 else some (-1)) else (if a then some 1 else (if decide (x<y) then some (-1) else (if decide (y<x) then some 1 else some 0))))
theorem yY {x:Int}{y:Int}{r:Int}(H:ZD n x y=some r):AM Tryz.prog 99 [D.v (.int .i64 x),D.v (.int .i64 y)] (D.v (.int .i64 r)) true:=by
 unfold ZD at H;refine zP #[.tmp 4] Tryz.func99 ?_;refine ZT 1 ?_;have⟨t,k,l⟩:=AP H;refine Z0 ?_;refine CT (nv k) ?_;have⟨u,p,s⟩:=AP l;refine Z0 ?_;refine CT (nv p) ?_;refine Z0 ?_;obtain⟨a,c⟩ |⟨a,c⟩:=Ah s
 ·refine Z1 a ?_;obtain⟨d,e⟩ |⟨d,e⟩:=Ah c
  ·refine Z1 (Y2 a d) ?_;cases e;exact As
  refine Z1 (Y2 a d) ?_;cases e;exact As
 refine Z1 a ?_;obtain⟨f,H10⟩ |⟨f,H10⟩:=Ah c
 ·refine Z1 (Y2 a f) ?_;cases H10;exact As
 have j:=Y2 a f;refine Z1 j ?_;obtain⟨b,H12⟩ |⟨b,H12⟩:=Cb j H10
 ·refine Z1 b ?_;cases H12;exact As
 refine Z1 b ?_;obtain⟨h,H14⟩ |⟨h,H14⟩:=Cb b H12
 ·refine Z1 h ?_;cases H14;exact As
 refine Z1 h ?_;cases H14;exact As
def GU (x y:Int):Int:=if x<y then -1 else if y<x then 1 else 0
theorem yf (n:Nat)(x y:Int):ZD n x y=some (GU x y):=by
 unfold ZD WW GU;simp only[bne_self_eq_false,Zo,Nb,if_false,decide_eq_true_eq];split
 ·rfl
 split<;>rfl
theorem dX {nx c s t:Nat}{a b:AB}{u x:Bool}{e f:Int}{g y x2 z A B C:AV}
  (h:hp c=some (.bx [.pt q 0])) (j:hp q=some (.bx [g,s1,s2,s3,.mo m,o])) (k:hp m=some (.mo es dl)) (E:Dt es a s) (F:Dt es b t)
  (l:hp s=some (.bx [.v (.int .i64 e),y,x2,z])) (p:hp t=some (.bx [.v (.int .i64 f),A,B,C])):
  AT Tryz.prog 98 [.d (.ag (AF a)) u,.d (.ag (AF b)) x,.pt c 0] hp nx fun v G H=>v= .v (.int .i64 (GU e f))/\G=hp/\H=nx+3+20:=by
 refine AT.fresh (fun d=> ?_) ⟨Tryz.f98,Tryz.func98,by kernel_rfl,by kernel_rfl⟩;refine zr Tryz.func98 ?_;have w:=And.intro (show(nx=nx+1)=False from Ep)<|And.intro (FX d h) (Y3 (Y6 (FX d j) (FX d k) (FX d l) (FX d p) (Kj d h) (Kj d j)) (Y6 (Kj d k) (Kj d l) (Kj d p) h j k) (Y4 E F l p));refine Z1 w ?_;refine Ds (yY (yf 0 e f)) ?_;refine Dj w ?_;exact⟨_,hp,rfl,dU d,rfl,rfl,rfl⟩
def JD {α:Type}(P:Program)(f:FuncId)(caps:List AV)(a:α->AV)(S:α->Prop)(cf:α->α->Int)(ids:List Nat)(hp0:Hp):Prop:=∀(x y:α),S x->S y->∀(b:Nat),∃c,b<=c/\∀hp:Hp,(∀i∈ids,hp i=hp0 i)->AT P f ([a x,a y]++caps) hp b fun d e h=>d= .v (.int .i64 (cf x y))/\e=hp/\h=c
theorem yg {c:Nat}{b:Bool}{g:AV}{rk:AB->Int}{ids:List Nat}
  (j:hp c=some (.bx [.pt q 0])) (k:hp q=some (.bx [g,s1,s2,s3,.mo m,o])) (l:hp m=some (.mo es dl)):
  JD Tryz.prog 98 [.pt c 0] (fun r:AB=>.d (.ag (AF r)) b) (fun r=>∃id e f h,Dt es r id/\hp id=some (.bx [.v (.int .i64 (rk r)),e,f,h])/\id∈ids) (fun a b=>GU (rk a) (rk b)) (c::q::m::ids) hp:=by
 rintro x y ⟨p,e,f,h,s,t,u⟩ ⟨v,C,E,F,w,z,A⟩ B;refine⟨B+3+20,by omega,fun G d=> ?_⟩;exact dX (by rw[d c (by simp)];exact j) (by rw[d q (by simp)];exact k) (by rw[d m (by simp)];exact l) s w (by rw[d p (by simp[u])];exact t) (by rw[d v (by simp[A])];exact z)
def GV {α:Type}(cf:α->α->Int)(x y:α):Bool:=decide (cf x y<0)
def Hk {α:Type}(c:α->α->Bool):Nat->List α->Nat->Nat->Option (List α)
 |0,_,_,_=>none
 |_+1,b,_,0=>some b
 |f+1,b,a,j+1=>if a<j+1 then(b[j+1]?).bind fun x=>(b[j]?).bind fun y=>if c x y then Hk c f ((b.set (j+1) y).set j x) a j else some b else some b
def JE {α:Type}(c:α->α->Bool):Nat->List α->Nat->Nat->Nat->Option (List α)
 |0,_,_,_,_=>none
 |f+1,d,a,i,b=>if i<b then(Hk c (f+1) d a i).bind fun e=>JE c f e a (i+1) b else some d
theorem oB {α:Type}{d:α->α->Bool}{a:Nat}:∀ {f:Nat} {b c:List α} {j:Nat},Hk d f b a j=some c->c.length=b.length
 |0,_,_,_,h=>by cases h
 |_+1,b,_,0,h=>by cases h;rfl
 |f+1,b,c,j+1,h=>by
  unfold Hk at h;split at h
  ·have⟨x,e,h⟩:=AP h;have⟨y,k,h⟩:=AP h;split at h
   ·rw[oB h];simp
   cases h;rfl
  cases h;rfl
theorem oC {α:Type}{xs:List α}{j:Nat}{x y z:α}(a:xs[i]? =some x)(b:xs[j]? =some y)(h:z∈(xs.set i y).set j x):z∈xs:=by
 rcases Br h with h |h
 ·rcases Br h with h |h
  ·exact h
  rw[h];exact Ly b
 rw[h];exact Ly a
theorem oD {α:Type}{d:α->α->Bool}{a:Nat}{z:α}:∀ {f:Nat} {b c:List α} {j:Nat},Hk d f b a j=some c->z∈c->z∈b
 |0,_,_,_,h=>by cases h
 |_+1,b,_,0,h=>by cases h;exact id
 |f+1,b,c,j+1,h=>by
  unfold Hk at h;split at h
  ·have⟨x,e,h⟩:=AP h;have⟨y,k,h⟩:=AP h;split at h
   ·exact fun l=>oC e k (oD h l)
   cases h;exact id
  cases h;exact id
abbrev Cd (xs:List AB)(ver:Nat)(br:Bool):Option AO:=some (.rw (xs.map AF) 3 ver br false)
theorem Hl (h:n<4611686018427387904:=by omega):i64.wrap (n:Int)=(n:Int):=IntWalk.i64_in _ (by omega)
theorem GB (h:n<4611686018427387904):i64.wrap (((n+1:Nat):Int)-1)=(n:Int):=by
 rw[show(((n+1:Nat):Int)-1)=(n:Int) by omega];exact Hl h
theorem Ar (h:n+1<4611686018427387904:=by omega):i64.wrap ((n:Int)+1)=((n+1:Nat):Int):=by
 rw[show(n:Int)+1=((n+1:Nat):Int) by omega];exact Hl h
theorem GE {nx:Nat}{b a:Fr}{hp':Hp}(e:hp'=hp)(h:∀t,a t= .un\/a t=b t):CE n ⟨a,hp',nx⟩ ⟨b,hp,nx⟩:=by
 subst e;exact Km h
section
variable {g:FuncId}{caps:List AV}{S:AB->Prop}{cf:AB->AB->Int}{ids:List Nat}{hp0:Hp}{br:Bool}{i ver L:Nat}
set_option maxRecDepth 4000 in
theorem oE (T:JD Tryz.prog g caps (fun r:AB=>.d (.ag (AF r)) br) S cf ids hp0)(U:i∉ids){xs R:List AB}{f a b nx:Nat}(V:∀j∈ids,hp j=hp0 j)(X:hp i=Cd xs ver br)(Y:∀x∈xs,S x)(hL:xs.length=L)(ha:a<4611686018427387904-1)(hb:b<4611686018427387904)
  (hR:JE (GV cf) f xs a (a+1) b=some R):
  AT Tryz.prog 128 [.so i ver 0 L,.v (.int .i64 (a:Int)),.v (.int .i64 (b:Int)),.fn g caps] hp nx fun v Z h=>v= .tu []/\Z=upd i (Cd R ver br) hp/\nx<=h:=by
 refine zq Tryz.func128 ?_;refine AU (ZT 1 ?_);refine Z1 (Ar (show a+1<_ by omega)) ?_;refine CV ?_;refine DV (α:={ x:Nat × List AB × Nat × Nat // nx<=x.2.2.1/\(∀y∈x.2.1,S y)/\x.2.1.length=L/\JE (GV cf) x.2.2.2 x.2.1 a x.1 b=some R })
  (fun x=>⟨upd 0 (.so i ver 0 L) (upd 1 (.v (.int .i64 (a:Int))) (upd 2 (.v (.int .i64 (b:Int))) (upd 3 (.fn g caps) (upd 8 (.v (.int .i64 (x.1.1:Int))) AJ)))),upd i (Cd x.1.2.1 ver br) hp,x.1.2.2.1⟩) (fun x=>x.1.2.2.2) ⟨(a+1,xs,nx+3,f),by show nx<=nx+3;omega,Y,hL,hR⟩ ?_ ?_
 ·rw[Fc X];exact CW
 rintro⟨⟨k,ys,E,f⟩,h1,M,O,d⟩;dsimp only at h1 M O d;obtain⟨f,rfl⟩:∃F,f=F+1:=by
  cases f with |zero=>cases d |succ f=>exact⟨f,rfl⟩
 unfold JE at d;refine AU (AU ?_);refine ZT 1 ?_;by_cases G:k<b;rotate_left
 ·rw[if_neg G] at d;cases d;have H:(decide ((k:Int)<(b:Int)))=false:=DE;refine FM H ?_;exact⟨_,_,rfl,⟨fun _=>.inr rfl⟩,rfl,rfl,by show nx<=E+3;omega⟩
 rw[if_pos G] at d;have⟨A,d,I⟩:=AP d;have H:(decide ((k:Int)<(b:Int)))=true:=DB;refine FM H ?_;refine AU (CV ?_);refine Ax ?_;refine CV ?_;refine DV (α:={ x:Nat × List AB × Nat × Nat // nx<=x.2.2.1/\x.1<b/\(∀y∈x.2.1,S y)/\x.2.1.length=L/\Hk (GV cf) x.2.2.2 x.2.1 a x.1=some A })
  (fun x=>⟨upd 0 (.so i ver 0 L) (upd 1 (.v (.int .i64 (a:Int))) (upd 2 (.v (.int .i64 (b:Int))) (upd 3 (.fn g caps) (upd 8 (.v (.int .i64 (k:Int))) (upd 9 (.v (.int .i64 (x.1.1:Int))) AJ))))),upd i (Cd x.1.2.1 ver br) hp,x.1.2.2.1⟩) (fun x=>x.1.2.2.2) ⟨(k,ys,E+3+2,f+1),by show nx<=E+3+2;omega,G,M,O,d⟩ ?_ ?_
 ·exact CW
 rintro⟨⟨j,J,h,l⟩,g1,g0,e,p,c⟩;dsimp only at g0 g1 e p c;obtain⟨l,rfl⟩:∃F,l=F+1:=by
  cases l with |zero=>cases c |succ f=>exact⟨f,rfl⟩
 refine AU (AU ?_);refine ZT 1 ?_;rcases j with _ |j
 ·have s:(decide (((0:Nat):Int) > (a:Int)))=false:=DE;have t:(decide ((a:Int)<0))=false:=DE;cases c;refine Z1 (Y2 s t) ?_;refine DD (by rfl) ?_;refine FN ?_;refine ZT 1 ?_;refine Z1 (Ar (show k+1<_ by omega)) ?_;refine⟨⟨(k+1,A,_,f),?_,e,p,I⟩,CW,Ls f⟩;show nx<=h+17+3;omega
 by_cases P:a<j+1
 ·have s:(decide (((j+1:Nat):Int) > (a:Int)))=true:=DB;have t:(decide ((a:Int)<((j+1:Nat):Int)))=true:=DB;unfold Hk at c;rw[if_pos P] at c;have⟨x,B,c⟩:=AP c;have⟨y,u,c⟩:=AP c;have l1:(j+1<L)=True:=eq_true (by have:=(Lb.1 B).1;omega);have l2:(j<L)=True:=eq_true (by have:=(Lb.1 u).1;omega);have w:=Y2 s (Y6 t l1 l2 (GB (show j<4611686018427387904 by omega)) (Cz AF B) (Cz AF u));refine Z1 w ?_;have⟨Q,q1,q2⟩:=T x y (e x (Ly B)) (e y (Ly u)) (h+17);refine K7 (δ:=[]) (q2 _ (tJ V U)) ?_;refine Ki ?_;refine ZT 1 ?_;rcases C:GV cf x y with _ |_
  ·rw[C] at c;cases c;have K:(decide (cf x y<0))=false:=C;refine Z1 K ?_;refine ZT 1 ?_;refine Z1 (Ar (show k+1<_ by omega)) ?_;refine⟨⟨(k+1,A,_,f),?_,e,p,I⟩,CW,Ls f⟩;show nx<=Q+3;omega
  rw[C,if_pos rfl] at c;have K:(decide (cf x y<0))=true:=C;refine Z1 K ?_;refine AU (CV ?_);refine ZT 1 ?_;have e3:((J.map AF).set (j+1) (AF y))[j]? =some (AF y):=by
   rw[Oo (by omega)];exact Cz AF u
  refine Z1 (Y2 w e3) ?_;refine DD (by rfl) ?_;refine Z0 ?_;refine ZT 1 ?_;refine Z1 (GB (show j<4611686018427387904 by omega)) ?_;refine⟨⟨(j,(J.set (j+1) y).set j x,_,l),?_,by show j<b;omega,fun z hz=>e z (oC B u hz),by simpa using p,c⟩,GE ?_ DW,Ls l⟩
  ·show nx<=Q+18+3;omega
  rw[EU,EU];show upd i (some (.rw (((J.set (j+1) y).set j x).map AF) 3 ver br false)) hp=_;rw[NF,NF]
 have s:(decide (((j+1:Nat):Int) > (a:Int)))=false:=DE;have t:(decide ((a:Int)<((j+1:Nat):Int)))=false:=DE;unfold Hk at c;rw[if_neg P] at c;cases c;refine Z1 (Y2 s t) ?_;refine DD (by rfl) ?_;refine FN ?_;refine ZT 1 ?_;refine Z1 (Ar (show k+1<_ by omega)) ?_;refine⟨⟨(k+1,A,_,f),?_,e,p,I⟩,CW,Ls f⟩;show nx<=h+17+3;omega
end
structure C5 where
 kind:Int
 at_:Int
 text:ByteArray
 deriving DecidableEq,Inhabited
abbrev Ap (x:C5):List D:=[D.v (.int .i64 x.kind),D.v (.int .i64 x.at_),D.v (.string x.text)]
end Go.Proofs.YtnmkbmefohakmaaGreat.Ab
