/-
 Whether a subject is in a relation of an object: what it comes to, for relations without words of their own and few nodes.
-/
import Derived.Test.YtnmkbmefohakmaaGreatPas
set_option linter.all false
namespace Go.Proofs.YtnmkbmefohakmaaGreat.Ab
open Go.RowKit
def Pn (d r:AB)(N:List PN):List PN:=N.map fun n=>if d==n.k then{ n with above:=n.above++[r] } else n
def Hm (d:AB)(N:List PN):List PN:=N.map fun n=>if d==n.k then{ n with is:=true } else n
def GW (r:AB):List AB->List PN->Option (List PN)
 |[],N=>some N
 |d::l,N=>(DJ d N).bind fun n=>if n.above.length<4294967296 then GW r l (Pn d r N) else none
def FY:List AB->List PN->Option (List PN)
 |[],N=>some N
 |r::l,N=>(DJ r N).bind fun n=>if n.deps.length<=4294967296 then(GW r n.deps N).bind fun N=>FY l N else none
def JX (nw:List PN->AB->Option Bool)(a:Int):Nat->List PN->List AB->Option (List PN)
 |0,_,_=>none
 |_+1,N,[]=>some N
 |f+1,N,r::w=>(DJ r N).bind fun x=>if x.rank != a then JX nw a f N w else if x.is then JX nw a f N w else(nw N r).bind fun b=>if b then(if w.length+x.above.length<=4294967296 then JX nw a f (Hm r N) (x.above.reverse++w) else none) else JX nw a f N w
def Kn (nw:List PN->AB->Option Bool)(f:Nat):List AB->List PN->Option (List PN)
 |[],N=>some N
 |r::l,N=>(DJ r N).bind fun x=>(JX nw x.rank f N [r]).bind fun N=>Kn nw f l N
def Ec (d:AB)(n':Nd)(N:List Nd):List Nd:=N.map fun x=>if d==x.k then n' else x
variable {G:AI}{N N0:List Nd}{hp hp' hp0:Hp}{m nx0 oid over q:Nat}{n n' x:Nd}{ord:List AB}{s1 s2 s3:AV}
theorem Tn {d:AB}(h:x∈Ec d n' N):(x=n'/\∃y∈N,y.k=d)\/(x∈N/\x.k≠d):=by
 have⟨y,b,a⟩:=LL.1 h;by_cases e:(d==y.k)=true
 ·rw[if_pos e] at a;exact .inl ⟨a.symm,y,b,(eq_of_beq e).symm⟩
 rw[if_neg e] at a;subst a;exact .inr ⟨b,fun c=>e (by rw[c];exact beq_self_eq_true _)⟩
theorem dY {d:AB}{n n':Nd}(a:n'.k=n.k)(b:n'.id=n.id):∀ {N:List Nd},(∀x∈N,x.k=d->x=n)->Fg (Ec d n' N)=Fg N
 |[],_=>rfl
 |x::l,h=>by
  have c:=dY (n':=n') a b (N:=l) fun y f=>h y (Lk _ f);show(_,_)::Fg (Ec d n' l)=(_,_)::Fg l;rw[c];dsimp only;by_cases e:(d==x.k)=true
  ·have:=h x (Lp ..) (eq_of_beq e).symm;rw[if_pos e,a,b,this]
  rw[if_neg e]
theorem ZI (h:(N.map (·.k)).Nodup){y:Nd}(d:x∈N)(f:y∈N)(e:x.k=y.k):x=y:=by
 induction N with
 |nil=>cases d
 |cons a l g=>
  rw[Lh,Nj] at h;rcases Lv.1 d with b |b<;>rcases Lv.1 f with c |c
  ·rw[b,c]
  ·rw[b] at e;exact absurd (e▸LG c) h.1
  ·rw[c] at e;exact absurd (e▸LG b) h.1
  exact g h.2 b c
theorem yh (h:(N.map (·.id)).Nodup){y:Nd}(d:x∈N)(f:y∈N)(e:x.id=y.id):x=y:=by
 induction N with
 |nil=>cases d
 |cons a l g=>
  rw[Lh,Nj] at h;rcases Lv.1 d with b |b<;>rcases Lv.1 f with c |c
  ·rw[b,c]
  ·rw[b] at e;exact absurd (e▸LG c) h.1
  ·rw[c] at e;exact absurd (e▸LG b) h.1
  exact g h.2 b c
theorem WX {M:List Nd}(h:Fg M=Fg N):M.map (·.k)=N.map (·.k):=by
 have:=congrArg (List.map Prod.fst) h;simpa [Fg,NO] using this
theorem oF {M:List Nd}(h:Fg M=Fg N):M.map (·.id)=N.map (·.id):=by
 have:=congrArg (List.map Prod.snd) h;simp only[Fg,Ba] at this
 have:=congrArg (List.map fun o=>o.getD 0) this;simpa [NO] using this
theorem DU.set {d:AB}(h:DU hp m N)(s:F1 d N=some n)(t:n'.k=n.k)(o:n'.id=n.id)(em:hp' m=hp m)(u:hp' n.id=some (J9 n'))
  (v:∀x∈N,x.k≠d->hp' x.id=hp x.id) (w:n'.above≠[]->hp' n'.rid=Am 3 n'.ver false (n'.above.map AF)) (k:∀x∈N,x.k≠d->x.above≠[]->hp' x.rid=hp x.rid/\(n'.above≠[]->n'.rid≠x.rid)):DU hp' m (Ec d n' N):=by
 have⟨z,A⟩:=Kk s;have l:=dY (n':=n') t o (N:=N) fun x b e=>ZI h.keys b z (e.trans A.symm);refine⟨?_,fun x b=> ?_,fun x b g=> ?_,?_,?_,fun x b y B i j e=> ?_⟩
 ·rw[em,h.map];unfold Fv;rw[l]
 ·rcases Tn b with⟨c,_⟩ |⟨a,f⟩
  ·rw[c,o,u]
  rw[v x a f,h.box x a]
 ·rcases Tn b with⟨c,_⟩ |⟨a,f⟩
  ·rw[c] at g⊢;exact w g
  rw[(k x a f g).1,h.row x a g]
 ·rw[WX l];exact h.keys
 ·rw[oF l];exact h.ids
 rcases Tn b with⟨c,_⟩ |⟨a,f⟩<;>rcases Tn B with⟨p,_⟩ |⟨r,C⟩
 ·rw[c,p]
 ·rw[c] at e i;exact absurd e ((k y r C j).2 i)
 ·rw[p] at e j;exact absurd e.symm ((k x a f i).2 j)
 exact h.rids x a y r i j e
theorem dZ {d:AB}{n n':Nd}{g:PN->PN}(a:n'.toPN=g n.toPN):∀ {N:List Nd},(∀x∈N,x.k=d->x=n)->Dq (Ec d n' N)=(Dq N).map fun x=>if d==x.k then g x else x
 |[],_=>rfl
 |x::l,h=>by
  have b:=dZ a (N:=l) fun y c=>h y (Lk _ c);show Nd.toPN _::Dq (Ec d n' l)=_::(Dq l).map _;rw[b];dsimp only;by_cases e:(d==x.k)=true
  ·have:=h x (Lp ..) (eq_of_beq e).symm;rw[if_pos e,if_pos e,a,this]
  rw[if_neg e,if_neg e]
abbrev Rj (G:AI)(s1 s2 s3:AV)(m oid over:Nat)(ord:List AB):AO:=.bx [.d (.pt (Ak G) 0) true,s1,s2,s3,.mo m,AW oid over (ord.map AF)]
abbrev Fw (r:AB):AO:=.bx [.v (.string r.obj.type_),.v (.string r.obj.id_),.v (.string r.rel)]
abbrev yi (r:AB):AV:=.ag [.v (.string r.obj.type_),.v (.string r.obj.id_),.v (.string r.rel)]
def oG (f:AB->AB->Int)(xs h:List AB):Prop:=∀(g:FuncId) (d:List AV) (S:AB->Prop) (a:List Nat) (hp0:Hp) (b:Bool) (i c:Nat),JD Tryz.prog g d (fun r:AB=>.d (.ag (AF r)) b) S f a hp0->i∉a->(∀x∈xs,S x)->∀(hp:Hp) (e:Nat),(∀j∈a,hp j=hp0 j)->hp i=Cd xs c b->AT Tryz.prog 97 [.so i c 0 xs.length,.fn g d] hp e fun v k l=>v= .tu []/\k=upd i (Cd h c b) hp/\e<=l
def Hn (G:AI)(s1 s2 s3:AV)(nw:List PN->AB->Option Bool):Prop:=∀(hp:Hp) (a q m:Nat) (o:AV) (N:List Nd) (r:AB) (b:Bool),(∀j,a<=j->hp j=none)->hp q=some (.bx [.d (.pt (Ak G) 0) true,s1,s2,s3,.mo m,o])->DU hp m N->nw (Dq N) r=some b->AT Tryz.prog 100 [.pt q 0,yi r] hp a fun v c d=>v= .v (.bool b)/\c=hp/\a<=d
structure Da (G:AI) (hp0:Hp) (nx0 q m oid over:Nat) (ord:List AB) (N0:List Nd) (s1 s2 s3:AV) (hp:Hp) (nx:Nat) (N:List Nd):Prop where
 new:∀j,nx<=j->hp j=none
 box:hp q=some (Rj G s1 s2 s3 m oid over ord)
 cb:hp nx0=some (.bx [.pt q 0])
 row:hp oid=Cd ord over false
 nodes:DU hp m N
 osep:oid∉KA N
 rnew:∀i∈KA N,nx0<=i
 ix:Fg N=Fg N0
 keep:∀i,hp0 i≠none->(∀n∈N0,n.id≠i)->i≠oid->hp i=hp0 i
 nxs:nx0<nx
 old:∀i,nx0<=i->hp0 i=none
theorem DU.bx {r:AB}(h:DU hp m N)(a:F1 r N=some n):hp n.id=some (.bx [.v (.int .i64 n.rank),.d (.sl (n.deps.map AF)) false,AW n.rid n.ver (n.above.map AF),.v (.bool n.is)]):=h.box n (Kk a).1
theorem GC {i j:Nat}{x y:AO}(b:hp i=some x)(a:hp j=some y)(h:x=y->False):i≠j:=fun e=>by
 subst e;rw[b] at a;exact h (LI a)
theorem Da.more {nx nx':Nat}(h:Da G hp0 nx0 q m oid over ord N0 s1 s2 s3 hp nx N)(e:∀i,i<nx->hp' i=hp i)(a:nx<=nx')(g:∀j,nx'<=j->hp' j=none):Da G hp0 nx0 q m oid over ord N0 s1 s2 s3 hp' nx' N where
 new:=g
 box:=(e _ (Ch h.new h.box)).trans h.box
 cb:=(e _ (Ch h.new h.cb)).trans h.cb
 row:=(e _ (Ch h.new h.row)).trans h.row
 nodes:=h.nodes.more (e _ (Ch h.new h.nodes.map)) (fun n a=>e _ (Ch h.new (h.nodes.box n a))) fun n a d=>e _ (Ch h.new ((h.nodes.row n a d).trans (Gu d)))
 osep:=h.osep
 rnew:=h.rnew
 ix:=h.ix
 keep:=fun i f k l=>by
  have b:=h.keep i f k l;rcases Nt i nx with c |c
  ·exact(e i c).trans b
  rw[h.new i c] at b;exact absurd b.symm f
 nxs:=LF h.nxs a
 old:=h.old
theorem Da.set {nx nx':Nat}(h:Da G hp0 nx0 q m oid over ord N0 s1 s2 s3 hp nx N){d:AB}(B:F1 d N=some n)(C:n'.k=n.k)(p:n'.id=n.id)
  (e:∀i,i<nx->i≠n.id->(n.above≠[]->i≠n.rid)->hp' i=hp i) (J:hp' n.id=some (J9 n')) (K:n'.above≠[]->hp' n'.rid=Am 3 n'.ver false (n'.above.map AF)) (E:n'.above≠[]->(n.above≠[]/\n'.rid=n.rid)\/nx<=n'.rid)
  (L:nx<=nx') (M:∀j,nx'<=j->hp' j=none):Da G hp0 nx0 q m oid over ord N0 s1 s2 s3 hp' nx' (Ec d n' N):=by
 have⟨l,w⟩:=Kk B;have t:=h.nodes.box n l;have O:=h.nodes.row n l;have u:∀(i:Nat) (x:AO),hp i=some x->(∀P Q v b f,x≠ .rw P Q v b f)->n.above≠[]->i≠n.rid:=fun i x a r o=>GC a ((O o).trans (Gu o)) fun e=>r _ _ _ _ _ e;have R:=dY (n':=n') C p (N:=N) fun x g e=>ZI h.nodes.keys g l (e.trans w.symm)
 have F:∀i∈KA (Ec d n' N),(i∈KA N)\/nx<=i:=fun i p=>by
  have⟨x,a,r,o⟩:=Tm p;rcases Tn a with⟨S,_⟩ |⟨g,_⟩
  ·rw[S] at r o;rcases E r with⟨k,c⟩ |k
   ·exact .inl (o▸c▸Rh l k)
   exact .inr (o▸k)
  exact .inl (o▸Rh g r)
 refine⟨M,?_,?_,?_,?_,fun T=> ?_,fun i p=> ?_,R.trans h.ix,fun i a r o=> ?_,LF h.nxs L,h.old⟩
 ·rw[e q (Ch h.new h.box) (GC h.box t fun e=>by cases e) (u q _ h.box fun _ _ _ _ _ e=>by cases e),h.box]
 ·rw[e nx0 h.nxs (GC h.cb t fun e=>by cases e) (u nx0 _ h.cb fun _ _ _ _ _ e=>by cases e),h.cb]
 ·rw[e oid (Ch h.new h.row) (GC h.row t fun e=>by cases e) fun s e=>h.osep (e▸Rh l s),h.row]
 ·refine h.nodes.set B C p (e m (Ch h.new h.nodes.map) (GC h.nodes.map t fun e=>by cases e) (u m _ h.nodes.map fun _ _ _ _ _ e=>by cases e)) J (fun x g z=>e x.id (Ch h.new (h.nodes.box x g)) (fun e=>z ((congrArg (·.k) (yh h.nodes.ids g l e)).trans w)) (u x.id _ (h.nodes.box x g) fun _ _ _ _ _ e=>by cases e)) K fun x g z s=> ?_
  have H:=(h.nodes.row x g s).trans (Gu s);have U:=Ch h.new H;have I:n.above≠[]->x.rid≠n.rid:=fun A e=>z ((h.nodes.rids x g n l s A e).trans w);refine⟨e x.rid U (GC H t fun e=>by cases e) I,fun A e=> ?_⟩;rcases E A with⟨k,c⟩ |k
  ·exact I k (e.symm.trans c)
  omega
 ·rcases F _ T with a |a
  ·exact h.osep a
  have:=Ch h.new h.row;omega
 ·rcases F _ p with a |a
  ·exact h.rnew _ a
  have:=h.nxs;omega
 have k:=h.keep i a r o;have p:i<nx:=by
  rcases Nt i nx with c |c
  ·exact c
  rw[h.new i c] at k;exact absurd k.symm a
 rw[e i p (fun e=>by
  have c:n.id∈N0.map (·.id):=by
   rw[<-oF h.ix];exact LG l
  have⟨y,V,X⟩:=LL.1 c;exact r y V (X.trans e.symm)) fun s e=> ?_,k]
 have c:=h.rnew _ (Rh l s);rw[<-e] at c;exact a (h.old i c)
theorem Da.updRow {nx a:Nat}{o:Option AO}{es:List (List D)}{sz ver:Nat}{br d:Bool}(h:Da G hp0 nx0 q m oid over ord N0 s1 s2 s3 hp nx N)(b:hp a=some (.rw es sz ver br d))(f:a∉KA N)(g:a≠oid)(k:nx0<=a):Da G hp0 nx0 q m oid over ord N0 s1 s2 s3 (upd a o hp) nx N where
 new:=fun j l=>by
  have:=Ch h.new b;rw[Ac];exact h.new j l
 box:=(Aj _ _ (GC h.box b fun e=>by cases e)).trans h.box
 cb:=(Aj _ _ (GC h.cb b fun e=>by cases e)).trans h.cb
 row:=(Aj _ _ (Ne.symm g)).trans h.row
 nodes:=h.nodes.upd_row (.inr ⟨_,_,_,_,_,b⟩) f
 osep:=h.osep
 rnew:=h.rnew
 ix:=h.ix
 keep:=fun i c p r=>by
  have:=h.keep i c p r;rw[Aj _ _ fun e=>by
   subst e;exact c (h.old _ k)]
  exact this
 nxs:=h.nxs
 old:=h.old
def Ko (a b c i:Nat):Nat:=if i=a then 1 else if i=b then 2 else if i=c then 3 else 0
theorem Rk {a b c i:Nat}(d:i≠a)(e:i≠b)(f:i≠c):Ko a b c i=0:=by unfold Ko;rw[if_neg d,if_neg e,if_neg f]
set_option maxRecDepth 4000 in
theorem yj {nx f:Nat}{nw:List PN->AB->Option Bool}{u:List AB}{P1 P2:List PN}{rk:AB->Int}(da:Hn G s1 s2 s3 nw)(hf:∀j,nx<=j->hp j=none)
  (hq:hp q=some (Rj G s1 s2 s3 m oid over ord)) (ho:hp oid=Cd ord over false) (a6:ord≠[]) (hL:ord.length<4611686018427387904) (hN:DU hp m N) (ha:∀n∈N,n.above= []) (h1:FY ord (Dq N)=some P1) (dd:∀n∈P1,rk n.k=n.rank) (df:∀r∈ord,(DJ r P1).isSome=true) (h2:oG (fun a b=>GU (rk a) (rk b)) ord u) (bx:u.length=ord.length) (O:Kn nw f u P1=some P2):
  AT Tryz.prog 67 [.pt q 0] hp nx fun v ao L=>v= .tu []/\∃P,Dq P=P2/\Da G hp nx q m oid over u N s1 s2 s3 ao L P:=by
 refine zq Tryz.func67 ?_;have w:=Y2 (FX hf hq) (Y2 hq (YV (f:=AF) (Nz.2 a6)));refine AU (ZT 1 ?_);refine HK w ?_;refine CV ?_;have bd:∀i,i<nx->upd nx (some (.bx [.pt q 0])) hp i=hp i:=fun i S=>Ac;have S0:Da G hp nx q m oid over ord N s1 s2 s3 (upd nx (some (.bx [.pt q 0])) hp) (nx+1+6) N:=
  {
   new:=fun j B=>by rw[Ac];exact hf j (by omega)
   box:=(bd _ (Ch hf hq)).trans hq
   cb:=At ..
   row:=(bd _ (Ch hf ho)).trans ho
   nodes:=hN.upd_new (hf nx (Lc _))
   osep:=fun h=>by
    have⟨n,h1,h2,_⟩:=Tm h;exact h2 (ha n h1)
   rnew:=fun i h=>by
    have⟨n,h1,h2,_⟩:=Tm h;exact absurd (ha n h1) h2
   ix:=rfl
   keep:=fun i h _ _=>bd i (by
    rcases Nt i nx with h1 |h1
    ·exact h1
    exact absurd (hf i h1) h)
   nxs:=by omega
   old:=hf }
 refine DV (α:={ x:Nat × Hp × Nat × List Nd // x.1<=ord.length/\Da G hp nx q m oid over ord N s1 s2 s3 x.2.1 x.2.2.1 x.2.2.2/\FY (ord.drop x.1) (Dq x.2.2.2)=some P1 })
  (fun x=>⟨upd 1 (.pt nx 0) (upd 15 (.so oid over 0 ord.length) (upd 16 (.v (.int .i64 (ord.length:Int))) (upd 17 (.v (.int .i64 (x.1.1:Int))) AJ))),x.1.2.1,x.1.2.2.1⟩) (fun x=>ord.length-x.1.1) ⟨(0,upd nx (some (.bx [.pt q 0])) hp,nx+1+6,N),Lf _,S0,h1⟩ ?_ ?_
 ·exact CW
 rintro⟨⟨k,ao,L,P⟩,g1,s,H⟩;dsimp only at g1 s H;refine AU (ZT 1 ?_);by_cases hk:k<ord.length
 ·have c1:(decide ((k:Int)<(ord.length:Int)))=true:=DB;refine Ct c1 ?_;refine Z0 ?_;refine AU (CV ?_);refine AU ?_;obtain⟨r,hr⟩:∃r,ord[k]? =some r:=⟨_,Le hk⟩;rw[Lj hk,show ord[k]=r from(Lb.1 hr).2] at H;unfold FY at H;have⟨pn,pe,H⟩:=AP H;split at H;rotate_left
  ·cases H
  rename_i dk;have⟨Pm,g4,H⟩:=AP H;rw[JB] at pe;obtain⟨n,J,rfl⟩:=La.1 pe;have dl:(k<ord.length)=True:=eq_true hk;refine ZT 1 ?_;refine Z1 (Y3 dl s.row (Cz AF hr)) ?_;refine AU ?_;generalize ab:upd (L+1+2) _ _=be;have g5:Da G hp nx q m oid over ord N s1 s2 s3 be (L+1+4) P:=s.more (fun i S=>by rw[<-ab,Ac,Ac]) (by omega) fun j B=>by rw[<-ab,Ac,Ac];exact s.new j (by omega)
  have b3:be (L+1+2)=some (Fw r):=by rw[<-ab,At]
  refine ZT 1 ?_;refine Z1 (Y6 g5.cb g5.box g5.nodes.map b3 (Kl J) (g5.nodes.bx J)) ?_;refine DD (by rfl) ?_;refine Z0 ?_;refine CV ?_;refine DV (α:={ x:Nat × Hp × Nat × List Nd // x.1<=n.deps.length/\Da G hp nx q m oid over ord N s1 s2 s3 x.2.1 x.2.2.1 x.2.2.2/\x.2.1 (L+1+2)=some (Fw r)/\GW r (n.deps.drop x.1) (Dq x.2.2.2)=some Pm })
   (fun x=>⟨upd 1 (.pt nx 0) (upd 3 (.pt (L+1+2) 0) (upd 29 (.d (.sl (n.deps.map AF)) false) (upd 30 (.v (.int .i64 (n.deps.length:Int))) (upd 31 (.v (.int .i64 (x.1.1:Int))) (upd 15 (.so oid over 0 ord.length) (upd 16 (.v (.int .i64 (ord.length:Int))) (upd 17 (.v (.int .i64 (k:Int))) AJ))))))),x.1.2.1,x.1.2.2.1⟩) (fun x=>n.deps.length-x.1.1) ⟨(0,be,L+1+4+11,P),Lf _,g5.more (fun _ _=>rfl) (by show _<=L+1+4+11;omega) fun j (B:L+1+4+11<=j)=>g5.new j (by omega),b3,g4⟩ ?_ ?_
  ·exact CW
  rintro⟨⟨j,a1,t,N4⟩,i1,i2,i3,I⟩;dsimp only at i1 i2 i3 I;refine AU (ZT 1 ?_);by_cases B:j<n.deps.length;rotate_left
  ·have c2:(decide ((j:Int)<(n.deps.length:Int)))=false:=DE;refine FM c2 ?_;refine ZT 1 ?_;refine Z1 (Ar (show k+1<4611686018427387904 by omega)) ?_;rw[Nf (by omega)] at I;cases I;exact⟨⟨(k+1,a1,_,N4),by show k+1<=ord.length;omega,i2.more (fun _ _=>rfl) (by show t<=t+1+2;omega) (fun j (B:t+1+2<=j)=>i2.new j (by omega)),H⟩,CW,by show ord.length-(k+1)<ord.length-k;omega⟩
  have c2:(decide ((j:Int)<(n.deps.length:Int)))=true:=DB;refine Ct c2 ?_;refine Z0 ?_;refine AU (CV ?_);refine AU ?_;obtain⟨d,hd⟩:∃d,n.deps[j]? =some d:=⟨_,Le B⟩;rw[Lj B,show n.deps[j]=d from(Lb.1 hd).2] at I;unfold GW at I;have⟨dn,pd,I⟩:=AP I;split at I;rotate_left
  ·cases I
  rename_i a9;rw[JB] at pd;obtain⟨c,d1,rfl⟩:=La.1 pd;refine ZT 1 ?_;refine Z1 (Cz AF hd) ?_;generalize e5:upd (t+1+2) _ _=Q;have b0:∀i,i<t->Q i=a1 i:=fun i S=>by rw[<-e5,Ac,Ac]
  have F:Da G hp nx q m oid over ord N s1 s2 s3 Q (t+1+4) N4:=i2.more b0 (by omega) fun j B=>by rw[<-e5,Ac,Ac];exact i2.new j (by omega)
  have b5:Q (t+1+2)=some (Fw d):=by rw[<-e5,At]
  have aq:Q (L+1+2)=some (Fw r):=(b0 _ (Ch i2.new i3)).trans i3;have dm:=(Kk d1).1;obtain⟨K,eo,a0,b1,b2⟩:∃K,AW c.rid c.ver (c.above.map AF)=AW K c.ver (c.above.map AF)/\Q K=Am 3 c.ver false (c.above.map AF)/\(∀j,j<100->K≠t+1+4+j)/\(c.above≠[]->K=c.rid):=by
   rcases av:c.above with _ |⟨n1,N1⟩
   ·exact⟨t+1+4+1000,rfl,F.new _ (by omega),fun j B=>by omega,fun h=>absurd rfl h⟩
   rw[<-av];have U:c.above≠[]:=(by rw[av];exact fun h=>by cases h);have ad:=F.nodes.row c dm U
   have:=Ch F.new (ad.trans (Gu U));exact⟨c.rid,rfl,ad,fun j B=>by omega,fun _=>rfl⟩
  obtain⟨A,eA⟩:∃A,A=CF (t+1+4+17) K (c.above.map AF):=⟨_,rfl⟩;have hA:∀(i:Nat) (y:AO),Q i=some y->(∀es sz v b f,y≠ .rw es sz v b f)->i≠A:=fun i y S hy e=>by
   rw[e,eA] at S;cases hL:c.above.map AF with
   |nil=>
    rw[hL] at S
    have:=F.new (t+1+4+17) (by omega);rw[show Q (t+1+4+17)=some y from S] at this;cases this
   |cons c0 l0=>
    rw[hL] at S a0;rw[show Q K=some y from S] at a0;cases a0;exact hy _ _ _ _ _ rfl
  have ag:=F.nodes.bx d1;rw[eo] at ag;have a2:=hA _ _ ag fun _ _ _ _ _ e=>by cases e
  have dp:t+1+4+16≠A:=by
   rw[eA];cases hL:c.above.map AF with |nil=>show t+1+4+16≠t+1+4+17;omega |cons _ _=>exact(b1 16 (by omega)).symm
  have X:∀ {i:Nat} {o:AO},Q i=some o->(i=t+1+4+16)=False:=fun h=>eq_false (by have:=Ch F.new h;omega);have w7:=And.intro F.cb <|And.intro F.box <|And.intro F.nodes.map <|And.intro b5 <|And.intro aq <|And.intro (Kl d1)<|And.intro ag <|And.intro a0 <|And.intro (show(K=t+1+4+16)=False from eq_false (b1 16 (by omega)))<|And.intro (X F.cb)<|And.intro (X F.box)<|And.intro (X F.nodes.map)<|And.intro (X b5)<|And.intro (X aq)<|And.intro (X ag)<|
   And.intro (show(c.id=CF (t+1+4+17) K (c.above.map AF))=False from eq_false (eA▸a2)) (show(c.above.length+1<=4294967296)=True from eq_true (by have:c.above.length<4294967296:=a9;omega))
  refine ES w7 ?_;rw[<-eA];have v1:Ko c.id A (t+1+4+16) c.id=1:=by simp[Ko]
  have v2:Ko c.id A (t+1+4+16) A=2:=by simp[Ko,Ne.symm a2]
  have v3:Ko c.id A (t+1+4+16) (t+1+4+16)=3:=by unfold Ko;rw[if_neg (fun e=>(X ag).mp e.symm),if_neg dp,if_pos rfl]
  have vo:∀(i:Nat) (y:AO),Q i=some y->(∀es sz v b f,y≠ .rw es sz v b f)->y≠ .bx [.v (.int .i64 c.rank),.d (.sl (c.deps.map AF)) false,AW K c.ver (c.above.map AF),.v (.bool c.is)]->Ko c.id A (t+1+4+16) i=0:=fun i y h1 h2 O=>Rk (GC h1 ag O) (hA i y h1 h2) fun e=>(X h1).mp e;have v4:=vo _ _ F.cb (fun _ _ _ _ _ e=>by cases e) fun e=>by cases e
  have v5:=vo _ _ F.box (fun _ _ _ _ _ e=>by cases e) fun e=>by cases e
  have v6:=vo _ _ F.nodes.map (fun _ _ _ _ _ e=>by cases e) fun e=>by cases e
  have v7:=vo _ _ b5 (fun _ _ _ _ _ e=>by cases e) fun e=>by cases e
  have v8:=vo _ _ aq (fun _ _ _ _ _ e=>by cases e) fun e=>by cases e
  refine JW (Ko c.id A (t+1+4+16)) _ rfl (by simp only[Nm,Nr,LA,LU,Lh,Lu,HL,v1,v2,v3,v4,v5,v6,v7,v8];rfl) (by rfl) ?_;refine Z0 ?_;generalize Y:upd c.id _ _=ak;refine ZT 1 ?_;have dS:n.deps.length<=4294967296:=dk;refine Z1 (Ar (show j+1<4611686018427387904 by omega)) ?_;have bg:A<t+1+4+21/\((c.above≠[]/\A=c.rid)\/t+1+4<=A):=by
   rw[eA];rcases av:c.above with _ |⟨n1,N1⟩
   ·exact⟨by show t+1+4+17<_;omega,.inr (by show _<=t+1+4+17;omega)⟩
   have U:c.above≠[]:=by rw[av];exact fun h=>by cases h
   have:=Ch F.new ((F.nodes.row c dm U).trans (Gu U));refine⟨?_,.inl ⟨fun h=>(by cases h),b2 U⟩⟩;show K<_;rw[b2 U];omega
  have j5:Da G hp nx q m oid over ord N s1 s2 s3 ak (t+1+4+21+2) (Ec d { c with above:=c.above++[r],rid:=A,ver:=CG c.ver (c.above.map AF) } N4):=by
   refine F.set d1 rfl rfl (fun i l1 l2 l3=> ?_) ?_ (fun _=> ?_) (fun _=>bg.2) (by omega) fun j B=> ?_
   ·have a2:i≠A:=fun e=>by
     rcases bg.2 with⟨h1,h2⟩ |h1
     ·exact l3 h1 (e.trans h2)
     omega
    rw[<-Y,Aj _ _ l2,Aj _ _ a2,Ac]
   ·rw[<-Y,At];unfold J9;rw[JN (by simp)];simp
   ·show ak A=Am 3 (CG c.ver (c.above.map AF)) false ((c.above++[r]).map AF);rw[<-Y,Aj _ _ (Ne.symm a2),At,U1 (by simp)];simp
   have:=Ch F.new ag
   have:=bg.1;rw[<-Y,Ac,Ac,Ac];exact F.new j (by omega)
  have V:ak (L+1+2)=some (Fw r):=by
   rw[<-Y,Aj _ _ (GC aq ag fun e=>by cases e),Aj _ _ (hA _ _ aq fun _ _ _ _ _ e=>by cases e),Aj _ _ fun e=>(X aq).mp e];exact aq
  refine⟨⟨(j+1,ak,_,_),by show j+1<=n.deps.length;omega,j5,V,?_⟩,CW,by show n.deps.length-(j+1)<n.deps.length-j;omega⟩;have pu:Dq (Ec d { c with above:=c.above++[r],rid:=A,ver:=CG c.ver (c.above.map AF) } N4)=Pn d r (Dq N4):=dZ (n:=c) (g:=fun x=>{ x with above:=x.above++[r] }) rfl fun x hx e=>ZI F.nodes.keys hx dm (e.trans (Kk d1).2.symm);exact(congrArg (GW r (n.deps.drop (j+1))) pu).trans I
 have c1:(decide ((k:Int)<(ord.length:Int)))=false:=DE;refine FM c1 ?_;rw[Nf (by omega)] at H;have H:Dq P=P1:=LI H;refine AU (ZT 1 ?_);refine Z1 (Y3 s.cb s.box (YV (f:=AF) (Nz.2 a6))) ?_;have dq:∀r∈ord,∃id x1 x2 x3,Dt (Fv P) r id/\ao id=some (.bx [.v (.int .i64 (rk r)),x1,x2,x3])/\id∈P.map (·.id):=fun r hr=>by
  have⟨pn,b4⟩:=NG.1 (df r hr);rw[<-H,JB] at b4;obtain⟨n2,J,rfl⟩:=La.1 b4;have⟨M,ab⟩:=Kk J;have e4:=dd n2.toPN (H▸LG M);have e5:=s.nodes.bx J;rw[show n2.rank=rk r from ab▸e4.symm] at e5;exact⟨n2.id,_,_,_,Kl J,e5,LG M⟩
 have dr:oid∉nx::q::m::P.map (·.id):=fun h=>by
  rcases Lv.1 h with h |h
  ·exact GC s.row s.cb (fun e=>by cases e) h
  rcases Lv.1 h with h |h
  ·exact GC s.row s.box (fun e=>by cases e) h
  rcases Lv.1 h with h |h
  ·exact GC s.row s.nodes.map (fun e=>by cases e) h
  have⟨n2,J,M⟩:=LL.1 h;exact GC s.row (s.nodes.box n2 J) (fun e=>by cases e) M.symm
 refine CO (AT.mono (h2 98 [.pt nx 0] _ _ ao false oid over (yg (rk:=rk) (ids:=P.map (·.id)) s.cb s.box s.nodes.map) dr dq ao _ (fun _ _=>rfl) s.row) fun v a1 t h=> ?_);obtain⟨rfl,rfl,h⟩:=h;have h:L+1+6<=t:=h;have b9:u≠[]:=fun e=>a6 (N7.1 (by rw[<-bx,e];rfl));have I:Da G hp nx q m oid over u N s1 s2 s3 (upd oid (Cd u over false) ao) t P:=
  {
   new:=fun j B=>by
    have:=Ch s.new s.row;rw[Ac];exact s.new j (by omega)
   box:=by
    rw[Aj _ _ (GC s.box s.row fun e=>by cases e),s.box];unfold Rj;rw[JN (Nz.2 a6),JN (Nz.2 b9),bx]
   cb:=(Aj _ _ (GC s.cb s.row fun e=>by cases e)).trans s.cb
   row:=At ..
   nodes:=s.nodes.upd_row (.inr ⟨_,_,_,_,_,s.row⟩) s.osep
   osep:=s.osep
   rnew:=s.rnew
   ix:=s.ix
   keep:=fun i J M ab=>(Aj _ _ ab).trans (s.keep i J M ab)
   nxs:=by have:=s.nxs;omega
   old:=s.old }
 rw[<-H] at O;generalize e4:upd oid (Cd u over false) ao=a1 at I⊢;refine DQ ?_;refine Z1 (Y3 I.cb I.box (YV (f:=AF) (Nz.2 b9))) ?_;refine CV ?_;refine DV (α:={ x:Nat × Hp × Nat × List Nd // x.1<=u.length/\Da G hp nx q m oid over u N s1 s2 s3 x.2.1 x.2.2.1 x.2.2.2/\Kn nw f (u.drop x.1) (Dq x.2.2.2)=some P2 })
  (fun x=>⟨upd 1 (.pt nx 0) (upd 66 (.so oid over 0 u.length) (upd 67 (.v (.int .i64 (u.length:Int))) (upd 68 (.v (.int .i64 (x.1.1:Int))) AJ))),x.1.2.1,x.1.2.2.1⟩) (fun x=>u.length-x.1.1) ⟨(0,a1,t+6,P),Lf _,I.more (fun _ _=>rfl) (by show t<=t+6;omega) (fun j (B:t+6<=j)=>I.new j (by omega)),O⟩ ?_ ?_
 ·exact CW
 rintro⟨⟨k,Q,C,N5⟩,j1,j2,V⟩;dsimp only at j1 j2 V;refine AU (ZT 1 ?_);by_cases bl:k<u.length;rotate_left
 ·have c1:(decide ((k:Int)<(u.length:Int)))=false:=DE;refine FM c1 ?_;rw[Nf (by omega)] at V;exact⟨_,Q,rfl,⟨fun _=>.inr rfl⟩,rfl,N5,LI V,j2.more (fun _ _=>rfl) (by show C<=C+1;omega) fun j (B:C+1<=j)=>j2.new j (by omega)⟩
 have c1:(decide ((k:Int)<(u.length:Int)))=true:=DB;refine Ct c1 ?_;refine Z0 ?_;refine AU (CV ?_);refine AU ?_;obtain⟨r,hr⟩:∃r,u[k]? =some r:=⟨_,Le bl⟩;rw[Lj bl,show u[k]=r from(Lb.1 hr).2] at V;unfold Kn at V;have⟨pn,pe,V⟩:=AP V;have⟨Pm,j4,j9⟩:=AP V;rw[JB] at pe;obtain⟨n,J,rfl⟩:=La.1 pe;refine ZT 1 ?_;refine Z1 (Y3 (show(k<u.length)=True from eq_true bl) j2.row (Cz AF hr)) ?_;generalize Y:upd (C+1+2) _ _=ak;have j6:Da G hp nx q m oid over u N s1 s2 s3 ak (C+1+4) N5:=j2.more (fun i S=>by rw[<-Y,Ac,Ac]) (by omega) fun j B=>by rw[<-Y,Ac,Ac];exact j2.new j (by omega)
 have b6:ak (C+1+2)=some (Fw r):=by rw[<-Y,At]
 refine AU (ZT 1 ?_);refine Z1 b6 ?_;refine AU ?_;generalize e7:upd (C+1+4+1) _ _=a3;have cf:∀i,i<C+1+4->a3 i=ak i:=fun i S=>by rw[<-e7,Ac]
 have j7:Da G hp nx q m oid over u N s1 s2 s3 a3 (C+1+4+3) N5:=j6.more cf (by omega) fun j B=>by rw[<-e7,Ac];exact j6.new j (by omega)
 have b7:a3 (C+1+2)=some (Fw r):=(cf _ (by omega)).trans b6;have w7:a3 (C+1+4+1)=Cd [r] 0 false:=by rw[<-e7,At];rfl
 refine ZT 1 ?_;refine Z1 (Y6 j7.cb j7.box j7.nodes.map b7 (Kl J) (j7.nodes.bx J)) ?_;refine DD (by rfl) ?_;refine Z0 ?_;refine CV ?_;have ch:C+1+4+1∉KA N5/\C+1+4+1≠oid:=⟨fun h=>by
  have⟨x,h1,h2,O⟩:=Tm h
  have:=Ch j6.new ((j6.nodes.row x h1 h2).trans (Gu h2));omega,fun h=>by
  have:=Ch j6.new j6.row;omega⟩
 refine DV (α:={ x:RS // Da G hp nx q m oid over u N s1 s2 s3 x.hp x.nx x.N/\x.hp (C+1+4+1)=Cd x.es x.ver false/\C+1+4+1∉KA x.N/\x.n<=x.es.length/\x.n<=4294967296/\JX nw n.rank x.c (Dq x.N) (x.es.take x.n).reverse=some Pm })
  (fun x=>⟨upd 1 (.pt nx 0) (upd 8 (.so (C+1+4+1) x.1.ver 0 x.1.n) (upd 9 (.v (.int .i64 n.rank)) (upd 66 (.so oid over 0 u.length) (upd 67 (.v (.int .i64 (u.length:Int))) (upd 68 (.v (.int .i64 (k:Int))) AJ))))),x.1.hp,x.1.nx⟩) (fun x=>x.1.c) ⟨⟨a3,C+1+4+3+10,N5,0,0,0,[r],1,f⟩,j7.more (fun _ _=>rfl) (by show _<=C+1+4+3+10;omega) (fun j (B:C+1+4+3+10<=j)=>j7.new j (by omega)),w7,ch.1,Lc _,by show 1<=4294967296;omega,j4⟩ ?_ ?_
 ·exact CW
 rintro⟨x,k1,k2,k3,k4,k5,z⟩;obtain⟨T,hc⟩:∃T,x.c=T+1:=by
  cases e:x.c with |zero=>rw[e] at z;cases z |succ f=>exact⟨f,rfl⟩
 rw[hc] at z;refine Dy ?_;rcases hn:x.n with _ |l
 ·have c2:(decide (((0:Nat):Int) > 0))=false:=rfl;refine ES hn ?_;rw[hn] at z;have z:Dq x.N=Pm:=LI z;refine ZT 1 ?_;refine Z1 (Ar (show k+1<4611686018427387904 by omega)) ?_;exact⟨⟨(k+1,x.hp,_,x.N),by show k+1<=u.length;omega,k1.more (fun _ _=>rfl) (by show x.nx<=x.nx+3+2;omega) (fun j (B:x.nx+3+2<=j)=>k1.new j (by omega)),by rw[<-z] at j9;exact j9⟩,CW,by show u.length-(k+1)<u.length-k;omega⟩
 have c2:(decide (((l+1:Nat):Int) > 0))=true:=DB;have c3:(decide ((0:Int)<((l+1:Nat):Int)))=true:=DB;refine ZT 1 ?_;refine Z1 (Y2 c2 c3) ?_;refine CV ?_;refine AU ?_;have hl:l<x.es.length:=by omega
 obtain⟨R,cp⟩:∃R,x.es[l]? =some R:=⟨_,Le hl⟩;have O:IntKind.i64.wrap (((l+1:Nat):Int)-1)=(l:Int):=GB (by omega);have h4:(l<l+1)=True:=eq_true (Ls l);have h5:=Cz AF cp;have ds:(x.es.take (l+1)).reverse=R::(x.es.take l).reverse:=by
  rw[BJ,cp];simp
 rw[hn,ds] at z;unfold JX at z;have⟨pd,cs,z⟩:=AP z;rw[JB] at cs;obtain⟨p,M,rfl⟩:=La.1 cs;refine ZT 1 ?_;refine Z1 (Y5 hn O h4 h5 k2) ?_;refine AU ?_;generalize e8:upd (x.nx+3+6) _ _=Z;have cx:∀i,i<x.nx->Z i=x.hp i:=fun i S=>by rw[<-e8,Ac,Ac]
 have E:Da G hp nx q m oid over u N s1 s2 s3 Z (x.nx+3+8) x.N:=k1.more cx (by omega) fun j B=>by rw[<-e8,Ac,Ac];exact k1.new j (by omega)
 have b8:Z (x.nx+3+6)=some (Fw R):=by rw[<-e8,At]
 have w8:Z (C+1+4+1)=Cd x.es x.ver false:=(cx _ (Ch k1.new k2)).trans k2;have h7:(l<=l+1)=True:=eq_true (Bj l);refine ZT 1 ?_;refine Z1 (Y6 hn O h4 h7 (BP l) w8) ?_;refine AU (ZT 1 ?_);refine Z1 (Y5 E.cb E.box E.nodes.map b8 (Kl M)) ?_;refine DD (by rfl) ?_;refine Z0 ?_;refine AU (AU ?_);refine ZT 1 ?_;have wb:=Y2 E.cb (Y4 E.box E.nodes.map b8 (E.nodes.bx M));rcases a4:(p.rank != n.rank) with _ |_;rotate_left
 ·rw[show(p.toPN.rank != n.rank)=true from a4,if_pos rfl] at z;refine Z1 (Y2 a4 wb) ?_;refine AQ ?_;exact⟨⟨⟨Z,_,x.N,0,0,x.ver,x.es,l,T⟩,E.more (fun _ _=>rfl) (by show x.nx+3+8<=x.nx+3+8+6+7+18;omega) (fun j (B:x.nx+3+8+6+7+18<=j)=>E.new j (by omega)),w8,k3,by show l<=x.es.length;omega,by show l<=4294967296;omega,z⟩,CW,by show T<x.c;omega⟩
 rw[show(p.toPN.rank != n.rank)=false from a4,if_neg (by simp)] at z;rcases ba:p.is with _ |_;rotate_left
 ·rw[show p.toPN.is=true from ba,if_pos rfl] at z;rw[ba] at wb;refine Z1 (Y2 a4 wb) ?_;refine AQ ?_;exact⟨⟨⟨Z,_,x.N,0,0,x.ver,x.es,l,T⟩,E.more (fun _ _=>rfl) (by show x.nx+3+8<=x.nx+3+8+6+7+18;omega) (fun j (B:x.nx+3+8+6+7+18<=j)=>E.new j (by omega)),w8,k3,by show l<=x.es.length;omega,by show l<=4294967296;omega,z⟩,CW,by show T<x.c;omega⟩
 rw[show p.toPN.is=false from ba,if_neg (by simp)] at z;have⟨b,hb,k7⟩:=AP z;rw[ba] at wb;refine Z1 (Y2 a4 wb) ?_;have l2:=da Z (x.nx+3+8+6+7+18) q m _ x.N R b (fun j B=>E.new j (by omega)) E.box E.nodes hb;refine CO (AT.mono l2 fun v d0 aa hv=> ?_);obtain⟨rfl,bo,l1⟩:=hv;have bo:=bo.symm;subst bo;have l1:x.nx+3+8+6+7+18<=aa:=l1;have z:=k7;rcases b with _ |_
 ·rw[if_neg (by simp)] at z;refine FN ?_;exact⟨⟨⟨Z,_,x.N,0,0,x.ver,x.es,l,T⟩,E.more (fun _ _=>rfl) (by show x.nx+3+8<=aa;omega) (fun j (B:aa<=j)=>E.new j (by omega)),w8,k3,by show l<=x.es.length;omega,by show l<=4294967296;omega,z⟩,CW,by show T<x.c;omega⟩
 rw[if_pos rfl] at z;split at z;rotate_left
 ·cases z
 rename_i a9;refine FN ?_;refine AU (ZT 1 ?_);refine Z1 wb ?_;generalize aE:upd p.id _ _=a5;have bb:=E.nodes.bx M;have nm:=(Kk M).1;have cN:Da G hp nx q m oid over u N s1 s2 s3 a5 (aa+4) (Ec R { p with is:=true } x.N):=by
  refine E.set M rfl rfl (fun i q1 q2 q3=>by rw[<-aE,Aj _ _ q2]) (by rw[<-aE,At];rfl) (fun h=> ?_) (fun h=>.inl ⟨h,rfl⟩) (by omega) fun j B=> ?_
  ·have ad:=E.nodes.row p nm h;rw[<-aE];show upd p.id _ Z p.rid=Am 3 p.ver false (p.above.map AF);rw[Aj _ _ (GC (ad.trans (Gu h)) bb fun e=>by cases e)];exact ad
  have:=Ch E.new bb;rw[<-aE,Ac];exact E.new j (by omega)
 have c4:a5 (C+1+4+1)=Cd x.es x.ver false:=by
  rw[<-aE,Aj _ _ (GC w8 bb fun e=>by cases e)];exact w8
 have c5:C+1+4+1∉KA (Ec R { p with is:=true } x.N):=fun h=>by
  have⟨y,h1,h2,O⟩:=Tm h;rcases Tn h1 with⟨J,_⟩ |⟨hy,_⟩
  ·rw[J] at h2 O;exact k3 (O▸Rh (n:=p) nm h2)
  exact k3 (O▸Rh hy h2)
 have c6:a5 p.id=some (.bx [.v (.int .i64 p.rank),.d (.sl (p.deps.map AF)) false,AW p.rid p.ver (p.above.map AF),.v (.bool true)]):=by rw[<-aE,At]
 obtain⟨K,eo,a0⟩:∃K,AW p.rid p.ver (p.above.map AF)=AW K p.ver (p.above.map AF)/\a5 K=Am 3 p.ver false (p.above.map AF):=by
  rcases av:p.above with _ |⟨n1,N1⟩
  ·exact⟨aa+1000,rfl,cN.new _ (by omega)⟩
  rw[<-av];have U:p.above≠[]:=by rw[av];exact fun h=>by cases h
  have ad:=E.nodes.row p nm U;refine⟨p.rid,rfl,?_⟩;rw[<-aE,Aj _ _ (GC (ad.trans (Gu U)) bb fun e=>by cases e)];exact ad
 rw[eo] at c6;have dt:EZ 3 (p.above.map AF)=true:=Fm (f:=AF) (fun _=>rfl) _;refine ZT 1 ?_;refine Z1 (And.intro c6 (And.intro a0 (And.intro c4 (And.intro (show(l<=x.es.length)=True from Fa) (And.intro dt (show(l+p.above.length<=4294967296)=True from eq_true (by
  have:(x.es.take l).reverse.length+p.above.length<=4294967296:=a9;rw[Be,Lx] at this;omega))))))) ?_
 have br:(x.es.take l).length=l:=by rw[Lx];omega
 have dw:l+p.above.length<=4294967296:=by
  have:(x.es.take l).reverse.length+p.above.length<=4294967296:=a9;rw[Be,br] at this;exact this
 generalize c7:upd (C+1+4+1) _ a5=bs;have dy:bs (C+1+4+1)=Cd (x.es.take l++p.above) (x.ver+1) false:=by
  rw[<-c7,At,Cd,LX,NZ]
 have c9:Da G hp nx q m oid over u N s1 s2 s3 bs (aa+4) (Ec R { p with is:=true } x.N):=by
  rw[<-c7];exact cN.updRow c4 c5 ch.2 (by have:=j2.nxs;omega)
 have pu:Dq (Ec R { p with is:=true } x.N)=Hm R (Dq x.N):=dZ (n:=p) (g:=fun x=>{ x with is:=true }) rfl fun y hy e=>ZI E.nodes.keys hy nm (e.trans (Kk M).2.symm);refine⟨⟨⟨bs,_,Ec R { p with is:=true } x.N,0,0,x.ver+1,x.es.take l++p.above,l+p.above.length,T⟩,c9.more (fun _ _=>rfl) (by show aa+4<=aa+4+7;omega) (fun j (B:aa+4+7<=j)=>c9.new j (by omega)),dy,c5,?_,dw,?_⟩,CW,by show T<x.c;omega⟩
 ·show l+p.above.length<=(x.es.take l++p.above).length;rw[Ld,br];exact Lc _
 show JX nw n.rank T (Dq (Ec R _ x.N)) (List.take (l+p.above.length) (x.es.take l++p.above)).reverse=some Pm;rw[Nu (by rw[Ld,br];exact Lc _),Ic,pu];exact z
set_option maxRecDepth 4000 in
theorem Rl {n c f:Nat}{o:Ae}{rel:ByteArray}{s:AL}{nw:List PN->AB->Option Bool}{d k y:List PN}{u:List AB}{rk:AB->Int}{x:PN}
  (L:Hn G (.v (.string s.type_)) (.v (.string s.id_)) (.v (.string s.rel)) nw) (M:Hj (JC n G) c [] [⟨o,rel⟩]=some d) (z:FY (d.map (·.k)) d=some k) (O:d≠[]) (P:d.length<4611686018427387904)
  (Q:∀n∈k,rk n.k=n.rank) (A:∀r∈d.map (·.k),(DJ r k).isSome=true) (B:oG (fun a b=>GU (rk a) (rk b)) (d.map (·.k)) u) (R:u.length=d.length) (S:Kn nw f u k=some y) (C:DJ ⟨o,rel⟩ y=some x):
  AM Tryz.prog 34 [D.pt (Ak G) 0,.ag (DF o),.v (.string rel),.ag (AR s)] (.v (.bool x.is)) true:=by
 refine zP #[.tmp 8] Tryz.func34 ?_;refine Dg ?_;refine Ax ?_;refine AU ?_;generalize l:(upd 12 (some _) _:Hp)=g;have T:g 7=some (HM G (.v (.string s.type_)) (.v (.string s.id_)) (.v (.string s.rel)) 5 0 0 []):=by rw[<-l];rfl
 have U:g 5=some (.mo [] false):=by rw[<-l];rfl
 have w:g 12=some (Fw ⟨o,rel⟩):=by rw[<-l];rfl
 have V:∀j,14<=j->g j=none:=fun j E=>by
  rw[<-l,Ac,Ac,Ac,Ac,Ac,Ac];rfl
 refine ES w ?_;have X:DU g 5 []:=⟨U,(fun _ h=>by cases h),(fun _ h=>by cases h),NV,NV,(fun _ h=>by cases h)⟩;refine CO (AT.mono (ye (r0:=⟨o,rel⟩) (fun j (E:14+3<=j)=>V j (by omega)) T (fun h=>absurd rfl h) X (fun _ h=>by cases h) M rfl) fun v Y F h=> ?_);obtain⟨rfl,⟨N,oid,over,rfl,H,g2,g3,I,g5⟩,g6,g7,J⟩:=h;have J:14+3<=F:=J;have i:N≠[]:=fun e=>O (by rw[e];rfl);have p:Y 12=some (Fw ⟨o,rel⟩):=(g6 12 (fun h=>by cases w.symm.trans h) (by omega) (by omega) fun h=>absurd rfl h).trans w;have ek:(Dq N).map (·.k)=ordN N:=by simp[Dq,ordN,NO]
 rw[ek] at z A B;refine DQ ?_;refine Z0 ?_;refine CO (AT.mono (yj L (fun j (E:F+2<=j)=>g7 j (by omega)) g3 ((I i).trans (Gu (by simpa using i))) (by simpa using i) (by simpa using P) H g2 z Q A B (by simpa using R) S) fun v Z aa h=> ?_);obtain⟨rfl,N2,rfl,t⟩:=h;have b3:Z 12=some (Fw ⟨o,rel⟩):=(t.keep 12 (fun h=>by cases p.symm.trans h) (fun n hn e=>GC (H.box n hn) p (fun e=>by cases e) e) (GC p ((I i).trans (Gu (by simpa using i))) fun e=>by cases e)).trans p;rw[JB] at C;obtain⟨n2,K,rfl⟩:=La.1 C;refine DQ ?_;refine Z1 (Y5 t.box t.nodes.map b3 (Kl K) (t.nodes.bx K)) ?_;refine DD (by rfl) ?_;refine FN ?_;exact As
def yk (N:List PN)(r:AB):Bool:=((DJ r N).map (·.is)).getD false
def Po (N:List PN)(r:AB):Int:=((DJ r N).map (·.rank)).getD 0
def KC (n:Nat)(G:AI)(s:AL)(N:List PN)(r:AB):Option Bool:=(Gs n G.schema r.obj.type_ r.rel).bind fun a=>if a.1.expr.isEmpty then(Pl n G.index.left r.obj r.rel).bind fun b=>(RZ n b s).bind fun c=>(DJ r N).bind fun x=>if x.deps.all (fun d=>(DJ d N).isSome)&&decide (x.deps.length<4611686018427387904) then some (c||x.deps.any (yk N)) else none else none
theorem yl (n:Nat)(G:AI)(s:AL):Hn G (.v (.string s.type_)) (.v (.string s.id_)) (.v (.string s.rel)) (KC n G s):=by
 intro hp z q m o N r b i j a h;unfold KC at h;have⟨A,k,h⟩:=AP h;split at h;rotate_left
 ·cases h
 rename_i l;have⟨B,p,h⟩:=AP h;have⟨c,t,h⟩:=AP h;have⟨x,f,h⟩:=AP h;split at h;rotate_left
 ·cases h
 rename_i e;rw[Lm,LP] at e;cases h;rw[JB] at f;obtain⟨C,g,rfl⟩:=La.1 f;have⟨E,u,w⟩:=Rg i j a.map (Kl g) (a.bx g) k (Oj.1 l) p t (a.at_ fun d y=>by
  have:=e.1 d y;rw[JB] at this;simpa using this) (of_decide_eq_true e.2)
 exact AT.mono w fun v F H h=>⟨h.1,h.2.1,by rw[h.2.2];exact u⟩
theorem ym (d r:AB)(N:List PN):(Pn d r N).map (·.k)=N.map (·.k):=by
 unfold Pn;rw[Ba];refine Np fun n _=> ?_;simp only[Function.comp];split<;>rfl
theorem yn (d r:AB)(N:List PN):(Pn d r N).map (fun n=>(n.k,n.rank,n.deps))=N.map (fun n=>(n.k,n.rank,n.deps)):=by
 unfold Pn;rw[Ba];refine Np fun n _=> ?_;simp only[Function.comp];split<;>rfl
theorem oH {r:AB}:∀ {l:List AB} {N P:List PN},GW r l N=some P->P.map (fun n=>(n.k,n.rank,n.deps))=N.map (fun n=>(n.k,n.rank,n.deps))
 |[],N,P,h=>by cases h;rfl
 |d::l,N,P,h=>by
  unfold GW at h;have⟨n,_,h⟩:=AP h;split at h
  ·rw[oH h,yn]
  cases h
theorem oI:∀ {l:List AB} {N P:List PN},FY l N=some P->P.map (fun n=>(n.k,n.rank,n.deps))=N.map (fun n=>(n.k,n.rank,n.deps))
 |[],N,P,h=>by cases h;rfl
 |d::l,N,P,h=>by
  unfold FY at h;have⟨n,_,h⟩:=AP h;split at h
  ·have⟨M,a,h⟩:=AP h;rw[oI h,oH a]
  cases h
theorem JF {r:AB}:∀ {N:List PN} {n:PN},DJ r N=some n->n∈N/\n.k=r
 |[],_,h=>by cases h
 |x::l,n,h=>by
  unfold DJ at h;split at h
  ·rename_i e;cases h;exact⟨Lp ..,(eq_of_beq e).symm⟩
  have⟨a,b⟩:=JF h;exact⟨Lk _ a,b⟩
theorem db {r:AB}:∀ {N:List PN},DJ r N=none->∀n∈N,n.k≠r
 |[],_,_,a=>by cases a
 |x::l,h,n,a=>by
  unfold DJ at h;split at h
  ·cases h
  rename_i e;rcases Lv.1 a with rfl |a
  ·exact fun b=>e (by rw[b];exact beq_self_eq_true _)
  exact db h n a
theorem JY {r:AB}{N:List PN}(h:r∈N.map (·.k)):∃n,DJ r N=some n:=by
 cases e:DJ r N with
 |some n=>exact⟨n,rfl⟩
 |none=>
  have⟨n,a,b⟩:=LL.1 h;exact absurd b (db e n a)
theorem yo {N:List PN}(a:(N.map (·.k)).Nodup){n:PN}(h:n∈N):DJ n.k N=some n:=by
 induction N with
 |nil=>cases h
 |cons x l b=>
  rw[Lh,Nj] at a;show(if n.k==x.k then some x else DJ n.k l)=some n;rcases Lv.1 h with rfl |h
  ·rw[if_pos (beq_self_eq_true _)]
  rw[if_neg fun e=>a.1 (by rw[<-eq_of_beq e];exact LG h)];exact b a.2 h
theorem dc {nd:AB->Option (Int × List AB)}:∀ {f:Nat} {N R:List PN} {w:List AB},Hj nd f N w=some R->(N.map (·.k)).Nodup->(R.map (·.k)).Nodup
 |0,_,_,_,h,_=>by cases h
 |_+1,N,R,[],h,c=>by cases h;exact c
 |f+1,N,R,r::w,h,c=>by
  unfold Hj at h;split at h
  ·exact dc h c
  rename_i d;have⟨p,_,h⟩:=AP h;split at h
  ·refine dc h ?_;rw[LX];refine N8.2 ⟨c,Nj.2 ⟨Bh,NV⟩,fun a e b g=> ?_⟩;obtain⟨n,i,rfl⟩:=LL.1 e;rw[Lr.1 g];exact db (by simpa using d) n i
  cases h
theorem Rm {N P:List PN}(h:P.map (fun n=>(n.k,n.rank,n.deps))=N.map (fun n=>(n.k,n.rank,n.deps))):P.map (·.k)=N.map (·.k):=by
 have:=congrArg (List.map Prod.fst) h;simpa [NO] using this
end Go.Proofs.YtnmkbmefohakmaaGreat.Ab
