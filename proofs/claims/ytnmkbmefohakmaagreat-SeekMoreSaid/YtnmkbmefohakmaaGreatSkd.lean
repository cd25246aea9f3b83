/-
 Whether a subject is in a relation of an object: what it comes to, for relations without words of their own and few nodes.
-/
import Derived.Test.YtnmkbmefohakmaaGreatPra
set_option linter.all false
namespace Go.Proofs.YtnmkbmefohakmaaGreat.Ab
open Go.RowKit
def PQ (d r:AB)(N:List PN):List PN:=N.map fun n=>if d==n.k then{ n with above:=n.above++[r] } else n
def Hm (d:AB)(N:List PN):List PN:=N.map fun n=>if d==n.k then{ n with is:=true } else n
def GL (r:AB):List AB->List PN->Option (List PN)
 |[],N=>some N
 |d::l,N=>(Cp d N).bind fun n=>if n.above.length<4294967296 then GL r l (PQ d r N) else none
def E9:List AB->List PN->Option (List PN)
 |[],N=>some N
 |r::l,N=>(Cp r N).bind fun n=>if n.deps.length<=4294967296 then(GL r n.deps N).bind fun N=>E9 l N else none
def JI (nw:List PN->AB->Option Bool)(rank:Int):Nat->List PN->List AB->Option (List PN)
 |0,_,_=>none
 |_+1,N,[]=>some N
 |f+1,N,r::w=>(Cp r N).bind fun x=>if x.rank != rank then JI nw rank f N w else if x.is then JI nw rank f N w else(nw N r).bind fun b=>if b then(if w.length+x.above.length<=4294967296 then JI nw rank f (Hm r N) (x.above.reverse++w) else none) else JI nw rank f N w
def Kh (nw:List PN->AB->Option Bool)(f:Nat):List AB->List PN->Option (List PN)
 |[],N=>some N
 |r::l,N=>(Cp r N).bind fun x=>(JI nw x.rank f N [r]).bind fun N=>Kh nw f l N
def EC (d:AB)(n':Nd)(N:List Nd):List Nd:=N.map fun x=>if d==x.k then n' else x
theorem Sw {d:AB}{n':Nd}{N:List Nd}{x:Nd}(h:x∈EC d n' N):(x=n'/\∃y∈N,y.k=d)\/(x∈N/\x.k≠d):=by
 obtain⟨y,h1,h2⟩:=LQ.1 h;by_cases e:(d==y.k)=true
 ·rw[if_pos e] at h2;exact .inl ⟨h2.symm,y,h1,(eq_of_beq e).symm⟩
 rw[if_neg e] at h2;subst h2;exact .inr ⟨h1,fun e2=>e (by rw[e2];exact beq_self_eq_true _)⟩
theorem bv {d:AB}{n n':Nd}(hk:n'.k=n.k)(hi:n'.id=n.id):∀ {N:List Nd},(∀x∈N,x.k=d->x=n)->FH (EC d n' N)=FH N
 |[],_=>rfl
 |x::l,h=>by
  have ih:=bv (n':=n') hk hi (N:=l) fun y hy=>h y (Lh _ hy);show(_,_)::FH (EC d n' l)=(_,_)::FH l;rw[ih];dsimp only;by_cases e:(d==x.k)=true
  ·have:=h x (Lo ..) (eq_of_beq e).symm;rw[if_pos e,hk,hi,this]
  rw[if_neg e]
theorem X0 {N:List Nd}(h:(N.map (·.k)).Nodup){x y:Nd}(hx:x∈N)(hy:y∈N)(e:x.k=y.k):x=y:=by
 induction N with
 |nil=>cases hx
 |cons a l ih=>
  rw[Lk,Ng] at h;rcases Lm.1 hx with h1 |h1<;>rcases Lm.1 hy with h2 |h2
  ·rw[h1,h2]
  ·rw[h1] at e;exact absurd (e▸LH h2) h.1
  ·rw[h2] at e;exact absurd (e▸LH h1) h.1
  exact ih h.2 h1 h2
theorem uo {N:List Nd}(h:(N.map (·.id)).Nodup){x y:Nd}(hx:x∈N)(hy:y∈N)(e:x.id=y.id):x=y:=by
 induction N with
 |nil=>cases hx
 |cons a l ih=>
  rw[Lk,Ng] at h;rcases Lm.1 hx with h1 |h1<;>rcases Lm.1 hy with h2 |h2
  ·rw[h1,h2]
  ·rw[h1] at e;exact absurd (e▸LH h2) h.1
  ·rw[h2] at e;exact absurd (e▸LH h1) h.1
  exact ih h.2 h1 h2
theorem VR {N M:List Nd}(h:FH M=FH N):M.map (·.k)=N.map (·.k):=by
 have:=congrArg (List.map Prod.fst) h;simpa [FH,NM] using this
theorem lF {N M:List Nd}(h:FH M=FH N):M.map (·.id)=N.map (·.id):=by
 have:=congrArg (List.map Prod.snd) h;simp only[FH,N8] at this
 have:=congrArg (List.map fun o=>o.getD 0) this;simpa [NM] using this
theorem C0.set {hp hp':Hp}{m:Nat}{d:AB}{n n':Nd}{N:List Nd}(h:C0 hp m N)(hf:Fe d N=some n)(hk:n'.k=n.k)(hi:n'.id=n.id)(em:hp' m=hp m)(eb:hp' n.id=some (KC n'))
  (eo:∀x∈N,x.k≠d->hp' x.id=hp x.id) (er:n'.above≠[]->hp' n'.rid=CD 3 n'.ver false (n'.above.map AF)) (eq:∀x∈N,x.k≠d->x.above≠[]->hp' x.rid=hp x.rid/\(n'.above≠[]->n'.rid≠x.rid)):C0 hp' m (EC d n' N):=by
 obtain⟨hn,hd⟩:=Ke hf;have hix:=bv (n':=n') hk hi (N:=N) fun x hx e=>X0 h.keys hx hn (e.trans hd.symm);refine⟨?_,fun x hx=> ?_,fun x hx ha=> ?_,?_,?_,fun x hx y hy h1 h2 e=> ?_⟩
 ·rw[em,h.map];unfold FT;rw[hix]
 ·rcases Sw hx with⟨e1,_⟩ |⟨hx2,hne⟩
  ·rw[e1,hi,eb]
  rw[eo x hx2 hne,h.box x hx2]
 ·rcases Sw hx with⟨e1,_⟩ |⟨hx2,hne⟩
  ·rw[e1] at ha⊢;exact er ha
  rw[(eq x hx2 hne ha).1,h.row x hx2 ha]
 ·rw[VR hix];exact h.keys
 ·rw[lF hix];exact h.ids
 rcases Sw hx with⟨e1,_⟩ |⟨hx2,hne⟩<;>rcases Sw hy with⟨e2,_⟩ |⟨hy2,hne2⟩
 ·rw[e1,e2]
 ·rw[e1] at e h1;exact absurd e ((eq y hy2 hne2 h2).2 h1)
 ·rw[e2] at e h2;exact absurd e.symm ((eq x hx2 hne h1).2 h2)
 exact h.rids x hx2 y hy2 h1 h2 e
theorem bw {d:AB}{n n':Nd}{g:PN->PN}(hg:n'.toPN=g n.toPN):∀ {N:List Nd},(∀x∈N,x.k=d->x=n)->DW (EC d n' N)=(DW N).map fun x=>if d==x.k then g x else x
 |[],_=>rfl
 |x::l,h=>by
  have ih:=bw hg (N:=l) fun y hy=>h y (Lh _ hy);show Nd.toPN _::DW (EC d n' l)=_::(DW l).map _;rw[ih];dsimp only;by_cases e:(d==x.k)=true
  ·have:=h x (Lo ..) (eq_of_beq e).symm;rw[if_pos e,if_pos e,hg,this]
  rw[if_neg e,if_neg e]
abbrev Q7 (G:AM)(s1 s2 s3:AV)(m oid over:Nat)(ord:List AB):AO:=.bx [.d (.pt (Aq G) 0) true,s1,s2,s3,.mo m,Aa oid over (ord.map AF)]
abbrev FU (r:AB):AO:=.bx [.v (.string r.obj.type_),.v (.string r.obj.id_),.v (.string r.rel)]
abbrev uq (r:AB):AV:=.ag [.v (.string r.obj.type_),.v (.string r.obj.id_),.v (.string r.rel)]
def lG (cf:AB->AB->Int)(xs ys:List AB):Prop:=∀(g:FuncId) (caps:List AV) (S:AB->Prop) (ids:List Nat) (hp0:Hp) (br:Bool) (i ver:Nat),Is Tryz.prog g caps (fun r:AB=>.d (.ag (AF r)) br) S cf ids hp0->i∉ids->(∀x∈xs,S x)->∀(hp:Hp) (nx:Nat),(∀j∈ids,hp j=hp0 j)->hp i=CL xs ver br->AK Tryz.prog 97 [.so i ver 0 xs.length,.fn g caps] hp nx fun v hp2 nx2=>v= .tu []/\hp2=upd i (CL ys ver br) hp/\nx<=nx2
def Hn (G:AM)(s1 s2 s3:AV)(nw:List PN->AB->Option Bool):Prop:=∀(hp:Hp) (nx q m:Nat) (o:AV) (N:List Nd) (r:AB) (b:Bool),(∀j,nx<=j->hp j=none)->hp q=some (.bx [.d (.pt (Aq G) 0) true,s1,s2,s3,.mo m,o])->C0 hp m N->nw (DW N) r=some b->AK Tryz.prog 100 [.pt q 0,uq r] hp nx fun v hp2 nx2=>v= .v (.bool b)/\hp2=hp/\nx<=nx2
structure DH (G:AM) (hp0:Hp) (nx0 q m oid over:Nat) (ord:List AB) (N0:List Nd) (s1 s2 s3:AV) (hp:Hp) (nx:Nat) (N:List Nd):Prop where
 new:∀j,nx<=j->hp j=none
 box:hp q=some (Q7 G s1 s2 s3 m oid over ord)
 cb:hp nx0=some (.bx [.pt q 0])
 row:hp oid=CL ord over false
 nodes:C0 hp m N
 osep:oid∉KD N
 rnew:∀i∈KD N,nx0<=i
 ix:FH N=FH N0
 keep:∀i,hp0 i≠none->(∀n∈N0,n.id≠i)->i≠oid->hp i=hp0 i
 nxs:nx0<nx
 old:∀i,nx0<=i->hp0 i=none
theorem C0.bx {hp:Hp}{m:Nat}{N:List Nd}{r:AB}{n:Nd}(h:C0 hp m N)(hf:Fe r N=some n):hp n.id=some (.bx [.v (.int .i64 n.rank),.d (.sl (n.deps.map AF)) false,Aa n.rid n.ver (n.above.map AF),.v (.bool n.is)]):=h.box n (Ke hf).1
theorem Fu {hp:Hp}{i j:Nat}{x y:AO}(hi:hp i=some x)(hj:hp j=some y)(h:x=y->False):i≠j:=fun e=>by
 subst e;rw[hi] at hj;exact h (LI hj)
theorem DH.more {G:AM}{hp0 hp hp':Hp}{nx0 q m oid over nx nx':Nat}{ord:List AB}{N0 N:List Nd}{s1 s2 s3:AV}(h:DH G hp0 nx0 q m oid over ord N0 s1 s2 s3 hp nx N)(e:∀i,i<nx->hp' i=hp i)(hn:nx<=nx')(hnew:∀j,nx'<=j->hp' j=none):DH G hp0 nx0 q m oid over ord N0 s1 s2 s3 hp' nx' N where
 new:=hnew
 box:=(e _ (CR h.new h.box)).trans h.box
 cb:=(e _ (CR h.new h.cb)).trans h.cb
 row:=(e _ (CR h.new h.row)).trans h.row
 nodes:=h.nodes.more (e _ (CR h.new h.nodes.map)) (fun n hn=>e _ (CR h.new (h.nodes.box n hn))) fun n hn ha=>e _ (CR h.new ((h.nodes.row n hn ha).trans (Gn ha)))
 osep:=h.osep
 rnew:=h.rnew
 ix:=h.ix
 keep:=fun i h1 h2 h3=>by
  have h4:=h.keep i h1 h2 h3;rcases Nf i nx with h5 |h5
  ·exact(e i h5).trans h4
  rw[h.new i h5] at h4;exact absurd h4.symm h1
 nxs:=Lz h.nxs hn
 old:=h.old
theorem DH.set {G:AM}{hp0 hp hp':Hp}{nx0 q m oid over nx nx':Nat}{ord:List AB}{N0 N:List Nd}{s1 s2 s3:AV}(h:DH G hp0 nx0 q m oid over ord N0 s1 s2 s3 hp nx N){d:AB}{n n':Nd}(hf:Fe d N=some n)(hk:n'.k=n.k)(hi:n'.id=n.id)
  (e:∀i,i<nx->i≠n.id->(n.above≠[]->i≠n.rid)->hp' i=hp i) (eb:hp' n.id=some (KC n')) (er:n'.above≠[]->hp' n'.rid=CD 3 n'.ver false (n'.above.map AF)) (el:n'.above≠[]->(n.above≠[]/\n'.rid=n.rid)\/nx<=n'.rid)
  (hn:nx<=nx') (hnew:∀j,nx'<=j->hp' j=none):DH G hp0 nx0 q m oid over ord N0 s1 s2 s3 hp' nx' (EC d n' N):=by
 obtain⟨hm,hd⟩:=Ke hf;have hb:=h.nodes.box n hm;have hr:=h.nodes.row n hm;have nr:∀(i:Nat) (x:AO),hp i=some x->(∀es sz v b f,x≠ .rw es sz v b f)->n.above≠[]->i≠n.rid:=fun i x h1 h2 h3=>Fu h1 ((hr h3).trans (Gn h3)) fun e=>h2 _ _ _ _ _ e;have hix:=bv (n':=n') hk hi (N:=N) fun x hx e=>X0 h.nodes.keys hx hm (e.trans hd.symm)
 have erid:∀i∈KD (EC d n' N),(i∈KD N)\/nx<=i:=fun i hi=>by
  obtain⟨x,h1,h2,h3⟩:=Sv hi;rcases Sw h1 with⟨e1,_⟩ |⟨hx,_⟩
  ·rw[e1] at h2 h3;rcases el h2 with⟨h4,h5⟩ |h4
   ·exact .inl (h3▸h5▸Q5 hm h4)
   exact .inr (h3▸h4)
  exact .inl (h3▸Q5 hx h2)
 refine⟨hnew,?_,?_,?_,?_,fun ho=> ?_,fun i hi=> ?_,hix.trans h.ix,fun i h1 h2 h3=> ?_,Lz h.nxs hn,h.old⟩
 ·rw[e q (CR h.new h.box) (Fu h.box hb fun e=>by cases e) (nr q _ h.box fun _ _ _ _ _ e=>by cases e),h.box]
 ·rw[e nx0 h.nxs (Fu h.cb hb fun e=>by cases e) (nr nx0 _ h.cb fun _ _ _ _ _ e=>by cases e),h.cb]
 ·rw[e oid (CR h.new h.row) (Fu h.row hb fun e=>by cases e) fun ha e=>h.osep (e▸Q5 hm ha),h.row]
 ·refine h.nodes.set hf hk hi (e m (CR h.new h.nodes.map) (Fu h.nodes.map hb fun e=>by cases e) (nr m _ h.nodes.map fun _ _ _ _ _ e=>by cases e)) eb (fun x hx hne=>e x.id (CR h.new (h.nodes.box x hx)) (fun e=>hne ((congrArg (·.k) (uo h.nodes.ids hx hm e)).trans hd)) (nr x.id _ (h.nodes.box x hx) fun _ _ _ _ _ e=>by cases e)) er fun x hx hne ha=> ?_
  have hxr:=(h.nodes.row x hx ha).trans (Gn ha);have lx:=CR h.new hxr;have hne2:n.above≠[]->x.rid≠n.rid:=fun ha2 e=>hne ((h.nodes.rids x hx n hm ha ha2 e).trans hd);refine⟨e x.rid lx (Fu hxr hb fun e=>by cases e) hne2,fun ha2 e=> ?_⟩;rcases el ha2 with⟨h4,h5⟩ |h4
  ·exact hne2 h4 (e.symm.trans h5)
  omega
 ·rcases erid _ ho with h1 |h1
  ·exact h.osep h1
  have:=CR h.new h.row;omega
 ·rcases erid _ hi with h1 |h1
  ·exact h.rnew _ h1
  have:=h.nxs;omega
 have h4:=h.keep i h1 h2 h3;have hi:i<nx:=by
  rcases Nf i nx with h5 |h5
  ·exact h5
  rw[h.new i h5] at h4;exact absurd h4.symm h1
 rw[e i hi (fun e=>by
  have h5:n.id∈N0.map (·.id):=by
   rw[<-lF h.ix];exact LH hm
  obtain⟨y,h6,h7⟩:=LQ.1 h5;exact h2 y h6 (h7.trans e.symm)) fun ha e=> ?_,h4]
 have h5:=h.rnew _ (Q5 hm ha);rw[<-e] at h5;exact h1 (h.old i h5)
theorem DH.updRow {G:AM}{hp0 hp:Hp}{nx0 q m oid over nx wid:Nat}{ord:List AB}{N0 N:List Nd}{s1 s2 s3:AV}{o:Option AO}{es:List (List D)}{sz ver:Nat}{br fz:Bool}(h:DH G hp0 nx0 q m oid over ord N0 s1 s2 s3 hp nx N)(hw:hp wid=some (.rw es sz ver br fz))(h1:wid∉KD N)(h2:wid≠oid)(h3:nx0<=wid):DH G hp0 nx0 q m oid over ord N0 s1 s2 s3 (upd wid o hp) nx N where
 new:=fun j hj=>by
  have:=CR h.new hw;rw[AR];exact h.new j hj
 box:=(Ad _ _ (Fu h.box hw fun e=>by cases e)).trans h.box
 cb:=(Ad _ _ (Fu h.cb hw fun e=>by cases e)).trans h.cb
 row:=(Ad _ _ (Ne.symm h2)).trans h.row
 nodes:=h.nodes.upd_row (.inr ⟨_,_,_,_,_,hw⟩) h1
 osep:=h.osep
 rnew:=h.rnew
 ix:=h.ix
 keep:=fun i e1 e2 e3=>by
  have:=h.keep i e1 e2 e3;rw[Ad _ _ fun e=>by
   subst e;exact e1 (h.old _ h3)]
  exact this
 nxs:=h.nxs
 old:=h.old
def Ki (a b c i:Nat):Nat:=if i=a then 1 else if i=b then 2 else if i=c then 3 else 0
theorem Q8 {a b c i:Nat}(h1:i≠a)(h2:i≠b)(h3:i≠c):Ki a b c i=0:=by unfold Ki;rw[if_neg h1,if_neg h2,if_neg h3]
set_option maxRecDepth 4000 in
theorem ur {hp:Hp}{nx q m oid over f:Nat}{G:AM}{s1 s2 s3:AV}{N:List Nd}{nw:List PN->AB->Option Bool}{ord ord2:List AB}{P1 P2:List PN}{rk:AB->Int}(hnw:Hn G s1 s2 s3 nw)(hf:∀j,nx<=j->hp j=none)
  (hq:hp q=some (Q7 G s1 s2 s3 m oid over ord)) (ho:hp oid=CL ord over false) (hne:ord≠[]) (hL:ord.length<4611686018427387904) (hN:C0 hp m N) (ha:∀n∈N,n.above= []) (h1:E9 ord (DW N)=some P1) (hrk:∀n∈P1,rk n.k=n.rank) (hord:∀r∈ord,(Cp r P1).isSome=true) (h2:lG (fun a b=>GJ (rk a) (rk b)) ord ord2) (hL2:ord2.length=ord.length) (h3:Kh nw f ord2 P1=some P2):
  AK Tryz.prog 67 [.pt q 0] hp nx fun v hp2 nx2=>v= .tu []/\∃N2,DW N2=P2/\DH G hp nx q m oid over ord2 N s1 s2 s3 hp2 nx2 N2:=by
 refine zq Tryz.func67 ?_;have w:=Y2 (E8 hf hq) (Y2 hq (YV (f:=AF) (NA.2 hne)));refine AW (ZT 1 ?_);refine Qy w ?_;refine CN ?_;have hp1e:∀i,i<nx->upd nx (some (.bx [.pt q 0])) hp i=hp i:=fun i hi=>AR;have S0:DH G hp nx q m oid over ord N s1 s2 s3 (upd nx (some (.bx [.pt q 0])) hp) (nx+1+6) N:=
  {
   new:=fun j hj=>by rw[AR];exact hf j (by omega)
   box:=(hp1e _ (CR hf hq)).trans hq
   cb:=Ah ..
   row:=(hp1e _ (CR hf ho)).trans ho
   nodes:=hN.upd_new (hf nx (Lc _))
   osep:=fun h=>by
    obtain⟨n,h1,h2,_⟩:=Sv h;exact h2 (ha n h1)
   rnew:=fun i h=>by
    obtain⟨n,h1,h2,_⟩:=Sv h;exact absurd (ha n h1) h2
   ix:=rfl
   keep:=fun i h _ _=>hp1e i (by
    rcases Nf i nx with h1 |h1
    ·exact h1
    exact absurd (hf i h1) h)
   nxs:=by omega
   old:=hf }
 refine DS (α:={ x:Nat × Hp × Nat × List Nd // x.1<=ord.length/\DH G hp nx q m oid over ord N s1 s2 s3 x.2.1 x.2.2.1 x.2.2.2/\E9 (ord.drop x.1) (DW x.2.2.2)=some P1 })
  (fun x=>⟨upd 1 (.pt nx 0) (upd 15 (.so oid over 0 ord.length) (upd 16 (.v (.int .i64 (ord.length:Int))) (upd 17 (.v (.int .i64 (x.1.1:Int))) AQ))),x.1.2.1,x.1.2.2.1⟩) (fun x=>ord.length-x.1.1) ⟨(0,upd nx (some (.bx [.pt q 0])) hp,nx+1+6,N),Ll _,S0,h1⟩ ?_ ?_
 ·exact CH
 rintro⟨⟨k,hp2,nx2,N2⟩,g1,g2,g3⟩;dsimp only at g1 g2 g3;refine AW (ZT 1 ?_);by_cases hk:k<ord.length
 ·have c1:(decide ((k:Int)<(ord.length:Int)))=true:=Cb;refine Ck c1 ?_;refine Z0 ?_;refine AW (CN ?_);refine AW ?_;obtain⟨r,hr⟩:∃r,ord[k]? =some r:=⟨_,Ld hk⟩;rw[Ly hk,show ord[k]=r from(Lb.1 hr).2] at g3;unfold E9 at g3;obtain⟨pn,pe,g3⟩:=AJ g3;split at g3;rotate_left
  ·cases g3
  rename_i hdl;obtain⟨Pm,g4,g3⟩:=AJ g3;rw[IZ] at pe;obtain⟨n,e1,rfl⟩:=La.1 pe;have hk2:(k<ord.length)=True:=eq_true hk;refine ZT 1 ?_;refine Z1 (Y3 hk2 g2.row (Cs AF hr)) ?_;refine AW ?_;generalize e3:upd (nx2+1+2) _ _=hp3;have g5:DH G hp nx q m oid over ord N s1 s2 s3 hp3 (nx2+1+4) N2:=g2.more (fun i hi=>by rw[<-e3,AR,AR]) (by omega) fun j hj=>by rw[<-e3,AR,AR];exact g2.new j (by omega)
  have b3:hp3 (nx2+1+2)=some (FU r):=by rw[<-e3,Ah]
  refine ZT 1 ?_;refine Z1 (Y6 g5.cb g5.box g5.nodes.map b3 (Kf e1) (g5.nodes.bx e1)) ?_;refine DR (by rfl) ?_;refine Z0 ?_;refine CN ?_;refine DS (α:={ x:Nat × Hp × Nat × List Nd // x.1<=n.deps.length/\DH G hp nx q m oid over ord N s1 s2 s3 x.2.1 x.2.2.1 x.2.2.2/\x.2.1 (nx2+1+2)=some (FU r)/\GL r (n.deps.drop x.1) (DW x.2.2.2)=some Pm })
   (fun x=>⟨upd 1 (.pt nx 0) (upd 3 (.pt (nx2+1+2) 0) (upd 29 (.d (.sl (n.deps.map AF)) false) (upd 30 (.v (.int .i64 (n.deps.length:Int))) (upd 31 (.v (.int .i64 (x.1.1:Int))) (upd 15 (.so oid over 0 ord.length) (upd 16 (.v (.int .i64 (ord.length:Int))) (upd 17 (.v (.int .i64 (k:Int))) AQ))))))),x.1.2.1,x.1.2.2.1⟩) (fun x=>n.deps.length-x.1.1) ⟨(0,hp3,nx2+1+4+11,N2),Ll _,g5.more (fun _ _=>rfl) (by show _<=nx2+1+4+11;omega) fun j (hj:nx2+1+4+11<=j)=>g5.new j (by omega),b3,g4⟩ ?_ ?_
  ·exact CH
  rintro⟨⟨j,hp4,nx4,N4⟩,i1,i2,i3,i4⟩;dsimp only at i1 i2 i3 i4;refine AW (ZT 1 ?_);by_cases hj:j<n.deps.length;rotate_left
  ·have c2:(decide ((j:Int)<(n.deps.length:Int)))=false:=Cr;refine Ep c2 ?_;refine ZT 1 ?_;refine Z1 (As (show k+1<4611686018427387904 by omega)) ?_;rw[Nz (by omega)] at i4;cases i4;exact⟨⟨(k+1,hp4,_,N4),by show k+1<=ord.length;omega,i2.more (fun _ _=>rfl) (by show nx4<=nx4+1+2;omega) (fun j (hj:nx4+1+2<=j)=>i2.new j (by omega)),g3⟩,CH,by show ord.length-(k+1)<ord.length-k;omega⟩
  have c2:(decide ((j:Int)<(n.deps.length:Int)))=true:=Cb;refine Ck c2 ?_;refine Z0 ?_;refine AW (CN ?_);refine AW ?_;obtain⟨d,hd⟩:∃d,n.deps[j]? =some d:=⟨_,Ld hj⟩;rw[Ly hj,show n.deps[j]=d from(Lb.1 hd).2] at i4;unfold GL at i4;obtain⟨dn,pd,i4⟩:=AJ i4;split at i4;rotate_left
  ·cases i4
  rename_i hsm;rw[IZ] at pd;obtain⟨n4,d1,rfl⟩:=La.1 pd;refine ZT 1 ?_;refine Z1 (Cs AF hd) ?_;generalize e5:upd (nx4+1+2) _ _=hp5;have old5:∀i,i<nx4->hp5 i=hp4 i:=fun i hi=>by rw[<-e5,AR,AR]
  have i5:DH G hp nx q m oid over ord N s1 s2 s3 hp5 (nx4+1+4) N4:=i2.more old5 (by omega) fun j hj=>by rw[<-e5,AR,AR];exact i2.new j (by omega)
  have b5:hp5 (nx4+1+2)=some (FU d):=by rw[<-e5,Ah]
  have b35:hp5 (nx2+1+2)=some (FU r):=(old5 _ (CR i2.new i3)).trans i3;have dm:=(Ke d1).1;obtain⟨o',eo,ho',hoB,hoO⟩:∃o',Aa n4.rid n4.ver (n4.above.map AF)=Aa o' n4.ver (n4.above.map AF)/\hp5 o'=CD 3 n4.ver false (n4.above.map AF)/\(∀j,j<100->o'≠nx4+1+4+j)/\(n4.above≠[]->o'=n4.rid):=by
   rcases hN0:n4.above with _ |⟨n1,N1⟩
   ·exact⟨nx4+1+4+1000,rfl,i5.new _ (by omega),fun j hj=>by omega,fun h=>absurd rfl h⟩
   rw[<-hN0];have h0:n4.above≠[]:=(by rw[hN0];exact fun h=>by cases h);have hrow:=i5.nodes.row n4 dm h0
   have:=CR i5.new (hrow.trans (Gn h0));exact⟨n4.rid,rfl,hrow,fun j hj=>by omega,fun _=>rfl⟩
  obtain⟨A,eA⟩:∃A,A=Cw (nx4+1+4+17) o' (n4.above.map AF):=⟨_,rfl⟩;have hA:∀(i:Nat) (y:AO),hp5 i=some y->(∀es sz v b f,y≠ .rw es sz v b f)->i≠A:=fun i y hi hy e=>by
   rw[e,eA] at hi;cases hL:n4.above.map AF with
   |nil=>
    rw[hL] at hi
    have:=i5.new (nx4+1+4+17) (by omega);rw[show hp5 (nx4+1+4+17)=some y from hi] at this;cases this
   |cons c0 l0=>
    rw[hL] at hi ho';rw[show hp5 o'=some y from hi] at ho';cases ho';exact hy _ _ _ _ _ rfl
  have box4:=i5.nodes.bx d1;rw[eo] at box4;have hiA:=hA _ _ box4 fun _ _ _ _ _ e=>by cases e
  have hsA:nx4+1+4+16≠A:=by
   rw[eA];cases hL:n4.above.map AF with |nil=>show nx4+1+4+16≠nx4+1+4+17;omega |cons _ _=>exact(hoB 16 (by omega)).symm
  have nX:∀ {i:Nat} {o:AO},hp5 i=some o->(i=nx4+1+4+16)=False:=fun h=>eq_false (by have:=CR i5.new h;omega);have w7:=And.intro i5.cb <|And.intro i5.box <|And.intro i5.nodes.map <|And.intro b5 <|And.intro b35 <|And.intro (Kf d1)<|And.intro box4 <|And.intro ho' <|And.intro (show(o'=nx4+1+4+16)=False from eq_false (hoB 16 (by omega)))<|And.intro (nX i5.cb)<|And.intro (nX i5.box)<|And.intro (nX i5.nodes.map)<|And.intro (nX b5)<|And.intro (nX b35)<|And.intro (nX box4)<|
   And.intro (show(n4.id=Cw (nx4+1+4+17) o' (n4.above.map AF))=False from eq_false (eA▸hiA)) (show(n4.above.length+1<=4294967296)=True from eq_true (by have:n4.above.length<4294967296:=hsm;omega))
  refine HG w7 ?_;rw[<-eA];have v1:Ki n4.id A (nx4+1+4+16) n4.id=1:=by simp[Ki]
  have v2:Ki n4.id A (nx4+1+4+16) A=2:=by simp[Ki,Ne.symm hiA]
  have v3:Ki n4.id A (nx4+1+4+16) (nx4+1+4+16)=3:=by unfold Ki;rw[if_neg (fun e=>(nX box4).mp e.symm),if_neg hsA,if_pos rfl]
  have vo:∀(i:Nat) (y:AO),hp5 i=some y->(∀es sz v b f,y≠ .rw es sz v b f)->y≠ .bx [.v (.int .i64 n4.rank),.d (.sl (n4.deps.map AF)) false,Aa o' n4.ver (n4.above.map AF),.v (.bool n4.is)]->Ki n4.id A (nx4+1+4+16) i=0:=fun i y h1 h2 h3=>Q8 (Fu h1 box4 h3) (hA i y h1 h2) fun e=>(nX h1).mp e;have v4:=vo _ _ i5.cb (fun _ _ _ _ _ e=>by cases e) fun e=>by cases e
  have v5:=vo _ _ i5.box (fun _ _ _ _ _ e=>by cases e) fun e=>by cases e
  have v6:=vo _ _ i5.nodes.map (fun _ _ _ _ _ e=>by cases e) fun e=>by cases e
  have v7:=vo _ _ b5 (fun _ _ _ _ _ e=>by cases e) fun e=>by cases e
  have v8:=vo _ _ b35 (fun _ _ _ _ _ e=>by cases e) fun e=>by cases e
  refine JH (Ki n4.id A (nx4+1+4+16)) _ rfl (by simp only[Nc,Nk,LE,LJ,Lk,LD,HH,v1,v2,v3,v4,v5,v6,v7,v8];rfl) (by rfl) ?_;refine Z0 ?_;generalize e6:upd n4.id _ _=hp6;refine ZT 1 ?_;have hdl2:n.deps.length<=4294967296:=hdl;refine Z1 (As (show j+1<4611686018427387904 by omega)) ?_;have hAlt:A<nx4+1+4+21/\((n4.above≠[]/\A=n4.rid)\/nx4+1+4<=A):=by
   rw[eA];rcases hN0:n4.above with _ |⟨n1,N1⟩
   ·exact⟨by show nx4+1+4+17<_;omega,.inr (by show _<=nx4+1+4+17;omega)⟩
   have h0:n4.above≠[]:=by rw[hN0];exact fun h=>by cases h
   have:=CR i5.new ((i5.nodes.row n4 dm h0).trans (Gn h0));refine⟨?_,.inl ⟨fun h=>(by cases h),hoO h0⟩⟩;show o'<_;rw[hoO h0];omega
  have j5:DH G hp nx q m oid over ord N s1 s2 s3 hp6 (nx4+1+4+21+2) (EC d { n4 with above:=n4.above++[r],rid:=A,ver:=C8 n4.ver (n4.above.map AF) } N4):=by
   refine i5.set d1 rfl rfl (fun i l1 l2 l3=> ?_) ?_ (fun _=> ?_) (fun _=>hAlt.2) (by omega) fun j hj=> ?_
   ·have hiA:i≠A:=fun e=>by
     rcases hAlt.2 with⟨h1,h2⟩ |h1
     ·exact l3 h1 (e.trans h2)
     omega
    rw[<-e6,Ad _ _ l2,Ad _ _ hiA,AR]
   ·rw[<-e6,Ah];unfold KC;rw[JC (by simp)];simp
   ·show hp6 A=CD 3 (C8 n4.ver (n4.above.map AF)) false ((n4.above++[r]).map AF);rw[<-e6,Ad _ _ (Ne.symm hiA),Ah,UL (by simp)];simp
   have:=CR i5.new box4
   have:=hAlt.1;rw[<-e6,AR,AR,AR];exact i5.new j (by omega)
  have j3:hp6 (nx2+1+2)=some (FU r):=by
   rw[<-e6,Ad _ _ (Fu b35 box4 fun e=>by cases e),Ad _ _ (hA _ _ b35 fun _ _ _ _ _ e=>by cases e),Ad _ _ fun e=>(nX b35).mp e];exact b35
  refine⟨⟨(j+1,hp6,_,_),by show j+1<=n.deps.length;omega,j5,j3,?_⟩,CH,by show n.deps.length-(j+1)<n.deps.length-j;omega⟩;have pu:DW (EC d { n4 with above:=n4.above++[r],rid:=A,ver:=C8 n4.ver (n4.above.map AF) } N4)=PQ d r (DW N4):=bw (n:=n4) (g:=fun x=>{ x with above:=x.above++[r] }) rfl fun x hx e=>X0 i5.nodes.keys hx dm (e.trans (Ke d1).2.symm);exact(congrArg (GL r (n.deps.drop (j+1))) pu).trans i4
 have c1:(decide ((k:Int)<(ord.length:Int)))=false:=Cr;refine Ep c1 ?_;rw[Nz (by omega)] at g3;have g3:DW N2=P1:=LI g3;refine AW (ZT 1 ?_);refine Z1 (Y3 g2.cb g2.box (YV (f:=AF) (NA.2 hne))) ?_;have hmem:∀r∈ord,∃id x1 x2 x3,Db (FT N2) r id/\hp2 id=some (.bx [.v (.int .i64 (rk r)),x1,x2,x3])/\id∈N2.map (·.id):=fun r hr=>by
  obtain⟨pn,hpn⟩:=NH.1 (hord r hr);rw[<-g3,IZ] at hpn;obtain⟨n2,e1,rfl⟩:=La.1 hpn;obtain⟨e2,e3⟩:=Ke e1;have e4:=hrk n2.toPN (g3▸LH e2);have e5:=g2.nodes.bx e1;rw[show n2.rank=rk r from e3▸e4.symm] at e5;exact⟨n2.id,_,_,_,Kf e1,e5,LH e2⟩
 have hoid:oid∉nx::q::m::N2.map (·.id):=fun h=>by
  rcases Lm.1 h with h |h
  ·exact Fu g2.row g2.cb (fun e=>by cases e) h
  rcases Lm.1 h with h |h
  ·exact Fu g2.row g2.box (fun e=>by cases e) h
  rcases Lm.1 h with h |h
  ·exact Fu g2.row g2.nodes.map (fun e=>by cases e) h
  obtain⟨n2,e1,e2⟩:=LQ.1 h;exact Fu g2.row (g2.nodes.box n2 e1) (fun e=>by cases e) e2.symm
 refine CG (AK.mono (h2 98 [.pt nx 0] _ _ hp2 false oid over (um (rk:=rk) (ids:=N2.map (·.id)) g2.cb g2.box g2.nodes.map) hoid hmem hp2 _ (fun _ _=>rfl) g2.row) fun v hp4 nx4 h=> ?_);obtain⟨rfl,rfl,h⟩:=h;have h:nx2+1+6<=nx4:=h;have hne2:ord2≠[]:=fun e=>hne (N6.1 (by rw[<-hL2,e];rfl));have i4:DH G hp nx q m oid over ord2 N s1 s2 s3 (upd oid (CL ord2 over false) hp2) nx4 N2:=
  {
   new:=fun j hj=>by
    have:=CR g2.new g2.row;rw[AR];exact g2.new j (by omega)
   box:=by
    rw[Ad _ _ (Fu g2.box g2.row fun e=>by cases e),g2.box];unfold Q7;rw[JC (NA.2 hne),JC (NA.2 hne2),hL2]
   cb:=(Ad _ _ (Fu g2.cb g2.row fun e=>by cases e)).trans g2.cb
   row:=Ah ..
   nodes:=g2.nodes.upd_row (.inr ⟨_,_,_,_,_,g2.row⟩) g2.osep
   osep:=g2.osep
   rnew:=g2.rnew
   ix:=g2.ix
   keep:=fun i e1 e2 e3=>(Ad _ _ e3).trans (g2.keep i e1 e2 e3)
   nxs:=by have:=g2.nxs;omega
   old:=g2.old }
 rw[<-g3] at h3;generalize e4:upd oid (CL ord2 over false) hp2=hp4 at i4⊢;refine Dj ?_;refine Z1 (Y3 i4.cb i4.box (YV (f:=AF) (NA.2 hne2))) ?_;refine CN ?_;refine DS (α:={ x:Nat × Hp × Nat × List Nd // x.1<=ord2.length/\DH G hp nx q m oid over ord2 N s1 s2 s3 x.2.1 x.2.2.1 x.2.2.2/\Kh nw f (ord2.drop x.1) (DW x.2.2.2)=some P2 })
  (fun x=>⟨upd 1 (.pt nx 0) (upd 66 (.so oid over 0 ord2.length) (upd 67 (.v (.int .i64 (ord2.length:Int))) (upd 68 (.v (.int .i64 (x.1.1:Int))) AQ))),x.1.2.1,x.1.2.2.1⟩) (fun x=>ord2.length-x.1.1) ⟨(0,hp4,nx4+6,N2),Ll _,i4.more (fun _ _=>rfl) (by show nx4<=nx4+6;omega) (fun j (hj:nx4+6<=j)=>i4.new j (by omega)),h3⟩ ?_ ?_
 ·exact CH
 rintro⟨⟨k,hp5,nx5,N5⟩,j1,j2,j3⟩;dsimp only at j1 j2 j3;refine AW (ZT 1 ?_);by_cases hk5:k<ord2.length;rotate_left
 ·have c1:(decide ((k:Int)<(ord2.length:Int)))=false:=Cr;refine Ep c1 ?_;rw[Nz (by omega)] at j3;exact⟨_,hp5,rfl,⟨fun _=>.inr rfl⟩,rfl,N5,LI j3,j2.more (fun _ _=>rfl) (by show nx5<=nx5+1;omega) fun j (hj:nx5+1<=j)=>j2.new j (by omega)⟩
 have c1:(decide ((k:Int)<(ord2.length:Int)))=true:=Cb;refine Ck c1 ?_;refine Z0 ?_;refine AW (CN ?_);refine AW ?_;obtain⟨r,hr⟩:∃r,ord2[k]? =some r:=⟨_,Ld hk5⟩;rw[Ly hk5,show ord2[k]=r from(Lb.1 hr).2] at j3;unfold Kh at j3;obtain⟨pn,pe,j3⟩:=AJ j3;obtain⟨Pm,j4,j9⟩:=AJ j3;rw[IZ] at pe;obtain⟨n,e1,rfl⟩:=La.1 pe;refine ZT 1 ?_;refine Z1 (Y3 (show(k<ord2.length)=True from eq_true hk5) j2.row (Cs AF hr)) ?_;generalize e6:upd (nx5+1+2) _ _=hp6;have j6:DH G hp nx q m oid over ord2 N s1 s2 s3 hp6 (nx5+1+4) N5:=j2.more (fun i hi=>by rw[<-e6,AR,AR]) (by omega) fun j hj=>by rw[<-e6,AR,AR];exact j2.new j (by omega)
 have b6:hp6 (nx5+1+2)=some (FU r):=by rw[<-e6,Ah]
 refine AW (ZT 1 ?_);refine Z1 b6 ?_;refine AW ?_;generalize e7:upd (nx5+1+4+1) _ _=hp7;have old7:∀i,i<nx5+1+4->hp7 i=hp6 i:=fun i hi=>by rw[<-e7,AR]
 have j7:DH G hp nx q m oid over ord2 N s1 s2 s3 hp7 (nx5+1+4+3) N5:=j6.more old7 (by omega) fun j hj=>by rw[<-e7,AR];exact j6.new j (by omega)
 have b7:hp7 (nx5+1+2)=some (FU r):=(old7 _ (by omega)).trans b6;have w7:hp7 (nx5+1+4+1)=CL [r] 0 false:=by rw[<-e7,Ah];rfl
 refine ZT 1 ?_;refine Z1 (Y6 j7.cb j7.box j7.nodes.map b7 (Kf e1) (j7.nodes.bx e1)) ?_;refine DR (by rfl) ?_;refine Z0 ?_;refine CN ?_;have wsep:nx5+1+4+1∉KD N5/\nx5+1+4+1≠oid:=⟨fun h=>by
  obtain⟨x,h1,h2,h3⟩:=Sv h
  have:=CR j6.new ((j6.nodes.row x h1 h2).trans (Gn h2));omega,fun h=>by
  have:=CR j6.new j6.row;omega⟩
 refine DS (α:={ x:RS // DH G hp nx q m oid over ord2 N s1 s2 s3 x.hp x.nx x.N/\x.hp (nx5+1+4+1)=CL x.es x.ver false/\nx5+1+4+1∉KD x.N/\x.n<=x.es.length/\x.n<=4294967296/\JI nw n.rank x.c (DW x.N) (x.es.take x.n).reverse=some Pm })
  (fun x=>⟨upd 1 (.pt nx 0) (upd 8 (.so (nx5+1+4+1) x.1.ver 0 x.1.n) (upd 9 (.v (.int .i64 n.rank)) (upd 66 (.so oid over 0 ord2.length) (upd 67 (.v (.int .i64 (ord2.length:Int))) (upd 68 (.v (.int .i64 (k:Int))) AQ))))),x.1.hp,x.1.nx⟩) (fun x=>x.1.c) ⟨⟨hp7,nx5+1+4+3+10,N5,0,0,0,[r],1,f⟩,j7.more (fun _ _=>rfl) (by show _<=nx5+1+4+3+10;omega) (fun j (hj:nx5+1+4+3+10<=j)=>j7.new j (by omega)),w7,wsep.1,Lc _,by show 1<=4294967296;omega,j4⟩ ?_ ?_
 ·exact CH
 rintro⟨x,k1,k2,k3,k4,k5,k6⟩;obtain⟨f2,hc⟩:∃f2,x.c=f2+1:=by
  cases e:x.c with |zero=>rw[e] at k6;cases k6 |succ f=>exact⟨f,rfl⟩
 rw[hc] at k6;refine ET ?_;rcases hn:x.n with _ |l
 ·have c2:(decide (((0:Nat):Int) > 0))=false:=rfl;refine HG hn ?_;rw[hn] at k6;have k6:DW x.N=Pm:=LI k6;refine ZT 1 ?_;refine Z1 (As (show k+1<4611686018427387904 by omega)) ?_;exact⟨⟨(k+1,x.hp,_,x.N),by show k+1<=ord2.length;omega,k1.more (fun _ _=>rfl) (by show x.nx<=x.nx+3+2;omega) (fun j (hj:x.nx+3+2<=j)=>k1.new j (by omega)),by rw[<-k6] at j9;exact j9⟩,CH,by show ord2.length-(k+1)<ord2.length-k;omega⟩
 have c2:(decide (((l+1:Nat):Int) > 0))=true:=Cb;have c3:(decide ((0:Int)<((l+1:Nat):Int)))=true:=Cb;refine ZT 1 ?_;refine Z1 (Y2 c2 c3) ?_;refine CN ?_;refine AW ?_;have hl:l<x.es.length:=by omega
 obtain⟨r2,hr2⟩:∃r2,x.es[l]? =some r2:=⟨_,Ld hl⟩;have h3:IntKind.i64.wrap (((l+1:Nat):Int)-1)=(l:Int):=HJ (by omega);have h4:(l<l+1)=True:=eq_true (LF l);have h5:=Cs AF hr2;have htk:(x.es.take (l+1)).reverse=r2::(x.es.take l).reverse:=by
  rw[Bn,hr2];simp
 rw[hn,htk] at k6;unfold JI at k6;obtain⟨pd,pe2,k6⟩:=AJ k6;rw[IZ] at pe2;obtain⟨nd,e2,rfl⟩:=La.1 pe2;refine ZT 1 ?_;refine Z1 (Y5 hn h3 h4 h5 k2) ?_;refine AW ?_;generalize e8:upd (x.nx+3+6) _ _=hp8;have old8:∀i,i<x.nx->hp8 i=x.hp i:=fun i hi=>by rw[<-e8,AR,AR]
 have j8:DH G hp nx q m oid over ord2 N s1 s2 s3 hp8 (x.nx+3+8) x.N:=k1.more old8 (by omega) fun j hj=>by rw[<-e8,AR,AR];exact k1.new j (by omega)
 have b8:hp8 (x.nx+3+6)=some (FU r2):=by rw[<-e8,Ah]
 have w8:hp8 (nx5+1+4+1)=CL x.es x.ver false:=(old8 _ (CR k1.new k2)).trans k2;have h7:(l<=l+1)=True:=eq_true (Bj l);refine ZT 1 ?_;refine Z1 (Y6 hn h3 h4 h7 (B7 l) w8) ?_;refine AW (ZT 1 ?_);refine Z1 (Y5 j8.cb j8.box j8.nodes.map b8 (Kf e2)) ?_;refine DR (by rfl) ?_;refine Z0 ?_;refine AW (AW ?_);refine ZT 1 ?_;have wb:=Y2 j8.cb (Y4 j8.box j8.nodes.map b8 (j8.nodes.bx e2));rcases hrk2:(nd.rank != n.rank) with _ |_;rotate_left
 ·rw[show(nd.toPN.rank != n.rank)=true from hrk2,if_pos rfl] at k6;refine Z1 (Y2 hrk2 wb) ?_;refine AN ?_;exact⟨⟨⟨hp8,_,x.N,0,0,x.ver,x.es,l,f2⟩,j8.more (fun _ _=>rfl) (by show x.nx+3+8<=x.nx+3+8+6+7+18;omega) (fun j (hj:x.nx+3+8+6+7+18<=j)=>j8.new j (by omega)),w8,k3,by show l<=x.es.length;omega,by show l<=4294967296;omega,k6⟩,CH,by show f2<x.c;omega⟩
 rw[show(nd.toPN.rank != n.rank)=false from hrk2,if_neg (by simp)] at k6;rcases his:nd.is with _ |_;rotate_left
 ·rw[show nd.toPN.is=true from his,if_pos rfl] at k6;rw[his] at wb;refine Z1 (Y2 hrk2 wb) ?_;refine AN ?_;exact⟨⟨⟨hp8,_,x.N,0,0,x.ver,x.es,l,f2⟩,j8.more (fun _ _=>rfl) (by show x.nx+3+8<=x.nx+3+8+6+7+18;omega) (fun j (hj:x.nx+3+8+6+7+18<=j)=>j8.new j (by omega)),w8,k3,by show l<=x.es.length;omega,by show l<=4294967296;omega,k6⟩,CH,by show f2<x.c;omega⟩
 rw[show nd.toPN.is=false from his,if_neg (by simp)] at k6;obtain⟨b,hb,k7⟩:=AJ k6;rw[his] at wb;refine Z1 (Y2 hrk2 wb) ?_;have l2:=hnw hp8 (x.nx+3+8+6+7+18) q m _ x.N r2 b (fun j hj=>j8.new j (by omega)) j8.box j8.nodes hb;refine CG (AK.mono l2 fun v hp9 nx9 hv=> ?_);obtain⟨rfl,hv2,l1⟩:=hv;have hv2:=hv2.symm;subst hv2;have l1:x.nx+3+8+6+7+18<=nx9:=l1;have k6:=k7;rcases b with _ |_
 ·rw[if_neg (by simp)] at k6;refine GI ?_;exact⟨⟨⟨hp8,_,x.N,0,0,x.ver,x.es,l,f2⟩,j8.more (fun _ _=>rfl) (by show x.nx+3+8<=nx9;omega) (fun j (hj:nx9<=j)=>j8.new j (by omega)),w8,k3,by show l<=x.es.length;omega,by show l<=4294967296;omega,k6⟩,CH,by show f2<x.c;omega⟩
 rw[if_pos rfl] at k6;split at k6;rotate_left
 ·cases k6
 rename_i hsm;refine GI ?_;refine AW (ZT 1 ?_);refine Z1 wb ?_;generalize e10:upd nd.id _ _=hp10;have bx8:=j8.nodes.bx e2;have nm:=(Ke e2).1;have k1':DH G hp nx q m oid over ord2 N s1 s2 s3 hp10 (nx9+4) (EC r2 { nd with is:=true } x.N):=by
  refine j8.set e2 rfl rfl (fun i q1 q2 q3=>by rw[<-e10,Ad _ _ q2]) (by rw[<-e10,Ah];rfl) (fun h=> ?_) (fun h=>.inl ⟨h,rfl⟩) (by omega) fun j hj=> ?_
  ·have hrow:=j8.nodes.row nd nm h;rw[<-e10];show upd nd.id _ hp8 nd.rid=CD 3 nd.ver false (nd.above.map AF);rw[Ad _ _ (Fu (hrow.trans (Gn h)) bx8 fun e=>by cases e)];exact hrow
  have:=CR j8.new bx8;rw[<-e10,AR];exact j8.new j (by omega)
 have w10:hp10 (nx5+1+4+1)=CL x.es x.ver false:=by
  rw[<-e10,Ad _ _ (Fu w8 bx8 fun e=>by cases e)];exact w8
 have r10:nx5+1+4+1∉KD (EC r2 { nd with is:=true } x.N):=fun h=>by
  obtain⟨y,h1,h2,h3⟩:=Sv h;rcases Sw h1 with⟨e1,_⟩ |⟨hy,_⟩
  ·rw[e1] at h2 h3;exact k3 (h3▸Q5 (n:=nd) nm h2)
  exact k3 (h3▸Q5 hy h2)
 have bx10:hp10 nd.id=some (.bx [.v (.int .i64 nd.rank),.d (.sl (nd.deps.map AF)) false,Aa nd.rid nd.ver (nd.above.map AF),.v (.bool true)]):=by rw[<-e10,Ah]
 obtain⟨o',eo,ho'⟩:∃o',Aa nd.rid nd.ver (nd.above.map AF)=Aa o' nd.ver (nd.above.map AF)/\hp10 o'=CD 3 nd.ver false (nd.above.map AF):=by
  rcases hN0:nd.above with _ |⟨n1,N1⟩
  ·exact⟨nx9+1000,rfl,k1'.new _ (by omega)⟩
  rw[<-hN0];have h0:nd.above≠[]:=by rw[hN0];exact fun h=>by cases h
  have hrow:=j8.nodes.row nd nm h0;refine⟨nd.rid,rfl,?_⟩;rw[<-e10,Ad _ _ (Fu (hrow.trans (Gn h0)) bx8 fun e=>by cases e)];exact hrow
 rw[eo] at bx10;have hck:ED 3 (nd.above.map AF)=true:=K4 (f:=AF) (fun _=>rfl) _;refine ZT 1 ?_;refine Z1 (And.intro bx10 (And.intro ho' (And.intro w10 (And.intro (show(l<=x.es.length)=True from FB) (And.intro hck (show(l+nd.above.length<=4294967296)=True from eq_true (by
  have:(x.es.take l).reverse.length+nd.above.length<=4294967296:=hsm;rw[Bh,Lw] at this;omega))))))) ?_
 have hlen:(x.es.take l).length=l:=by rw[Lw];omega
 have hnl:l+nd.above.length<=4294967296:=by
  have:(x.es.take l).reverse.length+nd.above.length<=4294967296:=hsm;rw[Bh,hlen] at this;exact this
 generalize e11:upd (nx5+1+4+1) _ hp10=hp11;have w11:hp11 (nx5+1+4+1)=CL (x.es.take l++nd.above) (x.ver+1) false:=by
  rw[<-e11,Ah,CL,Na,Be]
 have k11:DH G hp nx q m oid over ord2 N s1 s2 s3 hp11 (nx9+4) (EC r2 { nd with is:=true } x.N):=by
  rw[<-e11];exact k1'.updRow w10 r10 wsep.2 (by have:=j2.nxs;omega)
 have pu:DW (EC r2 { nd with is:=true } x.N)=Hm r2 (DW x.N):=bw (n:=nd) (g:=fun x=>{ x with is:=true }) rfl fun y hy e=>X0 j8.nodes.keys hy nm (e.trans (Ke e2).2.symm);refine⟨⟨⟨hp11,_,EC r2 { nd with is:=true } x.N,0,0,x.ver+1,x.es.take l++nd.above,l+nd.above.length,f2⟩,k11.more (fun _ _=>rfl) (by show nx9+4<=nx9+4+7;omega) (fun j (hj:nx9+4+7<=j)=>k11.new j (by omega)),w11,r10,?_,hnl,?_⟩,CH,by show f2<x.c;omega⟩
 ·show l+nd.above.length<=(x.es.take l++nd.above).length;rw[Lf,hlen];exact Lc _
 show JI nw n.rank f2 (DW (EC r2 _ x.N)) (List.take (l+nd.above.length) (x.es.take l++nd.above)).reverse=some Pm;rw[Ny (by rw[Lf,hlen];exact Lc _),O3,pu];exact k6
set_option maxRecDepth 4000 in
theorem Q9 {n c f:Nat}{G:AM}{o:Ao}{rel:ByteArray}{s:AL}{nw:List PN->AB->Option Bool}{N1 P1 P2:List PN}{ord2:List AB}{rk:AB->Int}{x:PN}
  (hnw:Hn G (.v (.string s.type_)) (.v (.string s.id_)) (.v (.string s.rel)) nw) (h1:Hk (Ir n G) c [] [⟨o,rel⟩]=some N1) (h2:E9 (N1.map (·.k)) N1=some P1) (hne:N1≠[]) (hL:N1.length<4611686018427387904)
  (hrk:∀n∈P1,rk n.k=n.rank) (hord:∀r∈N1.map (·.k),(Cp r P1).isSome=true) (h3:lG (fun a b=>GJ (rk a) (rk b)) (N1.map (·.k)) ord2) (hL2:ord2.length=N1.length) (h4:Kh nw f ord2 P1=some P2) (h5:Cp ⟨o,rel⟩ P2=some x):
  AI Tryz.prog 34 [D.pt (Aq G) 0,.ag (Du o),.v (.string rel),.ag (AZ s)] (.v (.bool x.is)) true:=by
 refine zP #[.tmp 8] Tryz.func34 ?_;refine D3 ?_;refine Az ?_;refine AW ?_;generalize e1:(upd 12 (some _) _:Hp)=hp1;have q1:hp1 7=some (HI G (.v (.string s.type_)) (.v (.string s.id_)) (.v (.string s.rel)) 5 0 0 []):=by rw[<-e1];rfl
 have m1:hp1 5=some (.mo [] false):=by rw[<-e1];rfl
 have b1:hp1 12=some (FU ⟨o,rel⟩):=by rw[<-e1];rfl
 have n1:∀j,14<=j->hp1 j=none:=fun j hj=>by
  rw[<-e1,AR,AR,AR,AR,AR,AR];rfl
 refine HG b1 ?_;have I1:C0 hp1 5 []:=⟨m1,(fun _ h=>by cases h),(fun _ h=>by cases h),NZ,NZ,(fun _ h=>by cases h)⟩;refine CG (AK.mono (uk (r0:=⟨o,rel⟩) (fun j (hj:14+3<=j)=>n1 j (by omega)) q1 (fun h=>absurd rfl h) I1 (fun _ h=>by cases h) h1 rfl) fun v hp2 nx2 h=> ?_);obtain⟨rfl,⟨N,oid,over,rfl,g1,g2,g3,g4,g5⟩,g6,g7,g8⟩:=h;have g8:14+3<=nx2:=g8;have hneN:N≠[]:=fun e=>hne (by rw[e];rfl);have b2:hp2 12=some (FU ⟨o,rel⟩):=(g6 12 (fun h=>by cases b1.symm.trans h) (by omega) (by omega) fun h=>absurd rfl h).trans b1;have ek:(DW N).map (·.k)=ordN N:=by simp[DW,ordN,NM]
 rw[ek] at h2 hord h3;refine Dj ?_;refine Z0 ?_;refine CG (AK.mono (ur hnw (fun j (hj:nx2+2<=j)=>g7 j (by omega)) g3 ((g4 hneN).trans (Gn (by simpa using hneN))) (by simpa using hneN) (by simpa using hL) g1 g2 h2 hrk hord h3 (by simpa using hL2) h4) fun v hp3 nx3 h=> ?_);obtain⟨rfl,N2,rfl,k1⟩:=h;have b3:hp3 12=some (FU ⟨o,rel⟩):=(k1.keep 12 (fun h=>by cases b2.symm.trans h) (fun n hn e=>Fu (g1.box n hn) b2 (fun e=>by cases e) e) (Fu b2 ((g4 hneN).trans (Gn (by simpa using hneN))) fun e=>by cases e)).trans b2;rw[IZ] at h5;obtain⟨n2,e2,rfl⟩:=La.1 h5;refine Dj ?_;refine Z1 (Y5 k1.box k1.nodes.map b3 (Kf e2) (k1.nodes.bx e2)) ?_;refine DR (by rfl) ?_;refine GI ?_;exact CC
def ut (N:List PN)(r:AB):Bool:=((Cp r N).map (·.is)).getD false
def PR (N:List PN)(r:AB):Int:=((Cp r N).map (·.rank)).getD 0
def KF (n:Nat)(G:AM)(s:AL)(N:List PN)(r:AB):Option Bool:=(Gm n G.schema r.obj.type_ r.rel).bind fun rel=>if rel.1.expr.isEmpty then(PO n G.index.left r.obj r.rel).bind fun subs=>(Qv n subs s).bind fun c=>(Cp r N).bind fun x=>if x.deps.all (fun d=>(Cp d N).isSome)&&decide (x.deps.length<4611686018427387904) then some (c||x.deps.any (ut N)) else none else none
theorem uv (n:Nat)(G:AM)(s:AL):Hn G (.v (.string s.type_)) (.v (.string s.id_)) (.v (.string s.rel)) (KF n G s):=by
 intro hp nx q m o N r b hf hq hN h;unfold KF at h;obtain⟨rel,h1,h⟩:=AJ h;split at h;rotate_left
 ·cases h
 rename_i he;obtain⟨subs,h2,h⟩:=AJ h;obtain⟨c,h3,h⟩:=AJ h;obtain⟨x,h4,h⟩:=AJ h;split at h;rotate_left
 ·cases h
 rename_i hd;rw[Li,LL] at hd;cases h;rw[IZ] at h4;obtain⟨nd,e1,rfl⟩:=La.1 h4;obtain⟨nx',n1,n2⟩:=Q4 hf hq hN.map (Kf e1) (hN.bx e1) h1 (Od.1 he) h2 h3 (hN.at_ fun d hd2=>by
  have:=hd.1 d hd2;rw[IZ] at this;simpa using this) (of_decide_eq_true hd.2)
 exact AK.mono n2 fun v hp2 nx2 h=>⟨h.1,h.2.1,by rw[h.2.2];exact n1⟩
theorem uw (d r:AB)(N:List PN):(PQ d r N).map (·.k)=N.map (·.k):=by
 unfold PQ;rw[N8];refine Ni fun n _=> ?_;simp only[Function.comp];split<;>rfl
theorem ux (d r:AB)(N:List PN):(PQ d r N).map (fun n=>(n.k,n.rank,n.deps))=N.map (fun n=>(n.k,n.rank,n.deps)):=by
 unfold PQ;rw[N8];refine Ni fun n _=> ?_;simp only[Function.comp];split<;>rfl
theorem lH {r:AB}:∀ {l:List AB} {N P:List PN},GL r l N=some P->P.map (fun n=>(n.k,n.rank,n.deps))=N.map (fun n=>(n.k,n.rank,n.deps))
 |[],N,P,h=>by cases h;rfl
 |d::l,N,P,h=>by
  unfold GL at h;obtain⟨n,_,h⟩:=AJ h;split at h
  ·rw[lH h,ux]
  cases h
theorem lI:∀ {l:List AB} {N P:List PN},E9 l N=some P->P.map (fun n=>(n.k,n.rank,n.deps))=N.map (fun n=>(n.k,n.rank,n.deps))
 |[],N,P,h=>by cases h;rfl
 |d::l,N,P,h=>by
  unfold E9 at h;obtain⟨n,_,h⟩:=AJ h;split at h
  ·obtain⟨M,h1,h⟩:=AJ h;rw[lI h,lH h1]
  cases h
theorem Iw {r:AB}:∀ {N:List PN} {n:PN},Cp r N=some n->n∈N/\n.k=r
 |[],_,h=>by cases h
 |x::l,n,h=>by
  unfold Cp at h;split at h
  ·rename_i e;cases h;exact⟨Lo ..,(eq_of_beq e).symm⟩
  obtain⟨h1,h2⟩:=Iw h;exact⟨Lh _ h1,h2⟩
theorem bz {r:AB}:∀ {N:List PN},Cp r N=none->∀n∈N,n.k≠r
 |[],_,_,hm=>by cases hm
 |x::l,h,n,hm=>by
  unfold Cp at h;split at h
  ·cases h
  rename_i e;rcases Lm.1 hm with rfl |hm
  ·exact fun e2=>e (by rw[e2];exact beq_self_eq_true _)
  exact bz h n hm
theorem JJ {r:AB}{N:List PN}(h:r∈N.map (·.k)):∃n,Cp r N=some n:=by
 cases e:Cp r N with
 |some n=>exact⟨n,rfl⟩
 |none=>
  obtain⟨n,h1,h2⟩:=LQ.1 h;exact absurd h2 (bz e n h1)
theorem uy {N:List PN}(hn:(N.map (·.k)).Nodup){n:PN}(h:n∈N):Cp n.k N=some n:=by
 induction N with
 |nil=>cases h
 |cons x l ih=>
  rw[Lk,Ng] at hn;show(if n.k==x.k then some x else Cp n.k l)=some n;rcases Lm.1 h with rfl |h
  ·rw[if_pos (beq_self_eq_true _)]
  rw[if_neg fun e=>hn.1 (by rw[<-eq_of_beq e];exact LH h)];exact ih hn.2 h
theorem cA {nd:AB->Option (Int × List AB)}:∀ {f:Nat} {N R:List PN} {w:List AB},Hk nd f N w=some R->(N.map (·.k)).Nodup->(R.map (·.k)).Nodup
 |0,_,_,_,h,_=>by cases h
 |_+1,N,R,[],h,hn=>by cases h;exact hn
 |f+1,N,R,r::w,h,hn=>by
  unfold Hk at h;split at h
  ·exact cA h hn
  rename_i he;obtain⟨p,_,h⟩:=AJ h;split at h
  ·refine cA h ?_;rw[Na];refine BI.2 ⟨hn,Ng.2 ⟨LT,NZ⟩,fun a ha b hb=> ?_⟩;obtain⟨n,h1,rfl⟩:=LQ.1 ha;rw[Ln.1 hb];exact bz (by simpa using he) n h1
  cases h
theorem RB {N P:List PN}(h:P.map (fun n=>(n.k,n.rank,n.deps))=N.map (fun n=>(n.k,n.rank,n.deps))):P.map (·.k)=N.map (·.k):=by
 have:=congrArg (List.map Prod.fst) h;simpa [NM] using this
end Go.Proofs.YtnmkbmefohakmaaGreat.Ab
