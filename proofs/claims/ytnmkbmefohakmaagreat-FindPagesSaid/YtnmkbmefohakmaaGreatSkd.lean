/-
 Whether a subject is in a relation of an object: what it comes to, for relations without words of their own and few nodes.
-/
import Derived.Test.YtnmkbmefohakmaaGreatSka
namespace Go.Proofs.YtnmkbmefohakmaaGreat.Ab
open Go.RowKit
abbrev boxO (G:SeekGraph)(s1 s2 s3:AV)(m oid over:Nat)(ord:List GRef):AO:=.bx [.d (.pt (eSeekGraph G) 0) true,s1,s2,s3,.mo m,accV oid over (ord.map eGRef)]
abbrev boxR (r:GRef):AO:=.bx [.v (.string r.obj.type_),.v (.string r.obj.id_),.v (.string r.rel)]
abbrev agR (r:GRef):AV:=.ag [.v (.string r.obj.type_),.v (.string r.obj.id_),.v (.string r.rel)]
def pM_ (cf:GRef->GRef->Int)(xs ys:List GRef):Prop:=
 ∀(g:FuncId) (caps:List AV) (S:GRef->Prop) (ids:List Nat) (hp0:Hp) (br:Bool) (i ver:Nat),CmpS Tryz.prog g caps (fun r:GRef=>.d (.ag (eGRef r)) br) S cf ids hp0->i∉ids->(∀x∈xs,S x)->∀(hp:Hp) (nx:Nat),(∀j∈ids,hp j=hp0 j)->hp i=rowA xs ver br->
  InlOK Tryz.prog 97 [.so i ver 0 xs.length,.fn g caps] hp nx fun v hp2 nx2=>v= .tu []/\hp2=upd i (rowA ys ver br) hp/\nx<=nx2
def NowOK (G:SeekGraph)(s1 s2 s3:AV)(nw:List PN->GRef->Option Bool):Prop:=
 ∀(hp:Hp) (nx q m:Nat) (o:AV) (N:List Nd) (r:GRef) (b:Bool),(∀j,nx<=j->hp j=none)->hp q=some (.bx [.d (.pt (eSeekGraph G) 0) true,s1,s2,s3,.mo m,o])->InvN hp m N->nw (pns N) r=some b->
  InlOK Tryz.prog 100 [.pt q 0,agR r] hp nx fun v hp2 nx2=>v= .v (.bool b)/\hp2=hp/\nx<=nx2
structure SInv (G:SeekGraph) (hp0:Hp) (nx0 q m oid over:Nat) (ord:List GRef) (N0:List Nd) (s1 s2 s3:AV) (hp:Hp) (nx:Nat) (N:List Nd):Prop where
 new:∀j,nx<=j->hp j=none
 box:hp q=some (boxO G s1 s2 s3 m oid over ord)
 cb:hp nx0=some (.bx [.pt q 0])
 row:hp oid=rowA ord over false
 nodes:InvN hp m N
 osep:oid∉uo_ N
 rnew:∀i∈uo_ N,nx0<=i
 ix:ixN N=ixN N0
 keep:∀i,hp0 i≠none->(∀n∈N0,n.id≠i)->i≠oid->hp i=hp0 i
 nxs:nx0<nx
 old:∀i,nx0<=i->hp0 i=none
theorem InvN.bx {hp:Hp}{m:Nat}{N:List Nd}{r:GRef}{n:Nd}(h:InvN hp m N)(hf:zw_ r N=some n):hp n.id=some (.bx [.v (.int .i64 n.rank),.d (.sl (n.deps.map eGRef)) false,accV n.rid n.ver (n.above.map eGRef),.v (.bool n.is)]):=h.box n (xf_ hf).1
theorem jB_ {hp:Hp}{i j:Nat}{x y:AO}(hi:hp i=some x)(hj:hp j=some y)(h:x=y->False):i≠j:=fun e=>by
 subst e;rw[hi] at hj;exact h (Option.some.inj hj)
theorem SInv.more {G:SeekGraph}{hp0 hp hp':Hp}{nx0 q m oid over nx nx':Nat}{ord:List GRef}{N0 N:List Nd}{s1 s2 s3:AV}(h:SInv G hp0 nx0 q m oid over ord N0 s1 s2 s3 hp nx N)(e:∀i,i<nx->hp' i=hp i)(hn:nx<=nx')(hnew:∀j,nx'<=j->hp' j=none):SInv G hp0 nx0 q m oid over ord N0 s1 s2 s3 hp' nx' N where
 new:=hnew
 box:=(e _ (qm_ h.new h.box)).trans h.box
 cb:=(e _ (qm_ h.new h.cb)).trans h.cb
 row:=(e _ (qm_ h.new h.row)).trans h.row
 nodes:=h.nodes.more (e _ (qm_ h.new h.nodes.map)) (fun n hn=>e _ (qm_ h.new (h.nodes.box n hn))) fun n hn ha=>e _ (qm_ h.new ((h.nodes.row n hn ha).trans (jc_ ha)))
 osep:=h.osep
 rnew:=h.rnew
 ix:=h.ix
 keep:=fun i h1 h2 h3=>by
  have h4:=h.keep i h1 h2 h3;rcases Nat.lt_or_ge i nx with h5 |h5
  ·exact(e i h5).trans h4
  ·rw[h.new i h5] at h4
   exact absurd h4.symm h1
 nxs:=Nat.lt_of_lt_of_le h.nxs hn
 old:=h.old
theorem SInv.set {G:SeekGraph}{hp0 hp hp':Hp}{nx0 q m oid over nx nx':Nat}{ord:List GRef}{N0 N:List Nd}{s1 s2 s3:AV}(h:SInv G hp0 nx0 q m oid over ord N0 s1 s2 s3 hp nx N){d:GRef}{n n':Nd}(hf:zw_ d N=some n)(hk:n'.k=n.k)(hi:n'.id=n.id)
  (e:∀i,i<nx->i≠n.id->(n.above≠[]->i≠n.rid)->hp' i=hp i) (eb:hp' n.id=some (boxN n')) (er:n'.above≠[]->hp' n'.rid=accO 3 n'.ver false (n'.above.map eGRef)) (el:n'.above≠[]->(n.above≠[]/\n'.rid=n.rid)\/nx<=n'.rid)
  (hn:nx<=nx') (hnew:∀j,nx'<=j->hp' j=none):SInv G hp0 nx0 q m oid over ord N0 s1 s2 s3 hp' nx' (updN d n' N):=by
 obtain⟨hm,hd⟩:=xf_ hf;have hb:=h.nodes.box n hm;have hr:=h.nodes.row n hm;have nr:∀(i:Nat) (x:AO),hp i=some x->(∀es sz v b f,x≠ .rw es sz v b f)->n.above≠[]->i≠n.rid:=fun i x h1 h2 h3=>jB_ h1 ((hr h3).trans (jc_ h3)) fun e=>h2 _ _ _ _ _ e;have hix:=fw_ (n':=n') hk hi (N:=N) fun x hx e=>yh_ h.nodes.keys hx hm (e.trans hd.symm)
 have erid:∀i∈uo_ (updN d n' N),(i∈uo_ N)\/nx<=i:=fun i hi=>by
  obtain⟨x,h1,h2,h3⟩:=va_ hi;rcases v4_ h1 with⟨e1,_⟩ |⟨hx,_⟩
  ·rw[e1] at h2 h3
   rcases el h2 with⟨h4,h5⟩ |h4
   ·exact .inl (h3▸h5▸zq_ hm h4)
   ·exact .inr (h3▸h4)
  ·exact .inl (h3▸zq_ hx h2)
 refine⟨hnew,?_,?_,?_,?_,fun ho=> ?_,fun i hi=> ?_,hix.trans h.ix,fun i h1 h2 h3=> ?_,Nat.lt_of_lt_of_le h.nxs hn,h.old⟩
 ·rw[e q (qm_ h.new h.box) (jB_ h.box hb fun e=>by cases e) (nr q _ h.box fun _ _ _ _ _ e=>by cases e),h.box]
 ·rw[e nx0 h.nxs (jB_ h.cb hb fun e=>by cases e) (nr nx0 _ h.cb fun _ _ _ _ _ e=>by cases e),h.cb]
 ·rw[e oid (qm_ h.new h.row) (jB_ h.row hb fun e=>by cases e) fun ha e=>h.osep (e▸zq_ hm ha),h.row]
 ·refine h.nodes.set hf hk hi (e m (qm_ h.new h.nodes.map) (jB_ h.nodes.map hb fun e=>by cases e) (nr m _ h.nodes.map fun _ _ _ _ _ e=>by cases e)) eb (fun x hx hne=>e x.id (qm_ h.new (h.nodes.box x hx)) (fun e=>hne ((congrArg (·.k) (cY_ h.nodes.ids hx hm e)).trans hd)) (nr x.id _ (h.nodes.box x hx) fun _ _ _ _ _ e=>by cases e)) er fun x hx hne ha=> ?_
  have hxr:=(h.nodes.row x hx ha).trans (jc_ ha);have lx:=qm_ h.new hxr;have hne2:n.above≠[]->x.rid≠n.rid:=fun ha2 e=>hne ((h.nodes.rids x hx n hm ha ha2 e).trans hd);refine⟨e x.rid lx (jB_ hxr hb fun e=>by cases e) hne2,fun ha2 e=> ?_⟩;rcases el ha2 with⟨h4,h5⟩ |h4
  ·exact hne2 h4 (e.symm.trans h5)
  ·omega
 ·rcases erid _ ho with h1 |h1
  ·exact h.osep h1
  ·have:=qm_ h.new h.row
   omega
 ·rcases erid _ hi with h1 |h1
  ·exact h.rnew _ h1
  ·have:=h.nxs
   omega
 ·have h4:=h.keep i h1 h2 h3
  have hi:i<nx:=by
   rcases Nat.lt_or_ge i nx with h5 |h5
   ·exact h5
   ·rw[h.new i h5] at h4
    exact absurd h4.symm h1
  rw[e i hi (fun e=>by
   have h5:n.id∈N0.map (·.id):=by
    rw[<-tk_ h.ix];exact List.mem_map_of_mem hm
   obtain⟨y,h6,h7⟩:=List.mem_map.1 h5;exact h2 y h6 (h7.trans e.symm)) fun ha e=> ?_,h4]
  have h5:=h.rnew _ (zq_ hm ha);rw[<-e] at h5;exact h1 (h.old i h5)
theorem SInv.updRow {G:SeekGraph}{hp0 hp:Hp}{nx0 q m oid over nx wid:Nat}{ord:List GRef}{N0 N:List Nd}{s1 s2 s3:AV}{o:Option AO}{es:List (List D)}{sz ver:Nat}{br fz:Bool}(h:SInv G hp0 nx0 q m oid over ord N0 s1 s2 s3 hp nx N)(hw:hp wid=some (.rw es sz ver br fz))(h1:wid∉uo_ N)(h2:wid≠oid)(h3:nx0<=wid):SInv G hp0 nx0 q m oid over ord N0 s1 s2 s3 (upd wid o hp) nx N where
 new:=fun j hj=>by
  have:=qm_ h.new hw
  rw[qb_ _ _ (by omega)];exact h.new j hj
 box:=(qb_ _ _ (jB_ h.box hw fun e=>by cases e)).trans h.box
 cb:=(qb_ _ _ (jB_ h.cb hw fun e=>by cases e)).trans h.cb
 row:=(qb_ _ _ (Ne.symm h2)).trans h.row
 nodes:=h.nodes.upd_row (.inr ⟨_,_,_,_,_,hw⟩) h1
 osep:=h.osep
 rnew:=h.rnew
 ix:=h.ix
 keep:=fun i e1 e2 e3=>by
  have:=h.keep i e1 e2 e3
  rw[qb_ _ _ fun e=>by
   subst e;exact e1 (h.old _ h3)]
  exact this
 nxs:=h.nxs
 old:=h.old
def nw3 (a b c i:Nat):Nat:=if i=a then 1 else if i=b then 2 else if i=c then 3 else 0
theorem nw3_no {a b c i:Nat}(h1:i≠a)(h2:i≠b)(h3:i≠c):nw3 a b c i=0:=by unfold nw3;rw[if_neg h1,if_neg h2,if_neg h3]
set_option maxRecDepth 4000 in
theorem sC_ {hp:Hp}{nx q m oid over f:Nat}{G:SeekGraph}{s1 s2 s3:AV}{N:List Nd}{nw:List PN->GRef->Option Bool}{ord ord2:List GRef}{P1 P2:List PN}{rk:GRef->Int}(hnw:NowOK G s1 s2 s3 nw)(hf:∀j,nx<=j->hp j=none)
  (hq:hp q=some (boxO G s1 s2 s3 m oid over ord)) (ho:hp oid=rowA ord over false) (hne:ord≠[]) (hL:ord.length<4611686018427387904) (hN:InvN hp m N) (ha:∀n∈N,n.above= []) (h1:aboM ord (pns N)=some P1) (hrk:∀n∈P1,rk n.k=n.rank) (hord:∀r∈ord,(jd_ r P1).isSome=true) (h2:pM_ (fun a b=>cmpI (rk a) (rk b)) ord ord2) (hL2:ord2.length=ord.length) (h3:dC_ nw f ord2 P1=some P2):
  InlOK Tryz.prog 67 [.pt q 0] hp nx fun v hp2 nx2=>v= .tu []/\∃N2,pns N2=P2/\SInv G hp nx q m oid over ord2 N s1 s2 s3 hp2 nx2 N2:=by
 refine qX_ qf_ Tryz.func67 (by rfl) (by kernel_rfl) (by kernel_rfl) (by exact Nat.le_of_ble_eq_true rfl) ?_;have w:=And.intro (jQ_ hf hq) (And.intro hq (YV (f:=eGRef) (List.length_pos_iff.2 hne)));refine zsq (ZT 1 ?_);refine Z1 w ?_;refine zsq (zsq ?_);refine ZT 1 ?_;refine Z1 w ?_;refine zbk ?_
 have hp1e:∀i,i<nx->upd nx (some (.bx [.pt q 0])) hp i=hp i:=fun i hi=>qb_ _ _ (by omega);have S0:SInv G hp nx q m oid over ord N s1 s2 s3 (upd nx (some (.bx [.pt q 0])) hp) (nx+1+6) N:=
  {
   new:=fun j hj=>by rw[qb_ _ _ (by omega)];exact hf j (by omega)
   box:=(hp1e _ (qm_ hf hq)).trans hq
   cb:=qd_ ..
   row:=(hp1e _ (qm_ hf ho)).trans ho
   nodes:=hN.upd_new (hf nx (Nat.le_refl _))
   osep:=fun h=>by
    obtain⟨n,h1,h2,_⟩:=va_ h;exact h2 (ha n h1)
   rnew:=fun i h=>by
    obtain⟨n,h1,h2,_⟩:=va_ h;exact absurd (ha n h1) h2
   ix:=rfl
   keep:=fun i h _ _=>hp1e i (by
    rcases Nat.lt_or_ge i nx with h1 |h1
    ·exact h1
    ·exact absurd (hf i h1) h)
   nxs:=by omega
   old:=hf }
 refine zlp (α:={ x:Nat × Hp × Nat × List Nd // x.1<=ord.length/\SInv G hp nx q m oid over ord N s1 s2 s3 x.2.1 x.2.2.1 x.2.2.2/\aboM (ord.drop x.1) (pns x.2.2.2)=some P1 })
  (fun x=>⟨upd 1 (.pt nx 0) (upd 15 (.so oid over 0 ord.length) (upd 16 (.v (.int .i64 (ord.length:Int))) (upd 17 (.v (.int .i64 (x.1.1:Int))) noFr))),x.1.2.1,x.1.2.2.1⟩) (fun x=>ord.length-x.1.1) ⟨(0,upd nx (some (.bx [.pt q 0])) hp,nx+1+6,N),Nat.zero_le _,S0,h1⟩ ?_ ?_
 ·exact wkI (qa_ rfl (qa_ rfl (qa_ rfl (qa_ rfl (qh_ _)))))
 ·rintro⟨⟨k,hp2,nx2,N2⟩,g1,g2,g3⟩
  dsimp only at g1 g2 g3;refine zsq (ZT 1 ?_);by_cases hk:k<ord.length
  ·have c1:(decide ((k:Int)<(ord.length:Int)))=true:=decide_eq_true (by omega)
   refine Z1 c1 ?_;refine zsq (ZT 1 ?_);refine Z0 ?_;refine zsq (zbk ?_);refine zsq ?_;obtain⟨r,hr⟩:∃r,ord[k]? =some r:=⟨_,List.getElem?_eq_getElem hk⟩;rw[List.drop_eq_getElem_cons hk,show ord[k]=r from(List.getElem?_eq_some_iff.1 hr).2] at g3;unfold aboM at g3;obtain⟨pn,pe,g3⟩:=zbi g3;split at g3;rotate_left
   ·cases g3
   rename_i hdl;obtain⟨Pm,g4,g3⟩:=zbi g3;rw[jF_] at pe;obtain⟨n,e1,rfl⟩:=Option.map_eq_some_iff.1 pe;have hk2:(k<ord.length)=True:=eq_true hk;refine ZT 1 ?_;refine Z1 (And.intro hk2 (And.intro g2.row (qn_ eGRef hr))) ?_;refine zsq ?_;generalize e3:upd (nx2+1+2) _ _=hp3
   have g5:SInv G hp nx q m oid over ord N s1 s2 s3 hp3 (nx2+1+4) N2:=g2.more (fun i hi=>by rw[<-e3,qb_ _ _ (by omega),qb_ _ _ (by omega)]) (by omega) fun j hj=>by rw[<-e3,qb_ _ _ (by omega),qb_ _ _ (by omega)];exact g2.new j (by omega)
   have b3:hp3 (nx2+1+2)=some (boxR r):=by rw[<-e3,qd_]
   refine ZT 1 ?_;refine Z1 (And.intro g5.cb (And.intro g5.box (And.intro g5.nodes.map (And.intro b3 (And.intro (xP_ e1) (g5.nodes.bx e1)))))) ?_;refine qj_ (by rfl) ?_;refine Z0 ?_;refine zbk ?_
   refine zlp (α:={ x:Nat × Hp × Nat × List Nd // x.1<=n.deps.length/\SInv G hp nx q m oid over ord N s1 s2 s3 x.2.1 x.2.2.1 x.2.2.2/\x.2.1 (nx2+1+2)=some (boxR r)/\aboD r (n.deps.drop x.1) (pns x.2.2.2)=some Pm })
    (fun x=>⟨upd 1 (.pt nx 0) (upd 3 (.pt (nx2+1+2) 0) (upd 29 (.d (.sl (n.deps.map eGRef)) false) (upd 30 (.v (.int .i64 (n.deps.length:Int))) (upd 31 (.v (.int .i64 (x.1.1:Int))) (upd 15 (.so oid over 0 ord.length) (upd 16 (.v (.int .i64 (ord.length:Int))) (upd 17 (.v (.int .i64 (k:Int))) noFr))))))),x.1.2.1,x.1.2.2.1⟩) (fun x=>n.deps.length-x.1.1) ⟨(0,hp3,nx2+1+4+11,N2),Nat.zero_le _,g5.more (fun _ _=>rfl) (by show _<=nx2+1+4+11;omega) fun j (hj:nx2+1+4+11<=j)=>g5.new j (by omega),b3,g4⟩ ?_ ?_
   ·exact wkI (qa_ rfl (qa_ rfl (qa_ rfl (qa_ rfl (qa_ rfl (qa_ rfl (qa_ rfl (qa_ rfl (qh_ _)))))))))
   ·rintro⟨⟨j,hp4,nx4,N4⟩,i1,i2,i3,i4⟩
    dsimp only at i1 i2 i3 i4;refine zsq (ZT 1 ?_);by_cases hj:j<n.deps.length
    ·have c2:(decide ((j:Int)<(n.deps.length:Int)))=true:=decide_eq_true (by omega)
     refine Z1 c2 ?_;refine zsq (ZT 1 ?_);refine Z0 ?_;refine zsq (zbk ?_);refine zsq ?_;obtain⟨d,hd⟩:∃d,n.deps[j]? =some d:=⟨_,List.getElem?_eq_getElem hj⟩;rw[List.drop_eq_getElem_cons hj,show n.deps[j]=d from(List.getElem?_eq_some_iff.1 hd).2] at i4;unfold aboD at i4;obtain⟨dn,pd,i4⟩:=zbi i4;split at i4;rotate_left
     ·cases i4
     rename_i hsm;rw[jF_] at pd;obtain⟨n4,d1,rfl⟩:=Option.map_eq_some_iff.1 pd;refine ZT 1 ?_;refine Z1 (qn_ eGRef hd) ?_;generalize e5:upd (nx4+1+2) _ _=hp5;have old5:∀i,i<nx4->hp5 i=hp4 i:=fun i hi=>by rw[<-e5,qb_ _ _ (by omega),qb_ _ _ (by omega)]
     have i5:SInv G hp nx q m oid over ord N s1 s2 s3 hp5 (nx4+1+4) N4:=i2.more old5 (by omega) fun j hj=>by rw[<-e5,qb_ _ _ (by omega),qb_ _ _ (by omega)];exact i2.new j (by omega)
     have b5:hp5 (nx4+1+2)=some (boxR d):=by rw[<-e5,qd_]
     have b35:hp5 (nx2+1+2)=some (boxR r):=(old5 _ (qm_ i2.new i3)).trans i3;have dm:=(xf_ d1).1;obtain⟨o',eo,ho',hoB,hoO⟩:∃o',accV n4.rid n4.ver (n4.above.map eGRef)=accV o' n4.ver (n4.above.map eGRef)/\hp5 o'=accO 3 n4.ver false (n4.above.map eGRef)/\(∀j,j<100->o'≠nx4+1+4+j)/\(n4.above≠[]->o'=n4.rid):=by
      rcases hN0:n4.above with _ |⟨n1,N1⟩
      ·exact⟨nx4+1+4+1000,rfl,i5.new _ (by omega),fun j hj=>by omega,fun h=>absurd rfl h⟩
      ·rw[<-hN0]
       have h0:n4.above≠[]:=by rw[hN0];exact fun h=>by cases h
       have hrow:=i5.nodes.row n4 dm h0
       have:=qm_ i5.new (hrow.trans (jc_ h0))
       exact⟨n4.rid,rfl,hrow,fun j hj=>by omega,fun _=>rfl⟩
     obtain⟨A,eA⟩:∃A,A=accI (nx4+1+4+17) o' (n4.above.map eGRef):=⟨_,rfl⟩;have hA:∀(i:Nat) (y:AO),hp5 i=some y->(∀es sz v b f,y≠ .rw es sz v b f)->i≠A:=fun i y hi hy e=>by
      rw[e,eA] at hi;cases hL:n4.above.map eGRef with
      |nil=>
       rw[hL] at hi
       have:=i5.new (nx4+1+4+17) (by omega)
       rw[show hp5 (nx4+1+4+17)=some y from hi] at this;cases this
      |cons c0 l0=>
       rw[hL] at hi ho';rw[show hp5 o'=some y from hi] at ho';cases ho';exact hy _ _ _ _ _ rfl
     have box4:=i5.nodes.bx d1;rw[eo] at box4;have hiA:=hA _ _ box4 fun _ _ _ _ _ e=>by cases e
     have hsA:nx4+1+4+16≠A:=by
      rw[eA];cases hL:n4.above.map eGRef with
      |nil=>show nx4+1+4+16≠nx4+1+4+17;omega
      |cons _ _=>exact(hoB 16 (by omega)).symm
     have nX:∀ {i:Nat} {o:AO},hp5 i=some o->(i=nx4+1+4+16)=False:=fun h=>eq_false (by have:=qm_ i5.new h;omega)
     have w7:=And.intro i5.cb <|And.intro i5.box <|And.intro i5.nodes.map <|And.intro b5 <|And.intro b35 <|And.intro (xP_ d1)<|And.intro box4 <|And.intro ho' <|And.intro (show(o'=nx4+1+4+16)=False from eq_false (hoB 16 (by omega)))<|And.intro (nX i5.cb)<|And.intro (nX i5.box)<|And.intro (nX i5.nodes.map)<|And.intro (nX b5)<|And.intro (nX b35)<|And.intro (nX box4)<|
      And.intro (show(n4.id=accI (nx4+1+4+17) o' (n4.above.map eGRef))=False from eq_false (eA▸hiA)) (show(n4.above.length+1<=4294967296)=True from eq_true (by have:n4.above.length<4294967296:=hsm;omega))
     refine ZT 1 ?_;refine Z1 w7 ?_;rw[<-eA];have v1:nw3 n4.id A (nx4+1+4+16) n4.id=1:=by simp[nw3]
     have v2:nw3 n4.id A (nx4+1+4+16) A=2:=by simp[nw3,Ne.symm hiA]
     have v3:nw3 n4.id A (nx4+1+4+16) (nx4+1+4+16)=3:=by unfold nw3;rw[if_neg (fun e=>(nX box4).mp e.symm),if_neg hsA,if_pos rfl]
     have vo:∀(i:Nat) (y:AO),hp5 i=some y->(∀es sz v b f,y≠ .rw es sz v b f)->y≠ .bx [.v (.int .i64 n4.rank),.d (.sl (n4.deps.map eGRef)) false,accV o' n4.ver (n4.above.map eGRef),.v (.bool n4.is)]->nw3 n4.id A (nx4+1+4+16) i=0:=fun i y h1 h2 h3=>nw3_no (jB_ h1 box4 h3) (hA i y h1 h2) fun e=>(nX h1).mp e
     have v4:=vo _ _ i5.cb (fun _ _ _ _ _ e=>by cases e) fun e=>by cases e
     have v5:=vo _ _ i5.box (fun _ _ _ _ _ e=>by cases e) fun e=>by cases e
     have v6:=vo _ _ i5.nodes.map (fun _ _ _ _ _ e=>by cases e) fun e=>by cases e
     have v7:=vo _ _ b5 (fun _ _ _ _ _ e=>by cases e) fun e=>by cases e
     have v8:=vo _ _ b35 (fun _ _ _ _ _ e=>by cases e) fun e=>by cases e
     refine x2_ (nw3 n4.id A (nx4+1+4+16)) _ rfl (by simp only[List.reverse_cons,List.reverse_nil,List.nil_append,List.cons_append,List.map_cons,List.map_nil,vL_,v1,v2,v3,v4,v5,v6,v7,v8];rfl) (by rfl) ?_;refine Z0 ?_;generalize e6:upd n4.id _ _=hp6;refine ZT 1 ?_;have hdl2:n.deps.length<=4294967296:=hdl
     refine Z1 (w64a (show j+1<4611686018427387904 by omega)) ?_;have hAlt:A<nx4+1+4+21/\((n4.above≠[]/\A=n4.rid)\/nx4+1+4<=A):=by
      rw[eA];rcases hN0:n4.above with _ |⟨n1,N1⟩
      ·exact⟨by show nx4+1+4+17<_;omega,.inr (by show _<=nx4+1+4+17;omega)⟩
      ·have h0:n4.above≠[]:=by rw[hN0];exact fun h=>by cases h
       have:=qm_ i5.new ((i5.nodes.row n4 dm h0).trans (jc_ h0))
       refine⟨?_,.inl ⟨fun h=>(by cases h),hoO h0⟩⟩;show o'<_;rw[hoO h0];omega
     have j5:SInv G hp nx q m oid over ord N s1 s2 s3 hp6 (nx4+1+4+21+2) (updN d { n4 with above:=n4.above++[r],rid:=A,ver:=accN n4.ver (n4.above.map eGRef) } N4):=by
      refine i5.set d1 rfl rfl (fun i l1 l2 l3=> ?_) ?_ (fun _=> ?_) (fun _=>hAlt.2) (by omega) fun j hj=> ?_
      ·have hiA:i≠A:=fun e=>by
        rcases hAlt.2 with⟨h1,h2⟩ |h1
        ·exact l3 h1 (e.trans h2)
        ·omega
       rw[<-e6,qb_ _ _ l2,qb_ _ _ hiA,qb_ _ _ (by omega)]
      ·rw[<-e6,qd_]
       unfold boxN;rw[xh_ (by simp)];simp
      ·show hp6 A=accO 3 (accN n4.ver (n4.above.map eGRef)) false ((n4.above++[r]).map eGRef)
       rw[<-e6,qb_ _ _ (Ne.symm hiA),qd_,wU_ (by simp)];simp
      ·have:=qm_ i5.new box4
       have:=hAlt.1
       rw[<-e6,qb_ _ _ (by omega),qb_ _ _ (by omega),qb_ _ _ (by omega)];exact i5.new j (by omega)
     have j3:hp6 (nx2+1+2)=some (boxR r):=by
      rw[<-e6,qb_ _ _ (jB_ b35 box4 fun e=>by cases e),qb_ _ _ (hA _ _ b35 fun _ _ _ _ _ e=>by cases e),qb_ _ _ fun e=>(nX b35).mp e];exact b35
     refine⟨⟨(j+1,hp6,_,_),by show j+1<=n.deps.length;omega,j5,j3,?_⟩,wkI (qa_ rfl (qa_ rfl (qa_ rfl (qa_ rfl (qa_ rfl (qa_ rfl (qa_ rfl (qa_ rfl (qh_ _))))))))),by show n.deps.length-(j+1)<n.deps.length-j;omega⟩
     have pu:pns (updN d { n4 with above:=n4.above++[r],rid:=A,ver:=accN n4.ver (n4.above.map eGRef) } N4)=dB_ d r (pns N4):=fx_ (n:=n4) (g:=fun x=>{ x with above:=x.above++[r] }) rfl fun x hx e=>yh_ i5.nodes.keys hx dm (e.trans (xf_ d1).2.symm);exact(congrArg (aboD r (n.deps.drop (j+1))) pu).trans i4
    ·have c2:(decide ((j:Int)<(n.deps.length:Int)))=false:=decide_eq_false (by omega)
     refine Z1 c2 ?_;refine ZT 1 ?_;refine Z0 ?_;refine ZT 1 ?_;refine Z1 (w64a (show k+1<4611686018427387904 by omega)) ?_;rw[List.drop_eq_nil_of_le (by omega)] at i4;cases i4
     exact⟨⟨(k+1,hp4,_,N4),by show k+1<=ord.length;omega,i2.more (fun _ _=>rfl) (by show nx4<=nx4+1+2;omega) (fun j (hj:nx4+1+2<=j)=>i2.new j (by omega)),g3⟩,wkI (qa_ rfl (qa_ rfl (qa_ rfl (qa_ rfl (qh_ _))))),by show ord.length-(k+1)<ord.length-k;omega⟩
  ·have c1:(decide ((k:Int)<(ord.length:Int)))=false:=decide_eq_false (by omega)
   refine Z1 c1 ?_;refine ZT 1 ?_;refine Z0 ?_;rw[List.drop_eq_nil_of_le (by omega)] at g3;have g3:pns N2=P1:=Option.some.inj g3;refine zsq (ZT 1 ?_);refine Z1 (And.intro g2.cb (And.intro g2.box (YV (f:=eGRef) (List.length_pos_iff.2 hne)))) ?_
   have hmem:∀r∈ord,∃id x1 x2 x3,NodeAt (mapN N2) r id/\hp2 id=some (.bx [.v (.int .i64 (rk r)),x1,x2,x3])/\id∈N2.map (·.id):=fun r hr=>by
    obtain⟨pn,hpn⟩:=Option.isSome_iff_exists.1 (hord r hr);rw[<-g3,jF_] at hpn;obtain⟨n2,e1,rfl⟩:=Option.map_eq_some_iff.1 hpn;obtain⟨e2,e3⟩:=xf_ e1;have e4:=hrk n2.toPN (g3▸List.mem_map_of_mem e2);have e5:=g2.nodes.bx e1;rw[show n2.rank=rk r from e3▸e4.symm] at e5;exact⟨n2.id,_,_,_,xP_ e1,e5,List.mem_map_of_mem e2⟩
   have hoid:oid∉nx::q::m::N2.map (·.id):=fun h=>by
    rcases List.mem_cons.1 h with h |h
    ·exact jB_ g2.row g2.cb (fun e=>by cases e) h
    rcases List.mem_cons.1 h with h |h
    ·exact jB_ g2.row g2.box (fun e=>by cases e) h
    rcases List.mem_cons.1 h with h |h
    ·exact jB_ g2.row g2.nodes.map (fun e=>by cases e) h
    obtain⟨n2,e1,e2⟩:=List.mem_map.1 h;exact jB_ g2.row (g2.nodes.box n2 e1) (fun e=>by cases e) e2.symm
   refine qe_ (InlOK.mono (h2 98 [.pt nx 0] _ _ hp2 false oid over (cX_ (rk:=rk) (ids:=N2.map (·.id)) g2.cb g2.box g2.nodes.map) hoid hmem hp2 _ (fun _ _=>rfl) g2.row) fun v hp4 nx4 h=> ?_)
   obtain⟨rfl,rfl,h⟩:=h;have h:nx2+1+6<=nx4:=h;have hne2:ord2≠[]:=fun e=>hne (List.length_eq_zero_iff.1 (by rw[<-hL2,e];rfl));have i4:SInv G hp nx q m oid over ord2 N s1 s2 s3 (upd oid (rowA ord2 over false) hp2) nx4 N2:=
    {
     new:=fun j hj=>by
      have:=qm_ g2.new g2.row
      rw[qb_ _ _ (by omega)];exact g2.new j (by omega)
     box:=by
      rw[qb_ _ _ (jB_ g2.box g2.row fun e=>by cases e),g2.box];unfold boxO;rw[xh_ (List.length_pos_iff.2 hne),xh_ (List.length_pos_iff.2 hne2),hL2]
     cb:=(qb_ _ _ (jB_ g2.cb g2.row fun e=>by cases e)).trans g2.cb
     row:=qd_ ..
     nodes:=g2.nodes.upd_row (.inr ⟨_,_,_,_,_,g2.row⟩) g2.osep
     osep:=g2.osep
     rnew:=g2.rnew
     ix:=g2.ix
     keep:=fun i e1 e2 e3=>(qb_ _ _ e3).trans (g2.keep i e1 e2 e3)
     nxs:=by have:=g2.nxs;omega
     old:=g2.old }
   rw[<-g3] at h3;generalize e4:upd oid (rowA ord2 over false) hp2=hp4 at i4⊢;refine Z0 ?_;refine zsq (ZT 1 ?_);refine Z1 (And.intro i4.cb (And.intro i4.box (YV (f:=eGRef) (List.length_pos_iff.2 hne2)))) ?_;refine zbk ?_
   refine zlp (α:={ x:Nat × Hp × Nat × List Nd // x.1<=ord2.length/\SInv G hp nx q m oid over ord2 N s1 s2 s3 x.2.1 x.2.2.1 x.2.2.2/\dC_ nw f (ord2.drop x.1) (pns x.2.2.2)=some P2 })
    (fun x=>⟨upd 1 (.pt nx 0) (upd 66 (.so oid over 0 ord2.length) (upd 67 (.v (.int .i64 (ord2.length:Int))) (upd 68 (.v (.int .i64 (x.1.1:Int))) noFr))),x.1.2.1,x.1.2.2.1⟩) (fun x=>ord2.length-x.1.1) ⟨(0,hp4,nx4+6,N2),Nat.zero_le _,i4.more (fun _ _=>rfl) (by show nx4<=nx4+6;omega) (fun j (hj:nx4+6<=j)=>i4.new j (by omega)),h3⟩ ?_ ?_
   ·exact wkI (qa_ rfl (qa_ rfl (qa_ rfl (qa_ rfl (qh_ _)))))
   ·rintro⟨⟨k,hp5,nx5,N5⟩,j1,j2,j3⟩
    dsimp only at j1 j2 j3;refine zsq (ZT 1 ?_);by_cases hk5:k<ord2.length
    ·have c1:(decide ((k:Int)<(ord2.length:Int)))=true:=decide_eq_true (by omega)
     refine Z1 c1 ?_;refine zsq (ZT 1 ?_);refine Z0 ?_;refine zsq (zbk ?_);refine zsq ?_;obtain⟨r,hr⟩:∃r,ord2[k]? =some r:=⟨_,List.getElem?_eq_getElem hk5⟩;rw[List.drop_eq_getElem_cons hk5,show ord2[k]=r from(List.getElem?_eq_some_iff.1 hr).2] at j3;unfold dC_ at j3;obtain⟨pn,pe,j3⟩:=zbi j3;obtain⟨Pm,j4,j9⟩:=zbi j3;rw[jF_] at pe
     obtain⟨n,e1,rfl⟩:=Option.map_eq_some_iff.1 pe;refine ZT 1 ?_;refine Z1 (And.intro (show(k<ord2.length)=True from eq_true hk5) (And.intro j2.row (qn_ eGRef hr))) ?_;generalize e6:upd (nx5+1+2) _ _=hp6
     have j6:SInv G hp nx q m oid over ord2 N s1 s2 s3 hp6 (nx5+1+4) N5:=j2.more (fun i hi=>by rw[<-e6,qb_ _ _ (by omega),qb_ _ _ (by omega)]) (by omega) fun j hj=>by rw[<-e6,qb_ _ _ (by omega),qb_ _ _ (by omega)];exact j2.new j (by omega)
     have b6:hp6 (nx5+1+2)=some (boxR r):=by rw[<-e6,qd_]
     refine zsq (ZT 1 ?_);refine Z1 b6 ?_;refine zsq ?_;generalize e7:upd (nx5+1+4+1) _ _=hp7;have old7:∀i,i<nx5+1+4->hp7 i=hp6 i:=fun i hi=>by rw[<-e7,qb_ _ _ (by omega)]
     have j7:SInv G hp nx q m oid over ord2 N s1 s2 s3 hp7 (nx5+1+4+3) N5:=j6.more old7 (by omega) fun j hj=>by rw[<-e7,qb_ _ _ (by omega)];exact j6.new j (by omega)
     have b7:hp7 (nx5+1+2)=some (boxR r):=(old7 _ (by omega)).trans b6;have w7:hp7 (nx5+1+4+1)=rowA [r] 0 false:=by rw[<-e7,qd_];rfl
     refine ZT 1 ?_;refine Z1 (And.intro j7.cb (And.intro j7.box (And.intro j7.nodes.map (And.intro b7 (And.intro (xP_ e1) (j7.nodes.bx e1)))))) ?_;refine qj_ (by rfl) ?_;refine Z0 ?_;refine zbk ?_;have wsep:nx5+1+4+1∉uo_ N5/\nx5+1+4+1≠oid:=⟨fun h=>by
      obtain⟨x,h1,h2,h3⟩:=va_ h
      have:=qm_ j6.new ((j6.nodes.row x h1 h2).trans (jc_ h2))
      omega,fun h=>by
      have:=qm_ j6.new j6.row
      omega⟩
     refine zlp (α:={ x:RS // SInv G hp nx q m oid over ord2 N s1 s2 s3 x.hp x.nx x.N/\x.hp (nx5+1+4+1)=rowA x.es x.ver false/\nx5+1+4+1∉uo_ x.N/\x.n<=x.es.length/\x.n<=4294967296/\uU_ nw n.rank x.c (pns x.N) (x.es.take x.n).reverse=some Pm })
      (fun x=>⟨upd 1 (.pt nx 0) (upd 8 (.so (nx5+1+4+1) x.1.ver 0 x.1.n) (upd 9 (.v (.int .i64 n.rank)) (upd 66 (.so oid over 0 ord2.length) (upd 67 (.v (.int .i64 (ord2.length:Int))) (upd 68 (.v (.int .i64 (k:Int))) noFr))))),x.1.hp,x.1.nx⟩) (fun x=>x.1.c) ⟨⟨hp7,nx5+1+4+3+10,N5,0,0,0,[r],1,f⟩,j7.more (fun _ _=>rfl) (by show _<=nx5+1+4+3+10;omega) (fun j (hj:nx5+1+4+3+10<=j)=>j7.new j (by omega)),w7,wsep.1,Nat.le_refl _,by show 1<=4294967296;omega,j4⟩ ?_ ?_
     ·exact wkI (qa_ rfl (qa_ rfl (qa_ rfl (qa_ rfl (qa_ rfl (qa_ rfl (qh_ _)))))))
     ·rintro⟨x,k1,k2,k3,k4,k5,k6⟩
      obtain⟨f2,hc⟩:∃f2,x.c=f2+1:=by
       cases e:x.c with
       |zero=>rw[e] at k6;cases k6
       |succ f=>exact⟨f,rfl⟩
      rw[hc] at k6;refine zsq (zsq ?_);refine ZT 1 ?_;refine Z0 ?_;rcases hn:x.n with _ |l
      ·have c2:(decide (((0:Nat):Int) > 0))=false:=rfl
       refine ZT 1 ?_;refine Z1 hn ?_;rw[hn] at k6;have k6:pns x.N=Pm:=Option.some.inj k6;refine ZT 1 ?_;refine Z1 (w64a (show k+1<4611686018427387904 by omega)) ?_
       exact⟨⟨(k+1,x.hp,_,x.N),by show k+1<=ord2.length;omega,k1.more (fun _ _=>rfl) (by show x.nx<=x.nx+3+2;omega) (fun j (hj:x.nx+3+2<=j)=>k1.new j (by omega)),by rw[<-k6] at j9;exact j9⟩,wkI (qa_ rfl (qa_ rfl (qa_ rfl (qa_ rfl (qh_ _))))),by show ord2.length-(k+1)<ord2.length-k;omega⟩
      ·have c2:(decide (((l+1:Nat):Int) > 0))=true:=decide_eq_true (by omega)
       have c3:(decide ((0:Int)<((l+1:Nat):Int)))=true:=decide_eq_true (by omega);refine ZT 1 ?_;refine Z1 (And.intro c2 c3) ?_;refine zbk ?_;refine zsq ?_;have hl:l<x.es.length:=by omega
       obtain⟨r2,hr2⟩:∃r2,x.es[l]? =some r2:=⟨_,List.getElem?_eq_getElem hl⟩;have h3:IntKind.i64.wrap (((l+1:Nat):Int)-1)=(l:Int):=w64s (by omega);have h4:(l<l+1)=True:=eq_true (Nat.lt_succ_self l);have h5:=qn_ eGRef hr2;have htk:(x.es.take (l+1)).reverse=r2::(x.es.take l).reverse:=by
        rw[List.take_add_one,hr2];simp
       rw[hn,htk] at k6;unfold uU_ at k6;obtain⟨pd,pe2,k6⟩:=zbi k6;rw[jF_] at pe2;obtain⟨nd,e2,rfl⟩:=Option.map_eq_some_iff.1 pe2;refine ZT 1 ?_;refine Z1 (And.intro hn (And.intro h3 (And.intro h4 (And.intro h5 k2)))) ?_;refine zsq ?_;generalize e8:upd (x.nx+3+6) _ _=hp8
       have old8:∀i,i<x.nx->hp8 i=x.hp i:=fun i hi=>by rw[<-e8,qb_ _ _ (by omega),qb_ _ _ (by omega)]
       have j8:SInv G hp nx q m oid over ord2 N s1 s2 s3 hp8 (x.nx+3+8) x.N:=k1.more old8 (by omega) fun j hj=>by rw[<-e8,qb_ _ _ (by omega),qb_ _ _ (by omega)];exact k1.new j (by omega)
       have b8:hp8 (x.nx+3+6)=some (boxR r2):=by rw[<-e8,qd_]
       have w8:hp8 (nx5+1+4+1)=rowA x.es x.ver false:=(old8 _ (qm_ k1.new k2)).trans k2;have h7:(l<=l+1)=True:=eq_true (Nat.le_succ l);refine ZT 1 ?_;refine Z1 (And.intro hn (And.intro h3 (And.intro h4 (And.intro h7 (And.intro (Nat.sub_zero l) w8))))) ?_;refine zsq (ZT 1 ?_)
       refine Z1 (And.intro j8.cb (And.intro j8.box (And.intro j8.nodes.map (And.intro b8 (xP_ e2))))) ?_;refine qj_ (by rfl) ?_;refine Z0 ?_;refine zsq (zsq ?_);refine ZT 1 ?_;have wb:=And.intro j8.cb (And.intro j8.box (And.intro j8.nodes.map (And.intro b8 (j8.nodes.bx e2))));rcases hrk2:(nd.rank != n.rank) with _ |_
       ·rw[show(nd.toPN.rank != n.rank)=false from hrk2,if_neg (by simp)] at k6
        rcases his:nd.is with _ |_
        ·rw[show nd.toPN.is=false from his,if_neg (by simp)] at k6
         obtain⟨b,hb,k7⟩:=zbi k6;rw[his] at wb;refine Z1 (And.intro hrk2 wb) ?_;have l2:=hnw hp8 (x.nx+3+8+6+7+18) q m _ x.N r2 b (fun j hj=>j8.new j (by omega)) j8.box j8.nodes hb;refine qe_ (InlOK.mono l2 fun v hp9 nx9 hv=> ?_);obtain⟨rfl,hv2,l1⟩:=hv;have hv2:=hv2.symm;subst hv2;have l1:x.nx+3+8+6+7+18<=nx9:=l1;have k6:=k7;rcases b with _ |_
         ·rw[if_neg (by simp)] at k6
          refine Z0 ?_;refine ZT 1 ?_;refine Z0 ?_;exact⟨⟨⟨hp8,_,x.N,0,0,x.ver,x.es,l,f2⟩,j8.more (fun _ _=>rfl) (by show x.nx+3+8<=nx9;omega) (fun j (hj:nx9<=j)=>j8.new j (by omega)),w8,k3,by show l<=x.es.length;omega,by show l<=4294967296;omega,k6⟩,wkI (qa_ rfl (qa_ rfl (qa_ rfl (qa_ rfl (qa_ rfl (qa_ rfl (qh_ _))))))),by show f2<x.c;omega⟩
         ·rw[if_pos rfl] at k6
          split at k6;rotate_left
          ·cases k6
          rename_i hsm;refine Z0 ?_;refine ZT 1 ?_;refine Z0 ?_;refine zsq (ZT 1 ?_);refine Z1 wb ?_;generalize e10:upd nd.id _ _=hp10;have bx8:=j8.nodes.bx e2;have nm:=(xf_ e2).1;have k1':SInv G hp nx q m oid over ord2 N s1 s2 s3 hp10 (nx9+4) (updN r2 { nd with is:=true } x.N):=by
           refine j8.set e2 rfl rfl (fun i q1 q2 q3=>by rw[<-e10,qb_ _ _ q2]) (by rw[<-e10,qd_];rfl) (fun h=> ?_) (fun h=>.inl ⟨h,rfl⟩) (by omega) fun j hj=> ?_
           ·have hrow:=j8.nodes.row nd nm h
            rw[<-e10];show upd nd.id _ hp8 nd.rid=accO 3 nd.ver false (nd.above.map eGRef);rw[qb_ _ _ (jB_ (hrow.trans (jc_ h)) bx8 fun e=>by cases e)];exact hrow
           ·have:=qm_ j8.new bx8
            rw[<-e10,qb_ _ _ (by omega)];exact j8.new j (by omega)
          have w10:hp10 (nx5+1+4+1)=rowA x.es x.ver false:=by
           rw[<-e10,qb_ _ _ (jB_ w8 bx8 fun e=>by cases e)];exact w8
          have r10:nx5+1+4+1∉uo_ (updN r2 { nd with is:=true } x.N):=fun h=>by
           obtain⟨y,h1,h2,h3⟩:=va_ h;rcases v4_ h1 with⟨e1,_⟩ |⟨hy,_⟩
           ·rw[e1] at h2 h3
            exact k3 (h3▸zq_ (n:=nd) nm h2)
           ·exact k3 (h3▸zq_ hy h2)
          have bx10:hp10 nd.id=some (.bx [.v (.int .i64 nd.rank),.d (.sl (nd.deps.map eGRef)) false,accV nd.rid nd.ver (nd.above.map eGRef),.v (.bool true)]):=by rw[<-e10,qd_]
          obtain⟨o',eo,ho'⟩:∃o',accV nd.rid nd.ver (nd.above.map eGRef)=accV o' nd.ver (nd.above.map eGRef)/\hp10 o'=accO 3 nd.ver false (nd.above.map eGRef):=by
           rcases hN0:nd.above with _ |⟨n1,N1⟩
           ·exact⟨nx9+1000,rfl,k1'.new _ (by omega)⟩
           ·rw[<-hN0]
            have h0:nd.above≠[]:=by rw[hN0];exact fun h=>by cases h
            have hrow:=j8.nodes.row nd nm h0;refine⟨nd.rid,rfl,?_⟩;rw[<-e10,qb_ _ _ (jB_ (hrow.trans (jc_ h0)) bx8 fun e=>by cases e)];exact hrow
          rw[eo] at bx10;have hck:chk 3 (nd.above.map eGRef)=true:=ja_ (f:=eGRef) (fun _=>rfl) _;refine ZT 1 ?_;refine Z1 (And.intro bx10 (And.intro ho' (And.intro w10 (And.intro (show(l<=x.es.length)=True from eq_true (by omega)) (And.intro hck (show(l+nd.above.length<=4294967296)=True from eq_true (by
           have:(x.es.take l).reverse.length+nd.above.length<=4294967296:=hsm
           rw[List.length_reverse,List.length_take] at this;omega))))))) ?_
          have hlen:(x.es.take l).length=l:=by rw[List.length_take];omega
          have hnl:l+nd.above.length<=4294967296:=by
           have:(x.es.take l).reverse.length+nd.above.length<=4294967296:=hsm
           rw[List.length_reverse,hlen] at this;exact this
          generalize e11:upd (nx5+1+4+1) _ hp10=hp11;have w11:hp11 (nx5+1+4+1)=rowA (x.es.take l++nd.above) (x.ver+1) false:=by
           rw[<-e11,qd_,rowA,List.map_append,List.map_take]
          have k11:SInv G hp nx q m oid over ord2 N s1 s2 s3 hp11 (nx9+4) (updN r2 { nd with is:=true } x.N):=by
           rw[<-e11];exact k1'.updRow w10 r10 wsep.2 (by have:=j2.nxs;omega)
          have pu:pns (updN r2 { nd with is:=true } x.N)=setIs r2 (pns x.N):=fx_ (n:=nd) (g:=fun x=>{ x with is:=true }) rfl fun y hy e=>yh_ j8.nodes.keys hy nm (e.trans (xf_ e2).2.symm)
          refine⟨⟨⟨hp11,_,updN r2 { nd with is:=true } x.N,0,0,x.ver+1,x.es.take l++nd.above,l+nd.above.length,f2⟩,k11.more (fun _ _=>rfl) (by show nx9+4<=nx9+4+7;omega) (fun j (hj:nx9+4+7<=j)=>k11.new j (by omega)),w11,r10,?_,hnl,?_⟩,wkI (qa_ rfl (qa_ rfl (qa_ rfl (qa_ rfl (qa_ rfl (qa_ rfl (qh_ _))))))),by show f2<x.c;omega⟩
          ·show l+nd.above.length<=(x.es.take l++nd.above).length
           rw[List.length_append,hlen];exact Nat.le_refl _
          ·show uU_ nw n.rank f2 (pns (updN r2 _ x.N)) (List.take (l+nd.above.length) (x.es.take l++nd.above)).reverse=some Pm
           rw[List.take_of_length_le (by rw[List.length_append,hlen];exact Nat.le_refl _),List.reverse_append,pu];exact k6
        ·rw[show nd.toPN.is=true from his,if_pos rfl] at k6
         rw[his] at wb;refine Z1 (And.intro hrk2 wb) ?_;refine ZT 1 ?_;refine Z0 ?_
         exact⟨⟨⟨hp8,_,x.N,0,0,x.ver,x.es,l,f2⟩,j8.more (fun _ _=>rfl) (by show x.nx+3+8<=x.nx+3+8+6+7+18;omega) (fun j (hj:x.nx+3+8+6+7+18<=j)=>j8.new j (by omega)),w8,k3,by show l<=x.es.length;omega,by show l<=4294967296;omega,k6⟩,wkI (qa_ rfl (qa_ rfl (qa_ rfl (qa_ rfl (qa_ rfl (qa_ rfl (qh_ _))))))),by show f2<x.c;omega⟩
       ·rw[show(nd.toPN.rank != n.rank)=true from hrk2,if_pos rfl] at k6
        refine Z1 (And.intro hrk2 wb) ?_;refine ZT 1 ?_;refine Z0 ?_
        exact⟨⟨⟨hp8,_,x.N,0,0,x.ver,x.es,l,f2⟩,j8.more (fun _ _=>rfl) (by show x.nx+3+8<=x.nx+3+8+6+7+18;omega) (fun j (hj:x.nx+3+8+6+7+18<=j)=>j8.new j (by omega)),w8,k3,by show l<=x.es.length;omega,by show l<=4294967296;omega,k6⟩,wkI (qa_ rfl (qa_ rfl (qa_ rfl (qa_ rfl (qa_ rfl (qa_ rfl (qh_ _))))))),by show f2<x.c;omega⟩
    ·have c1:(decide ((k:Int)<(ord2.length:Int)))=false:=decide_eq_false (by omega)
     refine Z1 c1 ?_;refine ZT 1 ?_;refine Z0 ?_;rw[List.drop_eq_nil_of_le (by omega)] at j3;exact⟨_,hp5,rfl,⟨fun _=>.inr rfl⟩,rfl,N5,Option.some.inj j3,j2.more (fun _ _=>rfl) (by show nx5<=nx5+1;omega) fun j (hj:nx5+1<=j)=>j2.new j (by omega)⟩
set_option maxRecDepth 4000 in
theorem has_ok {n c f:Nat}{G:SeekGraph}{o:GObj}{rel:ByteArray}{s:GSub}{nw:List PN->GRef->Option Bool}{N1 P1 P2:List PN}{ord2:List GRef}{rk:GRef->Int}{x:PN}
  (hnw:NowOK G (.v (.string s.type_)) (.v (.string s.id_)) (.v (.string s.rel)) nw) (h1:zG_ (bo_ n G) c [] [⟨o,rel⟩]=some N1) (h2:aboM (N1.map (·.k)) N1=some P1) (hne:N1≠[]) (hL:N1.length<4611686018427387904)
  (hrk:∀n∈P1,rk n.k=n.rank) (hord:∀r∈N1.map (·.k),(jd_ r P1).isSome=true) (h3:pM_ (fun a b=>cmpI (rk a) (rk b)) (N1.map (·.k)) ord2) (hL2:ord2.length=N1.length) (h4:dC_ nw f ord2 P1=some P2) (h5:jd_ ⟨o,rel⟩ P2=some x):
  PureOK Tryz.prog 34 [D.pt (eSeekGraph G) 0,.ag (eGObj o),.v (.string rel),.ag (eGSub s)] (.v (.bool x.is)) true:=by
 refine ZP qf_ fol (rs:= #[.tmp 8]) Tryz.func34 ?_;refine zsq (ZT 1 ?_);refine Z0 ?_;refine zsq (ZT 1 ?_);refine Z0 ?_;refine zsq (ZT 1 ?_);refine Z0 ?_;refine zsq ?_;generalize e1:(upd 12 (some _) _:Hp)=hp1;have q1:hp1 7=some (boxQ G (.v (.string s.type_)) (.v (.string s.id_)) (.v (.string s.rel)) 5 0 0 []):=by rw[<-e1];rfl
 have m1:hp1 5=some (.mo [] false):=by rw[<-e1];rfl
 have b1:hp1 12=some (boxR ⟨o,rel⟩):=by rw[<-e1];rfl
 have n1:∀j,14<=j->hp1 j=none:=fun j hj=>by
  rw[<-e1,qb_ _ _ (by omega),qb_ _ _ (by omega),qb_ _ _ (by omega),qb_ _ _ (by omega),qb_ _ _ (by omega),qb_ _ _ (by omega)];rfl
 refine ZT 1 ?_;refine Z1 b1 ?_;have I1:InvN hp1 5 []:=⟨m1,(fun _ h=>by cases h),(fun _ h=>by cases h),List.nodup_nil,List.nodup_nil,(fun _ h=>by cases h)⟩;refine qe_ (InlOK.mono (sA_ (r0:=⟨o,rel⟩) (fun j (hj:14+3<=j)=>n1 j (by omega)) q1 (fun h=>absurd rfl h) I1 (fun _ h=>by cases h) h1 rfl) fun v hp2 nx2 h=> ?_)
 obtain⟨rfl,⟨N,oid,over,rfl,g1,g2,g3,g4,g5⟩,g6,g7,g8⟩:=h;have g8:14+3<=nx2:=g8;have hneN:N≠[]:=fun e=>hne (by rw[e];rfl);have b2:hp2 12=some (boxR ⟨o,rel⟩):=(g6 12 (fun h=>by cases b1.symm.trans h) (by omega) (by omega) fun h=>absurd rfl h).trans b1;have ek:(pns N).map (·.k)=ordN N:=by simp[pns,ordN,Function.comp_def]
 rw[ek] at h2 hord h3;refine Z0 ?_;refine zsq (ZT 1 ?_);refine Z0 ?_;refine qe_ (InlOK.mono (sC_ hnw (fun j (hj:nx2+2<=j)=>g7 j (by omega)) g3 ((g4 hneN).trans (jc_ (by simpa using hneN))) (by simpa using hneN) (by simpa using hL) g1 g2 h2 hrk hord h3 (by simpa using hL2) h4) fun v hp3 nx3 h=> ?_);obtain⟨rfl,N2,rfl,k1⟩:=h
 have b3:hp3 12=some (boxR ⟨o,rel⟩):=(k1.keep 12 (fun h=>by cases b2.symm.trans h) (fun n hn e=>jB_ (g1.box n hn) b2 (fun e=>by cases e) e) (jB_ b2 ((g4 hneN).trans (jc_ (by simpa using hneN))) fun e=>by cases e)).trans b2;rw[jF_] at h5;obtain⟨n2,e2,rfl⟩:=Option.map_eq_some_iff.1 h5;refine Z0 ?_;refine zsq (ZT 1 ?_)
 refine Z1 (And.intro k1.box (And.intro k1.nodes.map (And.intro b3 (And.intro (xP_ e2) (k1.nodes.bx e2))))) ?_;refine qj_ (by rfl) ?_;refine Z0 ?_;refine ZT 1 ?_;refine Z0 ?_;exact ZE0
def isP (N:List PN)(r:GRef):Bool:=((jd_ r N).map (·.is)).getD false
def pN_ (N:List PN)(r:GRef):Int:=((jd_ r N).map (·.rank)).getD 0
def nowD (n:Nat)(G:SeekGraph)(s:GSub)(N:List PN)(r:GRef):Option Bool:=
 (qq_ n G.schema r.obj.type_ r.rel).bind fun rel=>if rel.1.expr.isEmpty then(jm_ n G.index.left r.obj r.rel).bind fun subs=>(qO_ n subs s).bind fun c=>(jd_ r N).bind fun x=>if x.deps.all (fun d=>(jd_ d N).isSome)&&decide (x.deps.length<4611686018427387904) then some (c||x.deps.any (isP N)) else none else none
theorem cZ_ (n:Nat)(G:SeekGraph)(s:GSub):NowOK G (.v (.string s.type_)) (.v (.string s.id_)) (.v (.string s.rel)) (nowD n G s):=by
 intro hp nx q m o N r b hf hq hN h;unfold nowD at h;obtain⟨rel,h1,h⟩:=zbi h;split at h;rotate_left
 ·cases h
 rename_i he;obtain⟨subs,h2,h⟩:=zbi h;obtain⟨c,h3,h⟩:=zbi h;obtain⟨x,h4,h⟩:=zbi h;split at h;rotate_left
 ·cases h
 rename_i hd;rw[Bool.and_eq_true,List.all_eq_true] at hd;cases h;rw[jF_] at h4;obtain⟨nd,e1,rfl⟩:=Option.map_eq_some_iff.1 h4;obtain⟨nx',n1,n2⟩:=now_ok hf hq hN.map (xP_ e1) (hN.bx e1) h1 (List.isEmpty_iff.1 he) h2 h3 (hN.at_ fun d hd2=>by
  have:=hd.1 d hd2
  rw[jF_] at this;simpa using this) (of_decide_eq_true hd.2)
 exact InlOK.mono n2 fun v hp2 nx2 h=>⟨h.1,h.2.1,by rw[h.2.2];exact n1⟩
theorem c0_ (d r:GRef)(N:List PN):(dB_ d r N).map (·.k)=N.map (·.k):=by
 unfold dB_;rw[List.map_map];refine List.map_congr_left fun n _=> ?_;simp only[Function.comp];split<;>rfl
theorem mo_ (d r:GRef)(N:List PN):(dB_ d r N).map (fun n=>(n.k,n.rank,n.deps))=N.map (fun n=>(n.k,n.rank,n.deps)):=by
 unfold dB_;rw[List.map_map];refine List.map_congr_left fun n _=> ?_;simp only[Function.comp];split<;>rfl
theorem dD_ {r:GRef}:∀ {l:List GRef} {N P:List PN},aboD r l N=some P->P.map (fun n=>(n.k,n.rank,n.deps))=N.map (fun n=>(n.k,n.rank,n.deps))
 |[],N,P,h=>by cases h;rfl
 |d::l,N,P,h=>by
  unfold aboD at h;obtain⟨n,_,h⟩:=zbi h;split at h
  ·rw[dD_ h,mo_]
  ·cases h
theorem dE_:∀ {l:List GRef} {N P:List PN},aboM l N=some P->P.map (fun n=>(n.k,n.rank,n.deps))=N.map (fun n=>(n.k,n.rank,n.deps))
 |[],N,P,h=>by cases h;rfl
 |d::l,N,P,h=>by
  unfold aboM at h;obtain⟨n,_,h⟩:=zbi h;split at h
  ·obtain⟨M,h1,h⟩:=zbi h
   rw[dE_ h,dD_ h1]
  ·cases h
theorem zr_ {r:GRef}:∀ {N:List PN} {n:PN},jd_ r N=some n->n∈N/\n.k=r
 |[],_,h=>by cases h
 |x::l,n,h=>by
  unfold jd_ at h;split at h
  ·rename_i e
   cases h;exact⟨List.mem_cons_self ..,(eq_of_beq e).symm⟩
  ·obtain⟨h1,h2⟩:=zr_ h
   exact⟨List.mem_cons_of_mem _ h1,h2⟩
theorem kv_ {r:GRef}:∀ {N:List PN},jd_ r N=none->∀n∈N,n.k≠r
 |[],_,_,hm=>by cases hm
 |x::l,h,n,hm=>by
  unfold jd_ at h;split at h
  ·cases h
  ·rename_i e
   rcases List.mem_cons.1 hm with rfl |hm
   ·exact fun e2=>e (by rw[e2];exact beq_self_eq_true _)
   ·exact kv_ h n hm
theorem xo_ {r:GRef}{N:List PN}(h:r∈N.map (·.k)):∃n,jd_ r N=some n:=by
 cases e:jd_ r N with
 |some n=>exact⟨n,rfl⟩
 |none=>
  obtain⟨n,h1,h2⟩:=List.mem_map.1 h;exact absurd h2 (kv_ e n h1)
theorem mp_ {N:List PN}(hn:(N.map (·.k)).Nodup){n:PN}(h:n∈N):jd_ n.k N=some n:=by
 induction N with
 |nil=>cases h
 |cons x l ih=>
  rw[List.map_cons,List.nodup_cons] at hn;show(if n.k==x.k then some x else jd_ n.k l)=some n
  rcases List.mem_cons.1 h with rfl |h
  ·rw[if_pos (beq_self_eq_true _)]
  ·rw[if_neg fun e=>hn.1 (by rw[<-eq_of_beq e];exact List.mem_map_of_mem h)]
   exact ih hn.2 h
theorem vM_ {nd:GRef->Option (Int × List GRef)}:∀ {f:Nat} {N R:List PN} {w:List GRef},zG_ nd f N w=some R->(N.map (·.k)).Nodup->(R.map (·.k)).Nodup
 |0,_,_,_,h,_=>by cases h
 |_+1,N,R,[],h,hn=>by cases h;exact hn
 |f+1,N,R,r::w,h,hn=>by
  unfold zG_ at h;split at h
  ·exact vM_ h hn
  ·rename_i he
   obtain⟨p,_,h⟩:=zbi h;split at h
   ·refine vM_ h ?_
    rw[List.map_append];refine List.nodup_append.2 ⟨hn,List.nodup_cons.2 ⟨List.not_mem_nil,List.nodup_nil⟩,fun a ha b hb=> ?_⟩;obtain⟨n,h1,rfl⟩:=List.mem_map.1 ha;rw[List.mem_singleton.1 hb];exact kv_ (by simpa using he) n h1
   ·cases h
theorem keysOf {N P:List PN}(h:P.map (fun n=>(n.k,n.rank,n.deps))=N.map (fun n=>(n.k,n.rank,n.deps))):P.map (·.k)=N.map (·.k):=by
 have:=congrArg (List.map Prod.fst) h
 simpa [Function.comp_def] using this
end Go.Proofs.YtnmkbmefohakmaaGreat.Ab
