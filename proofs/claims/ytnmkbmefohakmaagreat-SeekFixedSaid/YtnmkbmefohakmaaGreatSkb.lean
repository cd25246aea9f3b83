/-
 The search, solved: the walk.
-/
import Derived.Test.YtnmkbmefohakmaaGreatSks
set_option linter.all false
namespace Go.Proofs.YtnmkbmefohakmaaGreat.Ab
open Go.RowKit IntKind
def HN {α:Type}(e:α->α->Bool)(F:Nat):Nat->List α->Nat->Nat->Option (List α × Nat)
 |0,_,_,_=>none
 |c+1,d,a,b=>if b<=d.length then(Jv e F d a (a+1) b).bind fun f=>HN e F c f b (b+20) else some (d,a)
def HO {α:Type}(f:α->α->Bool)(F d:Nat):Nat->List α->Nat->Nat->Option (List α × Nat)
 |0,_,_,_=>none
 |c+1,e,a,b=>if b<=e.length then(symM f F e a (a+d) b).bind fun h=>HO f F d c h b (b+2*d) else some (e,a)
def HP {α:Type}(d:α->α->Bool)(F:Nat):Nat->List α->Nat->Option (List α)
 |0,_,_=>none
 |c+1,b,a=>if a<b.length then(HO d F a (b.length+1) b 0 (2*a)).bind fun p=>(if p.2+a<p.1.length then symM d F p.1 p.2 (p.2+a) p.1.length else some p.1).bind fun e=>HP d F c e (a*2) else some b
def HQ {α:Type}(a:α->α->Bool)(F:Nat)(xs:List α):Option (List α):=(HN a F (xs.length+1) xs 0 20).bind fun p=>(Jv a F p.1 p.2 (p.2+1) p.1.length).bind fun b=>HP a F (xs.length+1) b 20
theorem Xe {α:Type}{j:α->α->Bool}{a b:Nat}:∀ {F i:Nat} {c d:List α},Jv j F c a i b=some d->d.length=c.length/\∀z∈d,z∈c
 |0,_,_,_,h=>by cases h
 |F+1,i,c,d,h=>by
  unfold Jv at h;split at h
  ·have⟨l,f,h⟩:=AL h;have e:=Xe h;exact⟨e.1.trans (pP f),fun z k=>pR f (e.2 z k)⟩
  cases h;exact⟨rfl,fun _ h=>h⟩
theorem gG {α:Type}{j:α->α->Bool}{F:Nat}:∀ {c a b:Nat} {d:List α} {p:List α × Nat},HN j F c d a b=some p->a<=d.length->(p.1.length=d.length/\∀z∈p.1,z∈d)/\p.2<=d.length
 |0,_,_,_,_,h,_=>by cases h
 |c+1,a,b,d,p,h,k=>by
  unfold HN at h;split at h
  ·have⟨r,l,h⟩:=AL h;have e:=Xe l;have f:=gG h (by omega);exact⟨⟨f.1.1.trans e.1,fun z o=>e.2 z (f.1.2 z o)⟩,by omega⟩
  cases h;exact⟨⟨rfl,fun _ h=>h⟩,k⟩
theorem gH {α:Type}{j:α->α->Bool}{F k:Nat}:∀ {c a b:Nat} {d:List α} {p:List α × Nat},HO j F k c d a b=some p->a<=d.length->(p.1.length=d.length/\∀z∈p.1,z∈d)/\p.2<=d.length
 |0,_,_,_,_,h,_=>by cases h
 |c+1,a,b,d,p,h,l=>by
  unfold HO at h;split at h
  ·have⟨s,o,h⟩:=AL h;have e:=Sx o;have f:=gH h (by omega);exact⟨⟨f.1.1.trans e.1,fun z r=>e.2 z (f.1.2 z r)⟩,by omega⟩
  cases h;exact⟨⟨rfl,fun _ h=>h⟩,l⟩
theorem Xf {n:Nat}(h:n<1152921504606846976):i64.wrap (2*(n:Int))=((2*n:Nat):Int):=by
 rw[show 2*(n:Int)=((2*n:Nat):Int) by omega];exact JG
theorem gI {n:Nat}(h:n<1152921504606846976):i64.wrap ((n:Int)*2)=((n*2:Nat):Int):=by
 rw[show(n:Int)*2=((n*2:Nat):Int) by omega];exact JG
variable {G:AY}{N N0:List Nd}{hp hp' hp0:Hp}{m nx0 oid over q:Nat}{n n' x:Nd}{ord:List AB}{s1 s2 s3:AV}
section
variable {g:FuncId}{caps:List AV}{S:AB->Prop}{cf:AB->AB->Int}{ids:List Nat}{hp0:Hp}{br:Bool}{i ver L:Nat}
set_option maxRecDepth 4000 in
theorem Sy (V:Ju Tryz.prog g caps (fun r:AB=>.d (.ag (AH r)) br) S cf ids hp0)(E:i∉ids){xs R:List AB}{F nx:Nat}(hh:∀j∈ids,hp j=hp0 j)(hx:hp i=Ca xs ver br)(hS:∀x∈xs,S x)(hL:xs.length=L)(ap:L<4294967296)
  (w:HQ (G0 cf) F xs=some R):
  AU Tryz.prog 124 [.so i ver 0 L,.v (.int .i64 (L:Int)),.fn g caps] hp nx fun v H C=>v= .tu []/\H=upd i (Ca R ver br) hp/\nx<=C:=by
 unfold HQ at w;have⟨⟨ab,a0⟩,hB,w⟩:=AL w;have⟨aq,X,w⟩:=AL w;dsimp only at X w;have Y:∀p:List AB,∀j∈ids,upd i (Ca p ver br) hp j=hp0 j:=fun p j hj=>by
  have ar:j≠i:=fun h=>E (by rw[<-h];exact hj);rw[Ai _ _ ar];exact hh j hj
 have Z:∀p:List AB,upd i (Ca p ver br) hp i=Ca p ver br:=fun p=>Ap _ _ _;have lB:=gG hB (Lg _);have lZ:=Xe X;refine zq Tryz.func124 ?_;refine EE ?_;refine AT (CS ?_)
 refine DQ (α:={ x:List AB × Nat × Nat × Nat × Nat // x.2.1<=L/\x.2.2.1<=L+20/\nx<=x.2.2.2.1/\(x.1.length=L/\∀z∈x.1,S z)/\HN (G0 cf) F x.2.2.2.2 x.1 x.2.1 x.2.2.1=some (ab,a0) })
  (fun x=>⟨upd 0 (.so i ver 0 L) (upd 1 (.v (.int .i64 (L:Int))) (upd 2 (.fn g caps) (upd 6 (.v (.int .i64 20)) (upd 7 (.v (.int .i64 (x.1.2.1:Int))) (upd 8 (.v (.int .i64 (x.1.2.2.1:Int))) AK))))),upd i (Ca x.1.1 ver br) hp,x.1.2.2.2.1⟩) (fun x=>x.1.2.2.2.2) ⟨(xs,0,20,nx+1+3,xs.length+1),Lg _,by show 20<=L+20;omega,by show nx<=nx+1+3;omega,⟨hL,hS⟩,hB⟩ ?_ ?_
 ·rw[Fv hx];exact CT
 rintro⟨⟨p,a,b,a2,I⟩,g0,g1,g2,l,s⟩;dsimp only at g0 g1 g2 l s;obtain⟨I,rfl⟩:∃J,I=J+1:=by
  cases I with |zero=>cases s |succ f=>exact⟨f,rfl⟩
 unfold HN at s;refine AT (AT ?_);refine ZT 1 ?_;by_cases hb:b<=L
 ·rw[ifp] at s;have⟨av,K,s⟩:=AL s;have l1:=Xe K;have A:(decide ((b:Int)<=(L:Int)))=true:=Cp;refine Fb A ?_;refine CS ?_;refine Ay ?_;refine CR ((pS (a:=a) (b:=b) V E (Y p) (Z p) l.2 l.1 (by omega) (by omega) K).mono ?_);rintro v2 H C ⟨rfl,rfl,ad⟩;dsimp only at ad;refine Z0 ?_;refine ZT 1 ?_;have M:i64.wrap ((b:Int)+20)=((b+20:Nat):Int):=FR (a:=b) (b:=20) (by omega);refine Z1 M ?_;rw[Em];exact⟨⟨(av,b,b+20,_,I),hb,by show b+20<=L+20;omega,by show nx<=C+2+4;omega,⟨l1.1.trans l.1,fun z B=>l.2 z (l1.2 z B)⟩,s⟩,CT,Ls I⟩
 rw[ifn] at s;cases s;have A:(decide ((b:Int)<=(L:Int)))=false:=C6;refine Fb A ?_;refine Ay ?_;rw[l.1] at X;refine CR ((pS (a:=a0) (b:=L) V E (Y ab) (Z ab) l.2 l.1 (by omega) (by omega) X).mono ?_);rintro v2 H C ⟨rfl,rfl,ad⟩;dsimp only at ad;refine Z0 ?_;refine CS ?_;rw[Em];refine DQ (α:={ x:List AB × Nat × Nat × Nat // x.2.1<9223372036854775808 / 16/\nx<=x.2.2.1/\(x.1.length=L/\∀z∈x.1,S z)/\HP (G0 cf) F x.2.2.2 x.1 x.2.1=some R })
  (fun x=>⟨upd 0 (.so i ver 0 L) (upd 1 (.v (.int .i64 (L:Int))) (upd 2 (.fn g caps) (upd 6 (.v (.int .i64 (x.1.2.1:Int))) AK))),upd i (Ca x.1.1 ver br) hp,x.1.2.2.1⟩) (fun x=>x.1.2.2.2) ⟨(aq,20,C,xs.length+1),by show(20:Nat)<9223372036854775808 / 16;decide,by show nx<=C;omega,⟨lZ.1.trans l.1,fun z B=>l.2 z (lZ.2 z B)⟩,w⟩ ?_ ?_
 ·exact CT
 rintro⟨⟨us,d,ag,O⟩,t0,t1,t2,e⟩;dsimp only at t0 t1 t2 e;obtain⟨O,rfl⟩:∃J,O=J+1:=by
  cases O with |zero=>cases e |succ f=>exact⟨f,rfl⟩
 unfold HP at e;refine AT (AT ?_);refine ZT 1 ?_;by_cases a3:d<L;rotate_left
 ·rw[ifn] at e;cases e;have A:(decide ((d:Int)<(L:Int)))=false:=C6;refine Fb A ?_;exact⟨_,_,rfl,⟨fun _=>.inr rfl⟩,rfl,rfl,by show nx<=ag+3;omega⟩
 rw[ifp] at e;have⟨⟨P,Q⟩,K,e⟩:=AL e;have⟨aa,t,e⟩:=AL e;dsimp only at t e;have l1:=gH K (Lg _);have A:(decide ((d:Int)<(L:Int)))=true:=Cp;refine Fb A ?_;refine CS ?_;refine AT (ZT 1 ?_);refine Z1 (Xf (n:=d) (by omega)) ?_;refine AT (CS ?_);refine DQ (α:={ x:List AB × Nat × Nat × Nat × Nat // x.2.1<=L/\x.2.2.1<=L+2*d/\nx<=x.2.2.2.1/\(x.1.length=L/\∀z∈x.1,S z)/\HO (G0 cf) F d x.2.2.2.2 x.1 x.2.1 x.2.2.1=some (P,Q) })
  (fun x=>⟨upd 0 (.so i ver 0 L) (upd 1 (.v (.int .i64 (L:Int))) (upd 2 (.fn g caps) (upd 6 (.v (.int .i64 (d:Int))) (upd 7 (.v (.int .i64 (x.1.2.1:Int))) (upd 8 (.v (.int .i64 (x.1.2.2.1:Int))) AK))))),upd i (Ca x.1.1 ver br) hp,x.1.2.2.2.1⟩) (fun x=>x.1.2.2.2.2) ⟨(us,0,2*d,ag+3+4,us.length+1),Lg _,by show 2*d<=L+2*d;omega,by show nx<=ag+3+4;omega,t2,K⟩ ?_ ?_
 ·exact CT
 rintro⟨⟨qs,a,b,a4,T⟩,u0,u1,u2,o,u⟩;dsimp only at u0 u1 u2 o u;obtain⟨T,rfl⟩:∃J,T=J+1:=by
  cases T with |zero=>cases u |succ f=>exact⟨f,rfl⟩
 unfold HO at u;refine AT (AT ?_);refine ZT 1 ?_;by_cases hb:b<=L
 ·rw[ifp] at u;have⟨aE,h3,u⟩:=AL u;have U:=Sx h3;have M:(decide ((b:Int)<=(L:Int)))=true:=Cp;refine Fb M ?_;refine CS ?_;refine AT (ZT 1 ?_);refine Z1 (FR (a:=a) (b:=d) (by omega)) ?_;refine CR ((qB V E ap F (Y qs) (Z qs) o.2 o.1 h3).mono ?_);rintro v2 H ak ⟨rfl,rfl,ao⟩;dsimp only at ao;have c3:i64.wrap ((b:Int)+((2*d:Nat):Int))=((b+2*d:Nat):Int):=FR (a:=b) (b:=2*d) (by omega);refine Z0 ?_;refine ZT 1 ?_;refine Z1 (Y2 (Xf (n:=d) (by omega)) c3) ?_;rw[Em];exact⟨⟨(aE,b,b+2*d,_,T),hb,by show b+2*d<=L+2*d;omega,by show nx<=ak+2+5;omega,⟨U.1.trans o.1,fun z B=>o.2 z (U.2 z B)⟩,u⟩,CT,Ls T⟩
 rw[ifn] at u;cases u;have M:(decide ((b:Int)<=(L:Int)))=false:=C6;refine Fb M ?_;refine AT ?_;rw[o.1] at t;have U:aa.length=P.length/\∀z∈aa,z∈P:=by
  split at t
  ·exact Sx t
  cases t;exact⟨rfl,fun _ h=>h⟩
 refine D3 (α:={ k:Nat // nx<=k }) (fun y=>⟨upd 0 (.so i ver 0 L) (upd 1 (.v (.int .i64 (L:Int))) (upd 2 (.fn g caps) (upd 6 (.v (.int .i64 (d:Int))) AK))),upd i (Ca aa ver br) hp,y.1⟩) ?_ ?_
 ·refine AT (ZT 1 ?_);refine Z1 (FR (a:=Q) (b:=d) (by omega)) ?_;refine AT (ZT 1 ?_);by_cases k1:Q+d<L
  ·have c5:(decide (((Q+d:Nat):Int)<(L:Int)))=true:=Cp;refine Fb c5 ?_;rw[if_pos k1] at t;refine CR ((qB V E ap F (Y P) (Z P) o.2 o.1 t).mono ?_);rintro v2 H ak ⟨rfl,rfl,ao⟩;dsimp only at ao;refine Z0 ?_;rw[Em];exact⟨⟨ak,by omega⟩,CT⟩
  have c5:(decide (((Q+d:Nat):Int)<(L:Int)))=false:=C6;refine Z1 c5 ?_;rw[if_neg k1] at t;cases t;refine DN (c:=false) rfl rfl ?_;refine AP ?_;exact⟨⟨_,by omega⟩,CT⟩
 rintro⟨a1,h6⟩;refine ZT 1 ?_;refine Z1 (gI (n:=d) (by omega)) ?_;exact⟨⟨(aa,d*2,_,O),by show d*2<9223372036854775808 / 16;omega,by show nx<=a1+3;omega,⟨U.1.trans o.1,fun z B=>o.2 z (U.2 z B)⟩,e⟩,CT,Ls O⟩
theorem Sz (c:Ju Tryz.prog g caps (fun r:AB=>.d (.ag (AH r)) br) S cf ids hp0)(d:i∉ids){xs R:List AB}{F nx:Nat}(e:∀j∈ids,hp j=hp0 j)(f:hp i=Ca xs ver br)(k:∀x∈xs,S x)(l:xs.length=L)(o:L<4294967296)
  (p:HQ (G0 cf) F xs=some R):
  AU Tryz.prog 97 [.so i ver 0 L,.fn g caps] hp nx fun v b a=>v= .tu []/\b=upd i (Ca R ver br) hp/\nx<=a:=by
 refine zr Tryz.func97 ?_;refine Z0 ?_;refine CR (AU.mono (Sy c d e f k l o p) fun v b a h=> ?_);obtain⟨rfl,rfl,h⟩:=h;have h:nx+5<=a:=h;refine Z0 ?_;exact⟨_,_,rfl,⟨fun _=>.inr rfl⟩,rfl,rfl,by show nx<=a;omega⟩
end
def Ql (d r:AB)(N:List PN):List PN:=N.map fun n=>if d==n.k then{ n with above:=n.above++[r] } else n
def JH (d:AB)(N:List PN):List PN:=N.map fun n=>if d==n.k then{ n with is:=true } else n
def G1 (r:AB):List AB->List PN->Option (List PN)
 |[],N=>some N
 |d::l,N=>(C9 d N).bind fun n=>if n.above.length<4294967296 then G1 r l (Ql d r N) else none
def Fq:List AB->List PN->Option (List PN)
 |[],N=>some N
 |r::l,N=>(C9 r N).bind fun n=>if n.deps.length<=4294967296 then(G1 r n.deps N).bind fun N=>Fq l N else none
def KI (nw:List PN->AB->Option Bool)(a:Int):Nat->List PN->List AB->Option (List PN)
 |0,_,_=>none
 |_+1,N,[]=>some N
 |f+1,N,r::w=>(C9 r N).bind fun x=>if x.rank != a then KI nw a f N w else if x.is then KI nw a f N w else(nw N r).bind fun b=>if b then(if w.length+x.above.length<=4294967296 then KI nw a f (JH r N) (x.above.reverse++w) else none) else KI nw a f N w
def Mh (nw:List PN->AB->Option Bool)(f:Nat):List AB->List PN->Option (List PN)
 |[],N=>some N
 |r::l,N=>(C9 r N).bind fun x=>(KI nw x.rank f N [r]).bind fun N=>Mh nw f l N
def EW (d:AB)(n':Nd)(N:List Nd):List Nd:=N.map fun x=>if d==x.k then n' else x
theorem Uo {d:AB}(h:x∈EW d n' N):(x=n'/\∃y∈N,y.k=d)\/(x∈N/\x.k≠d):=by
 have⟨y,b,a⟩:=LO.1 h;by_cases e:(d==y.k)=true
 ·rw[if_pos e] at a;exact .inl ⟨a.symm,y,b,(eq_of_beq e).symm⟩
 rw[if_neg e] at a;subst a;exact .inr ⟨b,fun c=>e (by rw[c];exact beq_self_eq_true _)⟩
theorem fp {d:AB}{n n':Nd}(a:n'.k=n.k)(b:n'.id=n.id):∀ {N:List Nd},(∀x∈N,x.k=d->x=n)->Fy (EW d n' N)=Fy N
 |[],_=>rfl
 |x::l,h=>by
  have c:=fp (n':=n') a b (N:=l) fun y f=>h y (Lj _ f);show(_,_)::Fy (EW d n' l)=(_,_)::Fy l;rw[c];dsimp only;by_cases e:(d==x.k)=true
  ·have:=h x (Lo ..) (eq_of_beq e).symm;rw[if_pos e,a,b,this]
  rw[if_neg e]
theorem aM (h:(N.map (·.k)).Nodup){y:Nd}(d:x∈N)(f:y∈N)(e:x.k=y.k):x=y:=by
 induction N with
 |nil=>cases d
 |cons a l j=>
  rw[Li,Na] at h;rcases Lr.1 d with b |b<;>rcases Lr.1 f with c |c
  ·rw[b,c]
  ·rw[b] at e;exact absurd (e▸LH c) h.1
  ·rw[c] at e;exact absurd (e▸LH b) h.1
  exact j h.2 b c
theorem zG (h:(N.map (·.id)).Nodup){y:Nd}(d:x∈N)(f:y∈N)(e:x.id=y.id):x=y:=by
 induction N with
 |nil=>cases d
 |cons a l j=>
  rw[Li,Na] at h;rcases Lr.1 d with b |b<;>rcases Lr.1 f with c |c
  ·rw[b,c]
  ·rw[b] at e;exact absurd (e▸LH c) h.1
  ·rw[c] at e;exact absurd (e▸LH b) h.1
  exact j h.2 b c
theorem XZ {M:List Nd}(h:Fy M=Fy N):M.map (·.k)=N.map (·.k):=by
 have:=congrArg (List.map Prod.fst) h;simpa [Fy,NS] using this
theorem pT {M:List Nd}(h:Fy M=Fy N):M.map (·.id)=N.map (·.id):=by
 have:=congrArg (List.map Prod.snd) h;simp only[Fy,Bj] at this
 have:=congrArg (List.map fun o=>o.getD 0) this;simpa [NS] using this
theorem DJ.set {d:AB}(h:DJ hp m N)(u:GJ d N=some n)(v:n'.k=n.k)(r:n'.id=n.id)(em:hp' m=hp m)(w:hp' n.id=some (K6 n'))
  (z:∀x∈N,x.k≠d->hp' x.id=hp x.id) (A:n'.above≠[]->hp' n'.rid=A6 3 n'.ver false (n'.above.map AH)) (o:∀x∈N,x.k≠d->x.above≠[]->hp' x.rid=hp x.rid/\(n'.above≠[]->n'.rid≠x.rid)):DJ hp' m (EW d n' N):=by
 have⟨B,C⟩:=Me u;have p:=fp (n':=n') v r (N:=N) fun x b e=>aM h.keys b B (e.trans C.symm);refine⟨?_,fun x b=> ?_,fun x b j=> ?_,?_,?_,fun x b y E k l e=> ?_⟩
 ·rw[em,h.map];unfold F8;rw[p]
 ·rcases Uo b with⟨c,_⟩ |⟨a,f⟩
  ·rw[c,r,w]
  rw[z x a f,h.box x a]
 ·rcases Uo b with⟨c,_⟩ |⟨a,f⟩
  ·rw[c] at j⊢;exact A j
  rw[(o x a f j).1,h.row x a j]
 ·rw[XZ p];exact h.keys
 ·rw[pT p];exact h.ids
 rcases Uo b with⟨c,_⟩ |⟨a,f⟩<;>rcases Uo E with⟨s,_⟩ |⟨t,F⟩
 ·rw[c,s]
 ·rw[c] at e k;exact absurd e ((o y t F l).2 k)
 ·rw[s] at e l;exact absurd e.symm ((o x a f k).2 l)
 exact h.rids x a y t k l e
theorem fu {d:AB}{n n':Nd}{g:PN->PN}(a:n'.toPN=g n.toPN):∀ {N:List Nd},(∀x∈N,x.k=d->x=n)->Dp (EW d n' N)=(Dp N).map fun x=>if d==x.k then g x else x
 |[],_=>rfl
 |x::l,h=>by
  have b:=fu a (N:=l) fun y c=>h y (Lj _ c);show Nd.toPN _::Dp (EW d n' l)=_::(Dp l).map _;rw[b];dsimp only;by_cases e:(d==x.k)=true
  ·have:=h x (Lo ..) (eq_of_beq e).symm;rw[if_pos e,if_pos e,a,this]
  rw[if_neg e,if_neg e]
abbrev Sq (G:AY)(s1 s2 s3:AV)(m oid over:Nat)(ord:List AB):AO:=.bx [.d (.pt (A7 G) 0) true,s1,s2,s3,.mo m,Ac oid over (ord.map AH)]
abbrev F9 (r:AB):AO:=.bx [.v (.string r.obj.type_),.v (.string r.obj.id_),.v (.string r.rel)]
abbrev zH (r:AB):AV:=.ag [.v (.string r.obj.type_),.v (.string r.obj.id_),.v (.string r.rel)]
def pU (cf:AB->AB->Int)(xs b:List AB):Prop:=∀(g:FuncId) (caps:List AV) (S:AB->Prop) (ids:List Nat) (hp0:Hp) (br:Bool) (i ver:Nat),Ju Tryz.prog g caps (fun r:AB=>.d (.ag (AH r)) br) S cf ids hp0->i∉ids->(∀x∈xs,S x)->∀(hp:Hp) (a:Nat),(∀j∈ids,hp j=hp0 j)->hp i=Ca xs ver br->AU Tryz.prog 97 [.so i ver 0 xs.length,.fn g caps] hp a fun v c d=>v= .tu []/\c=upd i (Ca b ver br) hp/\a<=d
def JI (G:AY)(s1 s2 s3:AV)(nw:List PN->AB->Option Bool):Prop:=∀(hp:Hp) (a q m:Nat) (o:AV) (N:List Nd) (r:AB) (b:Bool),(∀j,a<=j->hp j=none)->hp q=some (.bx [.d (.pt (A7 G) 0) true,s1,s2,s3,.mo m,o])->DJ hp m N->nw (Dp N) r=some b->AU Tryz.prog 100 [.pt q 0,zH r] hp a fun v c d=>v= .v (.bool b)/\c=hp/\a<=d
structure Db (G:AY) (hp0:Hp) (nx0 q m oid over:Nat) (ord:List AB) (N0:List Nd) (s1 s2 s3:AV) (hp:Hp) (nx:Nat) (N:List Nd):Prop where
 new:∀j,nx<=j->hp j=none
 box:hp q=some (Sq G s1 s2 s3 m oid over ord)
 cb:hp nx0=some (.bx [.pt q 0])
 row:hp oid=Ca ord over false
 nodes:DJ hp m N
 osep:oid∉K7 N
 rnew:∀i∈K7 N,nx0<=i
 ix:Fy N=Fy N0
 keep:∀i,hp0 i≠none->(∀n∈N0,n.id≠i)->i≠oid->hp i=hp0 i
 nxs:nx0<nx
 old:∀i,nx0<=i->hp0 i=none
theorem DJ.bx {r:AB}(h:DJ hp m N)(a:GJ r N=some n):hp n.id=some (.bx [.v (.int .i64 n.rank),.d (.sl (n.deps.map AH)) false,Ac n.rid n.ver (n.above.map AH),.v (.bool n.is)]):=h.box n (Me a).1
theorem GW {i j:Nat}{x y:AO}(b:hp i=some x)(a:hp j=some y)(h:x=y->False):i≠j:=fun e=>by
 subst e;rw[b] at a;exact h (LM a)
theorem Db.more {nx nx':Nat}(h:Db G hp0 nx0 q m oid over ord N0 s1 s2 s3 hp nx N)(e:∀i,i<nx->hp' i=hp i)(a:nx<=nx')(k:∀j,nx'<=j->hp' j=none):Db G hp0 nx0 q m oid over ord N0 s1 s2 s3 hp' nx' N where
 new:=k
 box:=(e _ (Cd h.new h.box)).trans h.box
 cb:=(e _ (Cd h.new h.cb)).trans h.cb
 row:=(e _ (Cd h.new h.row)).trans h.row
 nodes:=h.nodes.more (e _ (Cd h.new h.nodes.map)) (fun n a=>e _ (Cd h.new (h.nodes.box n a))) fun n a d=>e _ (Cd h.new ((h.nodes.row n a d).trans (HM d)))
 osep:=h.osep
 rnew:=h.rnew
 ix:=h.ix
 keep:=fun i f l o=>by
  have b:=h.keep i f l o;rcases LY i nx with c |c
  ·exact(e i c).trans b
  rw[h.new i c] at b;exact absurd b.symm f
 nxs:=LF h.nxs a
 old:=h.old
theorem Db.set {nx nx':Nat}(h:Db G hp0 nx0 q m oid over ord N0 s1 s2 s3 hp nx N){d:AB}(C:GJ d N=some n)(E:n'.k=n.k)(r:n'.id=n.id)
  (e:∀i,i<nx->i≠n.id->(n.above≠[]->i≠n.rid)->hp' i=hp i) (K:hp' n.id=some (K6 n')) (M:n'.above≠[]->hp' n'.rid=A6 3 n'.ver false (n'.above.map AH)) (F:n'.above≠[]->(n.above≠[]/\n'.rid=n.rid)\/nx<=n'.rid)
  (O:nx<=nx') (P:∀j,nx'<=j->hp' j=none):Db G hp0 nx0 q m oid over ord N0 s1 s2 s3 hp' nx' (EW d n' N):=by
 have⟨o,z⟩:=Me C;have u:=h.nodes.box n o;have Q:=h.nodes.row n o;have w:∀(i:Nat) (x:AO),hp i=some x->(∀R T v b f,x≠ .rw R T v b f)->n.above≠[]->i≠n.rid:=fun i x a s p=>GW a ((Q p).trans (HM p)) fun e=>s _ _ _ _ _ e;have U:=fp (n':=n') E r (N:=N) fun x k e=>aM h.nodes.keys k o (e.trans z.symm)
 have H:∀i∈K7 (EW d n' N),(i∈K7 N)\/nx<=i:=fun i r=>by
  have⟨x,a,s,p⟩:=Un r;rcases Uo a with⟨V,_⟩ |⟨k,_⟩
  ·rw[V] at s p;rcases F s with⟨l,c⟩ |l
   ·exact .inl (p▸c▸So o l)
   exact .inr (p▸l)
  exact .inl (p▸So k s)
 refine⟨P,?_,?_,?_,?_,fun X=> ?_,fun i r=> ?_,U.trans h.ix,fun i a s p=> ?_,LF h.nxs O,h.old⟩
 ·rw[e q (Cd h.new h.box) (GW h.box u fun e=>by cases e) (w q _ h.box fun _ _ _ _ _ e=>by cases e),h.box]
 ·rw[e nx0 h.nxs (GW h.cb u fun e=>by cases e) (w nx0 _ h.cb fun _ _ _ _ _ e=>by cases e),h.cb]
 ·rw[e oid (Cd h.new h.row) (GW h.row u fun e=>by cases e) fun t e=>h.osep (e▸So o t),h.row]
 ·refine h.nodes.set C E r (e m (Cd h.new h.nodes.map) (GW h.nodes.map u fun e=>by cases e) (w m _ h.nodes.map fun _ _ _ _ _ e=>by cases e)) K (fun x k A=>e x.id (Cd h.new (h.nodes.box x k)) (fun e=>A ((congrArg (·.k) (zG h.nodes.ids k o e)).trans z)) (w x.id _ (h.nodes.box x k) fun _ _ _ _ _ e=>by cases e)) M fun x k A t=> ?_
  have I:=(h.nodes.row x k t).trans (HM t);have Y:=Cd h.new I;have J:n.above≠[]->x.rid≠n.rid:=fun B e=>A ((h.nodes.rids x k n o t B e).trans z);refine⟨e x.rid Y (GW I u fun e=>by cases e) J,fun B e=> ?_⟩;rcases F B with⟨l,c⟩ |l
  ·exact J l (e.symm.trans c)
  omega
 ·rcases H _ X with a |a
  ·exact h.osep a
  have:=Cd h.new h.row;omega
 ·rcases H _ r with a |a
  ·exact h.rnew _ a
  have:=h.nxs;omega
 have l:=h.keep i a s p;have r:i<nx:=by
  rcases LY i nx with c |c
  ·exact c
  rw[h.new i c] at l;exact absurd l.symm a
 rw[e i r (fun e=>by
  have c:n.id∈N0.map (·.id):=by
   rw[<-pT h.ix];exact LH o
  have⟨y,h6,h7⟩:=LO.1 c;exact s y h6 (h7.trans e.symm)) fun t e=> ?_,l]
 have c:=h.rnew _ (So o t);rw[<-e] at c;exact a (h.old i c)
theorem Db.updRow {nx a:Nat}{o:Option AO}{es:List (List D)}{sz ver:Nat}{br d:Bool}(h:Db G hp0 nx0 q m oid over ord N0 s1 s2 s3 hp nx N)(b:hp a=some (.rw es sz ver br d))(f:a∉K7 N)(k:a≠oid)(l:nx0<=a):Db G hp0 nx0 q m oid over ord N0 s1 s2 s3 (upd a o hp) nx N where
 new:=fun j p=>by
  have:=Cd h.new b;rw[Aa];exact h.new j p
 box:=(Ai _ _ (GW h.box b fun e=>by cases e)).trans h.box
 cb:=(Ai _ _ (GW h.cb b fun e=>by cases e)).trans h.cb
 row:=(Ai _ _ (Ne.symm k)).trans h.row
 nodes:=h.nodes.upd_row (.inr ⟨_,_,_,_,_,b⟩) f
 osep:=h.osep
 rnew:=h.rnew
 ix:=h.ix
 keep:=fun i c r s=>by
  have:=h.keep i c r s;rw[Ai _ _ fun e=>by
   subst e;exact c (h.old _ l)]
  exact this
 nxs:=h.nxs
 old:=h.old
def Mi (a b c i:Nat):Nat:=if i=a then 1 else if i=b then 2 else if i=c then 3 else 0
theorem Sr {a b c i:Nat}(d:i≠a)(e:i≠b)(f:i≠c):Mi a b c i=0:=by unfold Mi;rw[if_neg d,if_neg e,if_neg f]
set_option maxRecDepth 4000 in
theorem zJ {nx f:Nat}{nw:List PN->AB->Option Bool}{u:List AB}{P1 P2:List PN}{rk:AB->Int}(c9:JI G s1 s2 s3 nw)(hf:∀j,nx<=j->hp j=none)
  (hq:hp q=some (Sq G s1 s2 s3 m oid over ord)) (ho:hp oid=Ca ord over false) (a5:ord≠[]) (hL:ord.length<4611686018427387904) (hN:DJ hp m N) (ha:∀n∈N,n.above= []) (h1:Fq ord (Dp N)=some P1) (da:∀n∈P1,rk n.k=n.rank) (dd:∀r∈ord,(C9 r P1).isSome=true) (h2:pU (fun a b=>Gz (rk a) (rk b)) ord u) (bo:u.length=ord.length) (P:Mh nw f u P1=some P2):
  AU Tryz.prog 67 [.pt q 0] hp nx fun v ap M=>v= .tu []/\∃Q,Dp Q=P2/\Db G hp nx q m oid over u N s1 s2 s3 ap M Q:=by
 refine zq Tryz.func67 ?_;have w:=Y2 (Fp hf hq) (Y2 hq (YV (f:=AH) (NA.2 a5)));refine AT (ZT 1 ?_);refine KG w ?_;refine CS ?_;have a9:∀i,i<nx->upd nx (some (.bx [.pt q 0])) hp i=hp i:=fun i U=>Aa;have S0:Db G hp nx q m oid over ord N s1 s2 s3 (upd nx (some (.bx [.pt q 0])) hp) (nx+1+6) N:=
  {
   new:=fun j B=>by rw[Aa];exact hf j (by omega)
   box:=(a9 _ (Cd hf hq)).trans hq
   cb:=Ap ..
   row:=(a9 _ (Cd hf ho)).trans ho
   nodes:=hN.upd_new (hf nx (Lc _))
   osep:=fun h=>by
    have⟨n,h1,h2,_⟩:=Un h;exact h2 (ha n h1)
   rnew:=fun i h=>by
    have⟨n,h1,h2,_⟩:=Un h;exact absurd (ha n h1) h2
   ix:=rfl
   keep:=fun i h _ _=>a9 i (by
    rcases LY i nx with h1 |h1
    ·exact h1
    exact absurd (hf i h1) h)
   nxs:=by omega
   old:=hf }
 refine DQ (α:={ x:Nat × Hp × Nat × List Nd // x.1<=ord.length/\Db G hp nx q m oid over ord N s1 s2 s3 x.2.1 x.2.2.1 x.2.2.2/\Fq (ord.drop x.1) (Dp x.2.2.2)=some P1 })
  (fun x=>⟨upd 1 (.pt nx 0) (upd 15 (.so oid over 0 ord.length) (upd 16 (.v (.int .i64 (ord.length:Int))) (upd 17 (.v (.int .i64 (x.1.1:Int))) AK))),x.1.2.1,x.1.2.2.1⟩) (fun x=>ord.length-x.1.1) ⟨(0,upd nx (some (.bx [.pt q 0])) hp,nx+1+6,N),Lg _,S0,h1⟩ ?_ ?_
 ·exact CT
 rintro⟨⟨k,ap,M,Q⟩,g1,s,H⟩;dsimp only at g1 s H;refine AT (ZT 1 ?_);by_cases hk:k<ord.length
 ·have c1:(decide ((k:Int)<(ord.length:Int)))=true:=Cp;refine Cw c1 ?_;refine Z0 ?_;refine AT (CS ?_);refine AT ?_;obtain⟨r,hr⟩:∃r,ord[k]? =some r:=⟨_,Le hk⟩;rw[Lm hk,show ord[k]=r from(Lb.1 hr).2] at H;unfold Fq at H;have⟨pn,pe,H⟩:=AL H;split at H;rotate_left
  ·cases H
  rename_i df;have⟨Pm,g4,H⟩:=AL H;rw[Js] at pe;obtain⟨n,J,rfl⟩:=La.1 pe;have dk:(k<ord.length)=True:=eq_true hk;refine ZT 1 ?_;refine Z1 (Y3 dk s.row (Cr AH hr)) ?_;refine AT ?_;generalize e3:upd (M+1+2) _ _=ba;have g5:Db G hp nx q m oid over ord N s1 s2 s3 ba (M+1+4) Q:=s.more (fun i U=>by rw[<-e3,Aa,Aa]) (by omega) fun j B=>by rw[<-e3,Aa,Aa];exact s.new j (by omega)
  have b3:ba (M+1+2)=some (F9 r):=by rw[<-e3,Ap]
  refine ZT 1 ?_;refine Z1 (Y6 g5.cb g5.box g5.nodes.map b3 (Mf J) (g5.nodes.bx J)) ?_;refine DF (by rfl) ?_;refine Z0 ?_;refine CS ?_;refine DQ (α:={ x:Nat × Hp × Nat × List Nd // x.1<=n.deps.length/\Db G hp nx q m oid over ord N s1 s2 s3 x.2.1 x.2.2.1 x.2.2.2/\x.2.1 (M+1+2)=some (F9 r)/\G1 r (n.deps.drop x.1) (Dp x.2.2.2)=some Pm })
   (fun x=>⟨upd 1 (.pt nx 0) (upd 3 (.pt (M+1+2) 0) (upd 29 (.d (.sl (n.deps.map AH)) false) (upd 30 (.v (.int .i64 (n.deps.length:Int))) (upd 31 (.v (.int .i64 (x.1.1:Int))) (upd 15 (.so oid over 0 ord.length) (upd 16 (.v (.int .i64 (ord.length:Int))) (upd 17 (.v (.int .i64 (k:Int))) AK))))))),x.1.2.1,x.1.2.2.1⟩) (fun x=>n.deps.length-x.1.1) ⟨(0,ba,M+1+4+11,Q),Lg _,g5.more (fun _ _=>rfl) (by show _<=M+1+4+11;omega) fun j (B:M+1+4+11<=j)=>g5.new j (by omega),b3,g4⟩ ?_ ?_
  ·exact CT
  rintro⟨⟨j,a0,t,N4⟩,i1,i2,i3,I⟩;dsimp only at i1 i2 i3 I;refine AT (ZT 1 ?_);by_cases B:j<n.deps.length;rotate_left
  ·have c2:(decide ((j:Int)<(n.deps.length:Int)))=false:=C6;refine Fb c2 ?_;refine ZT 1 ?_;refine Z1 (Al (show k+1<4611686018427387904 by omega)) ?_;rw[Nt (by omega)] at I;cases I;exact⟨⟨(k+1,a0,_,N4),by show k+1<=ord.length;omega,i2.more (fun _ _=>rfl) (by show t<=t+1+2;omega) (fun j (B:t+1+2<=j)=>i2.new j (by omega)),H⟩,CT,by show ord.length-(k+1)<ord.length-k;omega⟩
  have c2:(decide ((j:Int)<(n.deps.length:Int)))=true:=Cp;refine Cw c2 ?_;refine Z0 ?_;refine AT (CS ?_);refine AT ?_;obtain⟨d,hd⟩:∃d,n.deps[j]? =some d:=⟨_,Le B⟩;rw[Lm B,show n.deps[j]=d from(Lb.1 hd).2] at I;unfold G1 at I;have⟨dn,pd,I⟩:=AL I;split at I;rotate_left
  ·cases I
  rename_i a6;rw[Js] at pd;obtain⟨c,d1,rfl⟩:=La.1 pd;refine ZT 1 ?_;refine Z1 (Cr AH hd) ?_;generalize e5:upd (t+1+2) _ _=R;have bs:∀i,i<t->R i=a0 i:=fun i U=>by rw[<-e5,Aa,Aa]
  have F:Db G hp nx q m oid over ord N s1 s2 s3 R (t+1+4) N4:=i2.more bs (by omega) fun j B=>by rw[<-e5,Aa,Aa];exact i2.new j (by omega)
  have b5:R (t+1+2)=some (F9 d):=by rw[<-e5,Ap]
  have aq:R (M+1+2)=some (F9 r):=(bs _ (Cd i2.new i3)).trans i3;have dm:=(Me d1).1;obtain⟨K,eo,aE,bx,b0⟩:∃K,Ac c.rid c.ver (c.above.map AH)=Ac K c.ver (c.above.map AH)/\R K=A6 3 c.ver false (c.above.map AH)/\(∀j,j<100->K≠t+1+4+j)/\(c.above≠[]->K=c.rid):=by
   rcases ar:c.above with _ |⟨n1,N1⟩
   ·exact⟨t+1+4+1000,rfl,F.new _ (by omega),fun j B=>by omega,fun h=>absurd rfl h⟩
   rw[<-ar];have X:c.above≠[]:=(by rw[ar];exact fun h=>by cases h);have ag:=F.nodes.row c dm X
   have:=Cd F.new (ag.trans (HM X));exact⟨c.rid,rfl,ag,fun j B=>by omega,fun _=>rfl⟩
  obtain⟨A,eA⟩:∃A,A=CW (t+1+4+17) K (c.above.map AH):=⟨_,rfl⟩;have hA:∀(i:Nat) (y:AO),R i=some y->(∀es sz v b f,y≠ .rw es sz v b f)->i≠A:=fun i y U hy e=>by
   rw[e,eA] at U;cases hL:c.above.map AH with
   |nil=>
    rw[hL] at U
    have:=F.new (t+1+4+17) (by omega);rw[show R (t+1+4+17)=some y from U] at this;cases this
   |cons c0 l0=>
    rw[hL] at U aE;rw[show R K=some y from U] at aE;cases aE;exact hy _ _ _ _ _ rfl
  have ak:=F.nodes.bx d1;rw[eo] at ak;have a1:=hA _ _ ak fun _ _ _ _ _ e=>by cases e
  have dl:t+1+4+16≠A:=by
   rw[eA];cases hL:c.above.map AH with |nil=>show t+1+4+16≠t+1+4+17;omega |cons _ _=>exact(bx 16 (by omega)).symm
  have Z:∀ {i:Nat} {o:AO},R i=some o->(i=t+1+4+16)=False:=fun h=>eq_false (by have:=Cd F.new h;omega);have w7:=And.intro F.cb <|And.intro F.box <|And.intro F.nodes.map <|And.intro b5 <|And.intro aq <|And.intro (Mf d1)<|And.intro ak <|And.intro aE <|And.intro (show(K=t+1+4+16)=False from eq_false (bx 16 (by omega)))<|And.intro (Z F.cb)<|And.intro (Z F.box)<|And.intro (Z F.nodes.map)<|And.intro (Z b5)<|And.intro (Z aq)<|And.intro (Z ak)<|
   And.intro (show(c.id=CW (t+1+4+17) K (c.above.map AH))=False from eq_false (eA▸a1)) (show(c.above.length+1<=4294967296)=True from eq_true (by have:c.above.length<4294967296:=a6;omega))
  refine Fo w7 ?_;rw[<-eA];have v1:Mi c.id A (t+1+4+16) c.id=1:=by simp[Mi]
  have v2:Mi c.id A (t+1+4+16) A=2:=by simp[Mi,Ne.symm a1]
  have v3:Mi c.id A (t+1+4+16) (t+1+4+16)=3:=by unfold Mi;rw[if_neg (fun e=>(Z ak).mp e.symm),if_neg dl,if_pos rfl]
  have vo:∀(i:Nat) (y:AO),R i=some y->(∀es sz v b f,y≠ .rw es sz v b f)->y≠ .bx [.v (.int .i64 c.rank),.d (.sl (c.deps.map AH)) false,Ac K c.ver (c.above.map AH),.v (.bool c.is)]->Mi c.id A (t+1+4+16) i=0:=fun i y h1 h2 P=>Sr (GW h1 ak P) (hA i y h1 h2) fun e=>(Z h1).mp e;have v4:=vo _ _ F.cb (fun _ _ _ _ _ e=>by cases e) fun e=>by cases e
  have v5:=vo _ _ F.box (fun _ _ _ _ _ e=>by cases e) fun e=>by cases e
  have v6:=vo _ _ F.nodes.map (fun _ _ _ _ _ e=>by cases e) fun e=>by cases e
  have v7:=vo _ _ b5 (fun _ _ _ _ _ e=>by cases e) fun e=>by cases e
  have v8:=vo _ _ aq (fun _ _ _ _ _ e=>by cases e) fun e=>by cases e
  refine KH (Mi c.id A (t+1+4+16)) _ rfl (by simp only[Nl,Np,LA,LL,Li,Lw,H0,v1,v2,v3,v4,v5,v6,v7,v8];rfl) (by rfl) ?_;refine Z0 ?_;generalize aa:upd c.id _ _=ao;refine ZT 1 ?_;have dy:n.deps.length<=4294967296:=df;refine Z1 (Al (show j+1<4611686018427387904 by omega)) ?_;have bb:A<t+1+4+21/\((c.above≠[]/\A=c.rid)\/t+1+4<=A):=by
   rw[eA];rcases ar:c.above with _ |⟨n1,N1⟩
   ·exact⟨by show t+1+4+17<_;omega,.inr (by show _<=t+1+4+17;omega)⟩
   have X:c.above≠[]:=by rw[ar];exact fun h=>by cases h
   have:=Cd F.new ((F.nodes.row c dm X).trans (HM X));refine⟨?_,.inl ⟨fun h=>(by cases h),b0 X⟩⟩;show K<_;rw[b0 X];omega
  have j5:Db G hp nx q m oid over ord N s1 s2 s3 ao (t+1+4+21+2) (EW d { c with above:=c.above++[r],rid:=A,ver:=CZ c.ver (c.above.map AH) } N4):=by
   refine F.set d1 rfl rfl (fun i l1 l2 l3=> ?_) ?_ (fun _=> ?_) (fun _=>bb.2) (by omega) fun j B=> ?_
   ·have a1:i≠A:=fun e=>by
     rcases bb.2 with⟨h1,h2⟩ |h1
     ·exact l3 h1 (e.trans h2)
     omega
    rw[<-aa,Ai _ _ l2,Ai _ _ a1,Aa]
   ·rw[<-aa,Ap];unfold K6;rw[KC (by simp)];simp
   ·show ao A=A6 3 (CZ c.ver (c.above.map AH)) false ((c.above++[r]).map AH);rw[<-aa,Ai _ _ (Ne.symm a1),Ap,Vz (by simp)];simp
   have:=Cd F.new ak
   have:=bb.1;rw[<-aa,Aa,Aa,Aa];exact F.new j (by omega)
  have Y:ao (M+1+2)=some (F9 r):=by
   rw[<-aa,Ai _ _ (GW aq ak fun e=>by cases e),Ai _ _ (hA _ _ aq fun _ _ _ _ _ e=>by cases e),Ai _ _ fun e=>(Z aq).mp e];exact aq
  refine⟨⟨(j+1,ao,_,_),by show j+1<=n.deps.length;omega,j5,Y,?_⟩,CT,by show n.deps.length-(j+1)<n.deps.length-j;omega⟩;have pu:Dp (EW d { c with above:=c.above++[r],rid:=A,ver:=CZ c.ver (c.above.map AH) } N4)=Ql d r (Dp N4):=fu (n:=c) (g:=fun x=>{ x with above:=x.above++[r] }) rfl fun x hx e=>aM F.nodes.keys hx dm (e.trans (Me d1).2.symm);exact(congrArg (G1 r (n.deps.drop (j+1))) pu).trans I
 have c1:(decide ((k:Int)<(ord.length:Int)))=false:=C6;refine Fb c1 ?_;rw[Nt (by omega)] at H;have H:Dp Q=P1:=LM H;refine AT (ZT 1 ?_);refine Z1 (Y3 s.cb s.box (YV (f:=AH) (NA.2 a5))) ?_;have dp:∀r∈ord,∃id x1 x2 x3,Du (F8 Q) r id/\ap id=some (.bx [.v (.int .i64 (rk r)),x1,x2,x3])/\id∈Q.map (·.id):=fun r hr=>by
  have⟨pn,b1⟩:=NJ.1 (dd r hr);rw[<-H,Js] at b1;obtain⟨n2,J,rfl⟩:=La.1 b1;have⟨O,e3⟩:=Me J;have e4:=da n2.toPN (H▸LH O);have e5:=s.nodes.bx J;rw[show n2.rank=rk r from e3▸e4.symm] at e5;exact⟨n2.id,_,_,_,Mf J,e5,LH O⟩
 have dq:oid∉nx::q::m::Q.map (·.id):=fun h=>by
  rcases Lr.1 h with h |h
  ·exact GW s.row s.cb (fun e=>by cases e) h
  rcases Lr.1 h with h |h
  ·exact GW s.row s.box (fun e=>by cases e) h
  rcases Lr.1 h with h |h
  ·exact GW s.row s.nodes.map (fun e=>by cases e) h
  have⟨n2,J,O⟩:=LO.1 h;exact GW s.row (s.nodes.box n2 J) (fun e=>by cases e) O.symm
 refine CR (AU.mono (h2 98 [.pt nx 0] _ _ ap false oid over (zF (rk:=rk) (ids:=Q.map (·.id)) s.cb s.box s.nodes.map) dq dp ap _ (fun _ _=>rfl) s.row) fun v a0 t h=> ?_);obtain⟨rfl,rfl,h⟩:=h;have h:M+1+6<=t:=h;have b2:u≠[]:=fun e=>a5 (Bb.1 (by rw[<-bo,e];rfl));have I:Db G hp nx q m oid over u N s1 s2 s3 (upd oid (Ca u over false) ap) t Q:=
  {
   new:=fun j B=>by
    have:=Cd s.new s.row;rw[Aa];exact s.new j (by omega)
   box:=by
    rw[Ai _ _ (GW s.box s.row fun e=>by cases e),s.box];unfold Sq;rw[KC (NA.2 a5),KC (NA.2 b2),bo]
   cb:=(Ai _ _ (GW s.cb s.row fun e=>by cases e)).trans s.cb
   row:=Ap ..
   nodes:=s.nodes.upd_row (.inr ⟨_,_,_,_,_,s.row⟩) s.osep
   osep:=s.osep
   rnew:=s.rnew
   ix:=s.ix
   keep:=fun i J O e3=>(Ai _ _ e3).trans (s.keep i J O e3)
   nxs:=by have:=s.nxs;omega
   old:=s.old }
 rw[<-H] at P;generalize e4:upd oid (Ca u over false) ap=a0 at I⊢;refine Dt ?_;refine Z1 (Y3 I.cb I.box (YV (f:=AH) (NA.2 b2))) ?_;refine CS ?_;refine DQ (α:={ x:Nat × Hp × Nat × List Nd // x.1<=u.length/\Db G hp nx q m oid over u N s1 s2 s3 x.2.1 x.2.2.1 x.2.2.2/\Mh nw f (u.drop x.1) (Dp x.2.2.2)=some P2 })
  (fun x=>⟨upd 1 (.pt nx 0) (upd 66 (.so oid over 0 u.length) (upd 67 (.v (.int .i64 (u.length:Int))) (upd 68 (.v (.int .i64 (x.1.1:Int))) AK))),x.1.2.1,x.1.2.2.1⟩) (fun x=>u.length-x.1.1) ⟨(0,a0,t+6,Q),Lg _,I.more (fun _ _=>rfl) (by show t<=t+6;omega) (fun j (B:t+6<=j)=>I.new j (by omega)),P⟩ ?_ ?_
 ·exact CT
 rintro⟨⟨k,R,C,N5⟩,j1,j2,Y⟩;dsimp only at j1 j2 Y;refine AT (ZT 1 ?_);by_cases bd:k<u.length;rotate_left
 ·have c1:(decide ((k:Int)<(u.length:Int)))=false:=C6;refine Fb c1 ?_;rw[Nt (by omega)] at Y;exact⟨_,R,rfl,⟨fun _=>.inr rfl⟩,rfl,N5,LM Y,j2.more (fun _ _=>rfl) (by show C<=C+1;omega) fun j (B:C+1<=j)=>j2.new j (by omega)⟩
 have c1:(decide ((k:Int)<(u.length:Int)))=true:=Cp;refine Cw c1 ?_;refine Z0 ?_;refine AT (CS ?_);refine AT ?_;obtain⟨r,hr⟩:∃r,u[k]? =some r:=⟨_,Le bd⟩;rw[Lm bd,show u[k]=r from(Lb.1 hr).2] at Y;unfold Mh at Y;have⟨pn,pe,Y⟩:=AL Y;have⟨Pm,j4,j9⟩:=AL Y;rw[Js] at pe;obtain⟨n,J,rfl⟩:=La.1 pe;refine ZT 1 ?_;refine Z1 (Y3 (show(k<u.length)=True from eq_true bd) j2.row (Cr AH hr)) ?_;generalize aa:upd (C+1+2) _ _=ao;have j6:Db G hp nx q m oid over u N s1 s2 s3 ao (C+1+4) N5:=j2.more (fun i U=>by rw[<-aa,Aa,Aa]) (by omega) fun j B=>by rw[<-aa,Aa,Aa];exact j2.new j (by omega)
 have b6:ao (C+1+2)=some (F9 r):=by rw[<-aa,Ap]
 refine AT (ZT 1 ?_);refine Z1 b6 ?_;refine AT ?_;generalize e7:upd (C+1+4+1) _ _=a2;have b4:∀i,i<C+1+4->a2 i=ao i:=fun i U=>by rw[<-e7,Aa]
 have j7:Db G hp nx q m oid over u N s1 s2 s3 a2 (C+1+4+3) N5:=j6.more b4 (by omega) fun j B=>by rw[<-e7,Aa];exact j6.new j (by omega)
 have b7:a2 (C+1+2)=some (F9 r):=(b4 _ (by omega)).trans b6;have w7:a2 (C+1+4+1)=Ca [r] 0 false:=by rw[<-e7,Ap];rfl
 refine ZT 1 ?_;refine Z1 (Y6 j7.cb j7.box j7.nodes.map b7 (Mf J) (j7.nodes.bx J)) ?_;refine DF (by rfl) ?_;refine Z0 ?_;refine CS ?_;have b9:C+1+4+1∉K7 N5/\C+1+4+1≠oid:=⟨fun h=>by
  have⟨x,h1,h2,P⟩:=Un h
  have:=Cd j6.new ((j6.nodes.row x h1 h2).trans (HM h2));omega,fun h=>by
  have:=Cd j6.new j6.row;omega⟩
 refine DQ (α:={ x:RS // Db G hp nx q m oid over u N s1 s2 s3 x.hp x.nx x.N/\x.hp (C+1+4+1)=Ca x.es x.ver false/\C+1+4+1∉K7 x.N/\x.n<=x.es.length/\x.n<=4294967296/\KI nw n.rank x.c (Dp x.N) (x.es.take x.n).reverse=some Pm })
  (fun x=>⟨upd 1 (.pt nx 0) (upd 8 (.so (C+1+4+1) x.1.ver 0 x.1.n) (upd 9 (.v (.int .i64 n.rank)) (upd 66 (.so oid over 0 u.length) (upd 67 (.v (.int .i64 (u.length:Int))) (upd 68 (.v (.int .i64 (k:Int))) AK))))),x.1.hp,x.1.nx⟩) (fun x=>x.1.c) ⟨⟨a2,C+1+4+3+10,N5,0,0,0,[r],1,f⟩,j7.more (fun _ _=>rfl) (by show _<=C+1+4+3+10;omega) (fun j (B:C+1+4+3+10<=j)=>j7.new j (by omega)),w7,b9.1,Lc _,by show 1<=4294967296;omega,j4⟩ ?_ ?_
 ·exact CT
 rintro⟨x,k1,k2,k3,k4,k5,z⟩;obtain⟨V,hc⟩:∃V,x.c=V+1:=by
  cases e:x.c with |zero=>rw[e] at z;cases z |succ f=>exact⟨f,rfl⟩
 rw[hc] at z;refine EZ ?_;rcases hn:x.n with _ |l
 ·have c2:(decide (((0:Nat):Int) > 0))=false:=rfl;refine Fo hn ?_;rw[hn] at z;have z:Dp x.N=Pm:=LM z;refine ZT 1 ?_;refine Z1 (Al (show k+1<4611686018427387904 by omega)) ?_;exact⟨⟨(k+1,x.hp,_,x.N),by show k+1<=u.length;omega,k1.more (fun _ _=>rfl) (by show x.nx<=x.nx+3+2;omega) (fun j (B:x.nx+3+2<=j)=>k1.new j (by omega)),by rw[<-z] at j9;exact j9⟩,CT,by show u.length-(k+1)<u.length-k;omega⟩
 have c2:(decide (((l+1:Nat):Int) > 0))=true:=Cp;have c3:(decide ((0:Int)<((l+1:Nat):Int)))=true:=Cp;refine ZT 1 ?_;refine Z1 (Y2 c2 c3) ?_;refine CS ?_;refine AT ?_;have hl:l<x.es.length:=by omega
 obtain⟨T,ch⟩:∃T,x.es[l]? =some T:=⟨_,Le hl⟩;have P:i64.wrap (((l+1:Nat):Int)-1)=(l:Int):=GV (by omega);have h4:(l<l+1)=True:=eq_true (Ls l);have h5:=Cr AH ch;have dr:(x.es.take (l+1)).reverse=T::(x.es.take l).reverse:=by
  rw[Bv,ch];simp
 rw[hn,dr] at z;unfold KI at z;have⟨pd,cp,z⟩:=AL z;rw[Js] at cp;obtain⟨p,O,rfl⟩:=La.1 cp;refine ZT 1 ?_;refine Z1 (Y5 hn P h4 h5 k2) ?_;refine AT ?_;generalize e8:upd (x.nx+3+6) _ _=ab;have cs:∀i,i<x.nx->ab i=x.hp i:=fun i U=>by rw[<-e8,Aa,Aa]
 have E:Db G hp nx q m oid over u N s1 s2 s3 ab (x.nx+3+8) x.N:=k1.more cs (by omega) fun j B=>by rw[<-e8,Aa,Aa];exact k1.new j (by omega)
 have b8:ab (x.nx+3+6)=some (F9 T):=by rw[<-e8,Ap]
 have w8:ab (C+1+4+1)=Ca x.es x.ver false:=(cs _ (Cd k1.new k2)).trans k2;have h7:(l<=l+1)=True:=eq_true (BB l);refine ZT 1 ?_;refine Z1 (Y6 hn P h4 h7 (Ob l) w8) ?_;refine AT (ZT 1 ?_);refine Z1 (Y5 E.cb E.box E.nodes.map b8 (Mf O)) ?_;refine DF (by rfl) ?_;refine Z0 ?_;refine AT (AT ?_);refine ZT 1 ?_;have wb:=Y2 E.cb (Y4 E.box E.nodes.map b8 (E.nodes.bx O));rcases a3:(p.rank != n.rank) with _ |_;rotate_left
 ·rw[show(p.toPN.rank != n.rank)=true from a3,if_pos rfl] at z;refine Z1 (Y2 a3 wb) ?_;refine AP ?_;exact⟨⟨⟨ab,_,x.N,0,0,x.ver,x.es,l,V⟩,E.more (fun _ _=>rfl) (by show x.nx+3+8<=x.nx+3+8+6+7+18;omega) (fun j (B:x.nx+3+8+6+7+18<=j)=>E.new j (by omega)),w8,k3,by show l<=x.es.length;omega,by show l<=4294967296;omega,z⟩,CT,by show V<x.c;omega⟩
 rw[show(p.toPN.rank != n.rank)=false from a3,if_neg (by simp)] at z;rcases a7:p.is with _ |_;rotate_left
 ·rw[show p.toPN.is=true from a7,if_pos rfl] at z;rw[a7] at wb;refine Z1 (Y2 a3 wb) ?_;refine AP ?_;exact⟨⟨⟨ab,_,x.N,0,0,x.ver,x.es,l,V⟩,E.more (fun _ _=>rfl) (by show x.nx+3+8<=x.nx+3+8+6+7+18;omega) (fun j (B:x.nx+3+8+6+7+18<=j)=>E.new j (by omega)),w8,k3,by show l<=x.es.length;omega,by show l<=4294967296;omega,z⟩,CT,by show V<x.c;omega⟩
 rw[show p.toPN.is=false from a7,if_neg (by simp)] at z;have⟨b,hb,k7⟩:=AL z;rw[a7] at wb;refine Z1 (Y2 a3 wb) ?_;have l2:=c9 ab (x.nx+3+8+6+7+18) q m _ x.N T b (fun j B=>E.new j (by omega)) E.box E.nodes hb;refine CR (AU.mono l2 fun v dS ad hv=> ?_);obtain⟨rfl,be,l1⟩:=hv;have be:=be.symm;subst be;have l1:x.nx+3+8+6+7+18<=ad:=l1;have z:=k7;rcases b with _ |_
 ·rw[if_neg (by simp)] at z;refine Fc ?_;exact⟨⟨⟨ab,_,x.N,0,0,x.ver,x.es,l,V⟩,E.more (fun _ _=>rfl) (by show x.nx+3+8<=ad;omega) (fun j (B:ad<=j)=>E.new j (by omega)),w8,k3,by show l<=x.es.length;omega,by show l<=4294967296;omega,z⟩,CT,by show V<x.c;omega⟩
 rw[if_pos rfl] at z;split at z;rotate_left
 ·cases z
 rename_i a6;refine Fc ?_;refine AT (ZT 1 ?_);refine Z1 wb ?_;generalize av:upd p.id _ _=a4;have a8:=E.nodes.bx O;have nm:=(Me O).1;have cx:Db G hp nx q m oid over u N s1 s2 s3 a4 (ad+4) (EW T { p with is:=true } x.N):=by
  refine E.set O rfl rfl (fun i q1 q2 q3=>by rw[<-av,Ai _ _ q2]) (by rw[<-av,Ap];rfl) (fun h=> ?_) (fun h=>.inl ⟨h,rfl⟩) (by omega) fun j B=> ?_
  ·have ag:=E.nodes.row p nm h;rw[<-av];show upd p.id _ ab p.rid=A6 3 p.ver false (p.above.map AH);rw[Ai _ _ (GW (ag.trans (HM h)) a8 fun e=>by cases e)];exact ag
  have:=Cd E.new a8;rw[<-av,Aa];exact E.new j (by omega)
 have cN:a4 (C+1+4+1)=Ca x.es x.ver false:=by
  rw[<-av,Ai _ _ (GW w8 a8 fun e=>by cases e)];exact w8
 have c4:C+1+4+1∉K7 (EW T { p with is:=true } x.N):=fun h=>by
  have⟨y,h1,h2,P⟩:=Un h;rcases Uo h1 with⟨J,_⟩ |⟨hy,_⟩
  ·rw[J] at h2 P;exact k3 (P▸So (n:=p) nm h2)
  exact k3 (P▸So hy h2)
 have c5:a4 p.id=some (.bx [.v (.int .i64 p.rank),.d (.sl (p.deps.map AH)) false,Ac p.rid p.ver (p.above.map AH),.v (.bool true)]):=by rw[<-av,Ap]
 obtain⟨K,eo,aE⟩:∃K,Ac p.rid p.ver (p.above.map AH)=Ac K p.ver (p.above.map AH)/\a4 K=A6 3 p.ver false (p.above.map AH):=by
  rcases ar:p.above with _ |⟨n1,N1⟩
  ·exact⟨ad+1000,rfl,cx.new _ (by omega)⟩
  rw[<-ar];have X:p.above≠[]:=by rw[ar];exact fun h=>by cases h
  have ag:=E.nodes.row p nm X;refine⟨p.rid,rfl,?_⟩;rw[<-av,Ai _ _ (GW (ag.trans (HM X)) a8 fun e=>by cases e)];exact ag
 rw[eo] at c5;have ds:EX 3 (p.above.map AH)=true:=Hk (f:=AH) (fun _=>rfl) _;refine ZT 1 ?_;refine Z1 (And.intro c5 (And.intro aE (And.intro cN (And.intro (show(l<=x.es.length)=True from Fu) (And.intro ds (show(l+p.above.length<=4294967296)=True from eq_true (by
  have:(x.es.take l).reverse.length+p.above.length<=4294967296:=a6;rw[Bl,LC] at this;omega))))))) ?_
 have bg:(x.es.take l).length=l:=by rw[LC];omega
 have dt:l+p.above.length<=4294967296:=by
  have:(x.es.take l).reverse.length+p.above.length<=4294967296:=a6;rw[Bl,bg] at this;exact this
 generalize c6:upd (C+1+4+1) _ a4=bl;have dw:bl (C+1+4+1)=Ca (x.es.take l++p.above) (x.ver+1) false:=by
  rw[<-c6,Ap,Ca,Nc,N8]
 have c7:Db G hp nx q m oid over u N s1 s2 s3 bl (ad+4) (EW T { p with is:=true } x.N):=by
  rw[<-c6];exact cx.updRow cN c4 b9.2 (by have:=j2.nxs;omega)
 have pu:Dp (EW T { p with is:=true } x.N)=JH T (Dp x.N):=fu (n:=p) (g:=fun x=>{ x with is:=true }) rfl fun y hy e=>aM E.nodes.keys hy nm (e.trans (Me O).2.symm);refine⟨⟨⟨bl,_,EW T { p with is:=true } x.N,0,0,x.ver+1,x.es.take l++p.above,l+p.above.length,V⟩,c7.more (fun _ _=>rfl) (by show ad+4<=ad+4+7;omega) (fun j (B:ad+4+7<=j)=>c7.new j (by omega)),dw,c4,?_,dt,?_⟩,CT,by show V<x.c;omega⟩
 ·show l+p.above.length<=(x.es.take l++p.above).length;rw[Ld,bg];exact Lc _
 show KI nw n.rank V (Dp (EW T _ x.N)) (List.take (l+p.above.length) (x.es.take l++p.above)).reverse=some Pm;rw[ND (by rw[Ld,bg];exact Lc _),If,pu];exact z
end Go.Proofs.YtnmkbmefohakmaaGreat.Ab
