/-
 The types of any text; schemas; what is told where a schema does not hold together.
-/
import Derived.Test.YtnmkbmefohakmaaGreatSku
set_option linter.all false
namespace Go.Proofs.YtnmkbmefohakmaaGreat.Ab
open Go.RowKit
section
variable {α:Type}{rk:α->Int}{lt:α->α->Bool}(hlt:∀x y,lt x y=decide (rk x<rk y))
include hlt in
theorem qG {P:List α}:∀(j f:Nat) (A:List α) (x:α) (C:List α),A.length=j->(A.Pairwise fun a b=>rk a<=rk b)->j<f->∃B,JF lt f (P++(A++x::C)) P.length (P.length+j)=some (P++(B++C))/\B.Perm (A++[x])/\(B.Pairwise fun a b=>rk a<=rk b)
 |_,0,_,_,_,_,_,h=>absurd h (LN _)
 |0,f+1,A,x,C,d,k,_=>by
  have:A= []:=Bb.1 d;subst this;refine⟨[x],?_,.refl _,BH _ _⟩;show JF lt (f+1) _ _ P.length=_;cases P with
  |nil=>rfl
  |cons p P=>
   rw[Lh];unfold JF;rw[if_neg (Nat.lt_irrefl _)];rfl
 |j+1,f+1,A,x,C,d,k,v=>by
  obtain⟨c,y,rfl⟩:∃c y,A=c++[y]:=⟨A.dropLast,A.getLast (fun e=>by rw[e] at d;cases d),(Bn _).symm⟩;have g:c.length=j:=by simpa using d
  rw[Nz] at k;obtain⟨l,_,m⟩:=k;have q:P++((c++[y])++x::C)=(P++c++[y])++x::C:=by simp
  have o:(P++c++[y])++x::C=(P++c)++y::(x::C):=by simp
  have r:(P++c++[y])++y::C=(P++c)++y::(y::C):=by simp
  show ∃B,JF lt (f+1) _ P.length (P.length+j+1)=_/\_;unfold JF;rw[ifp,q,Qn (by simp[g];omega),Zo,o,Qn (by simp[g]),Zo,hlt,<-o];by_cases h:rk x<rk y
  ·rw[if_pos (by simpa using h),Qo (by simp[g];omega),r,Qo (by simp[g]),show P++c++x::y::C=P++(c++x::(y::C)) by simp];obtain⟨B,s,t,w⟩:=qG j f c x (y::C) g l (by omega);refine⟨B++[y],by rw[s];simp,?_,?_⟩
   ·refine(t.append_right [y]).trans ?_;rw[Lq,Lq];exact O1 c (List.Perm.swap y x [])
   grind
  rw[if_neg (by simpa using h)];refine⟨(c++[y])++[x],by simp,.refl _,?_⟩;rw[Nz];refine⟨Nz.2 ⟨l,BH _ _,m⟩,BH _ _,fun a i b u=> ?_⟩;rw[Lt.1 u];rcases Ly.1 i with i |i
  ·have:=m a i y (Lt.2 rfl);omega
  grind
include hlt in
theorem qH {P Z:List α}:∀(C A:List α) (f:Nat),(A.Pairwise fun a b=>rk a<=rk b)->A.length+2*C.length<f->∃B,Jv lt f (P++(A++(C++Z))) P.length (P.length+A.length) (P.length+A.length+C.length)=some (P++(B++Z))/\B.Perm (A++C)/\(B.Pairwise fun a b=>rk a<=rk b)
 |_,_,0,_,h=>absurd h (LN _)
 |[],A,f+1,c,_=>by
  refine⟨A,?_,by simp,c⟩;unfold Jv;rw[if_neg (by simp),LA]
 |x::C,A,f+1,c,e=>by
  simp only[Lh] at e;have⟨B,l,d,g⟩:=qG (P:=P) hlt A.length (f+1) A x (C++Z) rfl c (by omega);have m:B.length=A.length+1:=by rw[d.length_eq,Ld];rfl
  have⟨i,o,j,k⟩:=qH (P:=P) (Z:=Z) C B f g (by omega);refine⟨i,?_,j.trans ((d.append_right C).trans (by simp)),k⟩;unfold Jv;grind
include hlt in
theorem qI {P C Z:List α}{f:Nat}(c:2*C.length+1<f):∃B,Jv lt f (P++(C++Z)) P.length (P.length+1) (P.length+C.length)=some (P++(B++Z))/\B.Perm C/\(B.Pairwise fun a b=>rk a<=rk b):=by
 cases C with
 |nil=>
  obtain⟨f,rfl⟩:=sx f;refine⟨[],?_,.refl _,List.Pairwise.nil⟩;unfold Jv;rw[if_neg (by simp)]
 |cons x C=>
  simp only[Lh] at c
  have:=qH (P:=P) (Z:=Z) hlt C [x] f (BH _ _) (by simp only[Ll];omega);rw[Ll,show P.length+1+C.length=P.length+(C.length+1) by omega] at this;exact this
inductive Jy (rk:α->Int) (bs:Nat):List α->Prop
 |last {T:List α} (h:T.length<=bs) (hT:T.Pairwise fun a b=>rk a<=rk b):Jy rk bs T
 |cons {B Q:List α} (h:B.length=bs) (hB:B.Pairwise fun a b=>rk a<=rk b) (hQ:Jy rk bs Q):Jy rk bs (B++Q)
theorem Jy.front {c:Nat}{Q:List α}(h:Jy rk c Q)(i:c<=Q.length):∃B d,Q=B++d/\B.length=c/\(B.Pairwise fun a b=>rk a<=rk b)/\Jy rk c d:=by
 cases h with
 |last h e=>exact⟨Q,[],by simp,by omega,e,.last (Lg _) List.Pairwise.nil⟩
 |cons h f g=>exact⟨_,_,rfl,h,f,g⟩
theorem Jy.small {c:Nat}{Q:List α}(h:Jy rk c Q)(e:Q.length<=c):Q.Pairwise fun a b=>rk a<=rk b:=by
 cases h with
 |last h d=>exact d
 |cons h f g=>
  grind [List.length_append,List.length_eq_zero_iff]
include hlt in
theorem qJ {F:Nat}:∀(c:Nat) (P Q:List α),Q.length<c->41<F->∃Q1 d,HN lt F c (P++Q) P.length (P.length+20)=some (P++(Q1++d),P.length+Q1.length)/\(Q1++d).Perm Q/\d.length<20/\∀T:List α,T.length<=20->(T.Pairwise fun a b=>rk a<=rk b)->Jy rk 20 (Q1++T)
 |0,_,_,h,_=>absurd h (LN _)
 |c+1,P,Q,t,o=>by
  unfold HN;rw[Ld];by_cases h:P.length+20<=P.length+Q.length
  ·rw[if_pos h];have j:(Q.take 20).length=20:=(by rw[LC];omega);have⟨B,k,l,p⟩:=qI (P:=P) (C:=Q.take 20) (Z:=Q.drop 20) (f:=F) hlt (by omega);rw[LK,j] at k;have e:B.length=20:=(by rw[l.length_eq,j]);have⟨Q1,d,m,q,r,s⟩:=qJ (F:=F) c (P++B) (Q.drop 20) (by rw[Nv];omega) o;rw[Ld,e,Lq] at m;refine⟨B++Q1,d,?_,?_,r,fun T g i=>by rw[Lq];exact .cons e p (s T g i)⟩
   ·rw[k,Zo,m,Ld,e];grind
   rw[Lq];refine(l.append q).trans ?_;rw[LK]
  rw[if_neg h];exact⟨[],Q,by simp,.refl _,by omega,fun T g i=>.last g i⟩
include hlt in
theorem qK {F d:Nat}(o:0<d):∀(c:Nat) (P Q:List α),Jy rk d Q->Q.length<c->Q.length<=F->∃Q1 e,HO lt F d c (P++Q) P.length (P.length+2*d)=some (P++(Q1++e),P.length+Q1.length)/\(Q1++e).Perm Q/\e.length<2*d/\Jy rk d e/\∀T:List α,T.length<=2*d->(T.Pairwise fun a b=>rk a<=rk b)->Jy rk (2*d) (Q1++T)
 |0,_,_,_,h,_=>absurd h (LN _)
 |c+1,P,Q,i,j,k=>by
  unfold HO;rw[Ld];by_cases h:P.length+2*d<=P.length+Q.length
  ·rw[if_pos h];obtain⟨p,K,rfl,q,r,s⟩:=i.front (by omega);rw[Ld] at h j k;obtain⟨t,l,rfl,u,v,w⟩:=s.front (by omega);rw[Ld] at h j k;have⟨B,z,A,C⟩:=aX hlt F P p t l (by omega) (by omega) (by omega) r v;have m:B.length=2*d:=(by rw[A.length_eq,Ld];omega);rw[q,u,show P.length+d+d=P.length+2*d by omega] at z;have⟨Q1,e,E,L,H,I,J⟩:=qK (F:=F) o c (P++B) l w (by omega) (by omega);rw[Ld,m,Lq] at E;refine⟨B++Q1,e,?_,?_,H,I,fun T f g=>by rw[Lq];exact .cons m C (J T f g)⟩
   ·grind
   grind
  rw[if_neg h];exact⟨[],Q,by simp,.refl _,by omega,i,fun T f g=>.last f g⟩
include hlt in
theorem qL {F:Nat}:∀(c e:Nat) (d:List α),0<e->Jy rk e d->d.length-e<c->d.length<=F->∃g,HP lt F c d e=some g/\g.Perm d/\(g.Pairwise fun a b=>rk a<=rk b)
 |0,_,_,_,_,h,_=>absurd h (LN _)
 |c+1,e,d,o,i,E,p=>by
  unfold HP;by_cases h:e<d.length
  ·rw[if_pos h];have⟨Q1,f,j,k,q,l,H⟩:=qK (F:=F) hlt o (d.length+1) [] d i (by omega) p;simp only[LA,Lu,NE] at j;have r:Q1.length+f.length=d.length:=(by rw[<-k.length_eq,Ld]);rw[j,Zo];dsimp only;rw[Ld];obtain⟨T,s,m,I⟩:∃T,(if Q1.length+e<Q1.length+f.length then symM lt F (Q1++f) Q1.length (Q1.length+e) (Q1.length+f.length) else some (Q1++f))=some (Q1++T)/\T.Perm f/\(T.Pairwise fun a b=>rk a<=rk b):=by
    split
    ·obtain⟨B,t,rfl,J,u,v⟩:=l.front (by omega);rw[Ld] at q r;rename_i w;rw[Ld] at w;have⟨T,K,L,M⟩:=aX hlt F Q1 B t [] (by omega) (by omega) (by omega) u (v.small (by omega));simp_all [LX,Ld,Ny]
    exact⟨f,rfl,.refl _,l.small (by omega)⟩
   rw[s,Zo];have N:=m.length_eq;have⟨g,z,A,C⟩:=qL (F:=F) c (e*2) (Q1++T) (by omega) (by grind) (by rw[Ld];omega) (by rw[Ld];omega);exact⟨g,z,A.trans ((m.append_left Q1).trans k),C⟩
  rw[if_neg h];exact⟨d,rfl,.refl _,i.small (by omega)⟩
include hlt in
theorem qM {F:Nat}(xs:List α)(p:xs.length<=F)(h:41<F):∃c,HQ lt F xs=some c/\c.Perm xs/\(c.Pairwise fun a b=>rk a<=rk b):=by
 have⟨Q1,d,i,e,q,j⟩:=qJ (F:=F) hlt (xs.length+1) [] xs (by omega) h;simp only[LA,Lu,NE] at i;have r:Q1.length+d.length=xs.length:=by rw[<-e.length_eq,Ld]
 have⟨T,k,g,l⟩:=qI (P:=Q1) (C:=d) (Z:=[]) (f:=F) hlt (by omega);rw[LX,LX] at k;have s:=g.length_eq;have⟨c,t,m,o⟩:=qL (F:=F) hlt (xs.length+1) 20 (Q1++T) (by omega) (j T (by omega) l) (by rw[Ld];omega) (by rw[Ld];omega);refine⟨c,?_,m.trans ((g.append_left Q1).trans e),o⟩;unfold HQ;grind
end
def Ur (n:Nat)(G:AY)(ob:Ak)(N:List PN)(x:AS)(a:List Bool):Option (Option (List Bool)):=if x.kind==1||x.kind==2 then(Sm n G ob x).bind fun l=>if l.all (fun d=>(C9 d N).isSome)&&decide (l.length<4294967296)&&decide (a.length<4294967296) then some (some (a++[l.any (fun d=>((C9 d N).map (·.is)).getD false)])) else none else if a.length<2 then some none else some (some (a.take (a.length-2)++[if x.kind==3 then a.getD (a.length-2) false||a.getD (a.length-1) false else if x.kind==5 then a.getD (a.length-2) false&&a.getD (a.length-1) false else a.getD (a.length-2) false&& !a.getD (a.length-1) false]))
def JM (n:Nat)(G:AY)(ob:Ak)(N:List PN):List AS->List Bool->Option Bool
  |[],a=>some (a.length==1&&a.getD 0 false)
  |x::l,a=>(Ur n G ob N x a).bind fun r=>match r with
    |none=>some false
    |some a=>JM n G ob N l a
structure TS where
  k:Nat
  hp:Hp
  nx:Nat
  st:List Bool
  rid:Nat
  ver:Nat
  es:List Bool
structure gE (n:Nat) (G:AY) (ob:Ak) (N:List PN) (l:List AS) (hp0:Hp) (nx0:Nat) (r:Bool) (x:TS):Prop where
  new:∀j,x.nx<=j->x.hp j=none
  old:∀i,i<nx0->x.hp i=hp0 i
  ob_:x.hp nx0=some (.bx [.v (.string ob.type_),.v (.string ob.id_)])
  row:x.st≠[]->x.hp x.rid=some (.rw (x.es.map eB) 1 x.ver false false)/\x.es.take x.st.length=x.st/\x.st.length<=x.es.length/\nx0<x.rid
  le:x.k<=l.length
  nxs:nx0<x.nx
  small:x.st.length<=4294967296
  mod:JM n G ob N (l.drop x.k) x.st=some r
variable {G:AY}{n:Nat}
set_option maxRecDepth 4000 in
theorem zY {hp:Hp}{nx q m:Nat}{ob:Ak}{l:List AS}{bl r:Bool}{s1 s2 s3 o vo:AV}{N:List Nd}(hf:∀j,nx<=j->hp j=none)
    (hq:hp q=some (.bx [.d (.pt (A7 G) 0) true,s1,s2,s3,.mo m,o])) (hN:DJ hp m N) (bg:Dv vo=some [.v (.string ob.type_),.v (.string ob.id_)]) (hl:l.length<4611686018427387904) (hr:JM n G ob (Dp N) l []=some r):
    AU Tryz.prog 126 [.pt q 0,vo,.d (.sl (l.map AX)) bl] hp nx fun v O bo=>v= .v (.bool r)/\O=hp/\nx<=bo:=by
  refine zq Tryz.func126 ?_;refine AT (ZT 1 ?_);refine Cw bg ?_;refine Z0 ?_;refine EZ ?_;refine CS ?_;refine DQ (α:={ x:TS // gE n G ob (Dp N) l hp nx r x }) (fun x=>⟨upd 0 (.pt q 0) (upd 4 (.pt nx 0) (upd 7 (Ac x.1.rid x.1.ver (x.1.st.map eB)) (upd 13 (.d (.sl (l.map AX)) bl) (upd 14 (.v (.int .i64 (l.length:Int))) (upd 15 (.v (.int .i64 (x.1.k:Int))) AK))))),x.1.hp,x.1.nx⟩) (fun x=>l.length-x.1.k)
    ⟨⟨0,upd nx (some (.bx [.v (.string ob.type_),.v (.string ob.id_)])) hp,nx+2+1+3,[],0,0,[]⟩,?_⟩ ?_ ?_
  · exact{
            new:=fun j u=>by
              grind [upd,Aa]
            old:=fun i E=>Aa
            ob_:=Ap ..
            row:=fun h=>absurd rfl h
            le:=Lg _
            nxs:=by show nx<nx+2+1+3;omega
            small:=Lg _
            mod:=hr }
  · exact CT
  · rintro⟨x,h⟩
    have a4:x.hp q=some (.bx [.d (.pt (A7 G) 0) true,s1,s2,s3,.mo m,o]):=(h.old _ (Cd hf hq)).trans hq;have ag:DJ x.hp m N:=hN.more (h.old _ (Cd hf hN.map)) (fun U V=>h.old _ (Cd hf (hN.box U V))) fun U V ha=>h.old _ (Cd hf ((hN.row U V ha).trans (HM ha)));have a:=h.mod;refine AT (ZT 1 ?_);by_cases X:x.k<l.length
    · have c1:(decide ((x.k:Int)<(l.length:Int)))=true:=Cp
      refine Cw c1 ?_;refine Z0 ?_;refine AT (CS ?_);refine AT ?_;obtain⟨g,hg⟩:∃g,l[x.k]? =some g:=⟨_,Le X⟩;rw[Lm X,show l[x.k]=g from(Lb.1 hg).2] at a;unfold JM at a;have⟨b1,z,a⟩:=AL a;refine ZT 1 ?_;refine Z1 (Cr AX hg) ?_;generalize e1:(upd (x.nx+1+2) (some _) _:Hp)=F;have Y:∀i,i<x.nx->F i=x.hp i:=fun i E=>(by rw[<-e1,Aa,Aa]);have P:∀j,x.nx+1+4<=j->F j=none:=fun j u=>(by rw[<-e1,Aa,Aa];exact h.new j (by omega));have I:F (x.nx+1+2)=some (.bx [.v (.int .i64 g.kind),.v (.string g.a),.v (.string g.b)]):=(by rw[<-e1,Ap]);have Q:F nx=some (.bx [.v (.string ob.type_),.v (.string ob.id_)]):=(Y _ h.nxs).trans h.ob_;have q1:F q=some (.bx [.d (.pt (A7 G) 0) true,s1,s2,s3,.mo m,o]):=(Y _ (Cd h.new a4)).trans a4
      have N1:DJ F m N:=ag.more (Y _ (Cd h.new ag.map)) (fun U V=>Y _ (Cd h.new (ag.box U V))) fun U V ha=>Y _ (Cd h.new ((ag.row U V ha).trans (HM ha)));have Z:∀i,i<nx->F i=hp i:=fun i E=>(Y i (by have:=h.nxs;omega)).trans (h.old i E)
      have k:(x.st= []/\Ac x.rid x.ver (x.st.map eB)= .v (.slice none 0 0))\/(x.st≠[]/\Ac x.rid x.ver (x.st.map eB)= .so x.rid x.ver 0 x.st.length/\F x.rid=some (.rw (x.es.map eB) 1 x.ver false false)):=by
        by_cases w:x.st= []
        · exact .inl ⟨w,by rw[w];rfl⟩
        · have hr:=(h.row w).1
          exact .inr ⟨w,KC (NA.2 w),(Y _ (Cd h.new hr)).trans hr⟩
      by_cases R:(g.kind==1||g.kind==2)=true
      · unfold Ur at z
        rw[if_pos R] at z;have⟨H,hd,z⟩:=AL z;split at z;rotate_left
        · cases z
        rename_i ak;rw[Ln,Ln,LP] at ak;cases z;have a:JM n G ob (Dp N) (l.drop (x.k+1)) (x.st++[H.any fun d=>((C9 d (Dp N)).map (·.is)).getD false])=some r:=a;have ao:Fx F (F8 N) (fun r=>((C9 r (Dp N)).map (·.is)).getD false) H:=N1.at_ fun d hd=>by
          have:=ak.1.1 d hd;rw[Js] at this;simpa using this
        have ap:H.length<4611686018427387904:=by
          have:=of_decide_eq_true ak.1.2;omega
        have b2:x.st.length<4294967296:=of_decide_eq_true ak.2;rcases k with⟨w,k⟩ |⟨w,k,ab⟩
        · refine AT (ZT 1 ?_)
          refine Z1 k ?_;refine AT (AT ?_);refine ZT 1 ?_;rcases K:(g.kind==1) with _ |_
          · have aa:(g.kind==2)=true:=by rw[K,Be] at R;exact R
            refine Z1 (Y3 I K aa) ?_;refine ET (c:=true) rfl rfl ?_;refine ZT 1 ?_;refine Z1 (Y3 k I Q) ?_;have⟨A,k1,k2⟩:=aK (nx:=x.nx+1+4+3+8+8) (n:=n) (ob:=ob) (x:=g) (vo:=.ag [.v (.string ob.type_),.v (.string ob.id_)]) (vx:=.ag [.v (.int .i64 g.kind),.v (.string g.a),.v (.string g.b)]) (fun j u=>P j (by omega)) q1 N1.map hd ao ap rfl rfl;refine CR (AU.mono k2 fun v ar av hv=> ?_);obtain⟨rfl,B,C⟩:=hv;have B:=B.symm;subst B;have C:=C.symm;subst C;refine Z1 (Y2 k trivial) ?_;refine ZT 1 ?_;refine Z1 (Al (n:=x.k)) ?_;generalize e:(upd (x.nx+1+4+3+8+6) (some _) _:Hp)=b;refine⟨⟨⟨x.k+1,b,_,[H.any fun d=>((C9 d (Dp N)).map (·.is)).getD false],x.nx+1+4+3+8+6,0,[H.any fun d=>((C9 d (Dp N)).map (·.is)).getD false]⟩,?_⟩,CT,by show l.length-(x.k+1)<l.length-x.k;omega⟩;have aE:x.nx+1+4+3+8+8<=A:=k1;exact{
                    new:=fun j u=>by
                      have u:A+2<=j:=u;show b j=none;rw[<-e,Aa,Aa];exact P j (by omega)
                    old:=fun i E=>by
                      have:=h.nxs;show b i=hp i;rw[<-e,Aa,Aa];exact Z i E
                    ob_:=by
                      have:=h.nxs;show b nx=_;rw[<-e,Aa,Aa];exact Q
                    row:=fun _=>⟨by show b (x.nx+1+4+3+8+6)=_;rw[<-e,Ap];rfl,rfl,Lc _,by grind⟩
                    le:=X
                    nxs:=by have:=h.nxs;show nx<A+2;omega
                    small:=by show 1<=4294967296;omega
                    mod:=by rw[w] at a;exact a }
          · refine Z1 (Y2 I K) ?_
            refine ET (c:=true) rfl rfl ?_;refine ZT 1 ?_;refine Z1 (Y3 k I Q) ?_;have⟨A,k1,k2⟩:=aK (nx:=x.nx+1+4+3+8+8) (n:=n) (ob:=ob) (x:=g) (vo:=.ag [.v (.string ob.type_),.v (.string ob.id_)]) (vx:=.ag [.v (.int .i64 g.kind),.v (.string g.a),.v (.string g.b)]) (fun j u=>P j (by omega)) q1 N1.map hd ao ap rfl rfl;refine CR (AU.mono k2 fun v ar av hv=> ?_);obtain⟨rfl,B,C⟩:=hv;have B:=B.symm;subst B;have C:=C.symm;subst C;refine Z1 (Y2 k trivial) ?_;refine ZT 1 ?_;refine Z1 (Al (n:=x.k)) ?_;generalize e:(upd (x.nx+1+4+3+8+6) (some _) _:Hp)=b;refine⟨⟨⟨x.k+1,b,_,[H.any fun d=>((C9 d (Dp N)).map (·.is)).getD false],x.nx+1+4+3+8+6,0,[H.any fun d=>((C9 d (Dp N)).map (·.is)).getD false]⟩,?_⟩,CT,by show l.length-(x.k+1)<l.length-x.k;omega⟩;have aE:x.nx+1+4+3+8+8<=A:=k1;exact{
                    new:=fun j u=>by
                      have u:A+2<=j:=u;show b j=none;rw[<-e,Aa,Aa];exact P j (by omega)
                    old:=fun i E=>by
                      have:=h.nxs;show b i=hp i;rw[<-e,Aa,Aa];exact Z i E
                    ob_:=by
                      have:=h.nxs;show b nx=_;rw[<-e,Aa,Aa];exact Q
                    row:=fun _=>⟨by show b (x.nx+1+4+3+8+6)=_;rw[<-e,Ap];rfl,rfl,Lc _,by grind⟩
                    le:=X
                    nxs:=by have:=h.nxs;show nx<A+2;omega
                    small:=by show 1<=4294967296;omega
                    mod:=by rw[w] at a;exact a }
        · have s:=h.row w
          have hlt:(x.st.length<=x.es.length)=True:=eq_true s.2.2.1;have a5:(x.st.length+1<=4294967296)=True:=Fu;have a6:(x.rid=x.nx+1+4+3+8+5)=False:=eq_false (by have:=Cd h.new s.1;omega);have a7:EX 1 [[D.v (.bool (H.any fun d=>((C9 d (Dp N)).map (·.is)).getD false))]]=true:=rfl;refine AT (ZT 1 ?_);refine Z1 k ?_;refine AT (AT ?_);refine ZT 1 ?_;rcases K:(g.kind==1) with _ |_
          · have aa:(g.kind==2)=true:=by rw[K,Be] at R;exact R
            refine Z1 (Y3 I K aa) ?_;refine ET (c:=true) rfl rfl ?_;refine ZT 1 ?_;refine Z1 (Y3 k I Q) ?_;have⟨A,k1,k2⟩:=aK (nx:=x.nx+1+4+3+8+8) (n:=n) (ob:=ob) (x:=g) (vo:=.ag [.v (.string ob.type_),.v (.string ob.id_)]) (vx:=.ag [.v (.int .i64 g.kind),.v (.string g.a),.v (.string g.b)]) (fun j u=>P j (by omega)) q1 N1.map hd ao ap rfl rfl;refine CR (AU.mono k2 fun v ar av hv=> ?_);obtain⟨rfl,B,C⟩:=hv;have B:=B.symm;subst B;have C:=C.symm;subst C;refine Z1 (Y6 k ab hlt a5 a7 a6) ?_;refine ZT 1 ?_;refine Z1 (Al (n:=x.k)) ?_;generalize e:(upd x.rid (some _) _:Hp)=b;have aE:x.nx+1+4+3+8+8<=A:=k1;have a8:=Cd h.new s.1;have a0:(x.es.take x.st.length).length=x.st.length:=(by rw[LC];omega);refine⟨⟨⟨x.k+1,b,_,x.st++[H.any fun d=>((C9 d (Dp N)).map (·.is)).getD false],x.rid,x.ver+1,x.es.take x.st.length++[H.any fun d=>((C9 d (Dp N)).map (·.is)).getD false]⟩,?_⟩,Mg (DE rfl (DE rfl (DE (by rw[KC (by simp)];simp;rfl) DS))),by show l.length-(x.k+1)<l.length-x.k;omega⟩;exact{
                    new:=fun j u=>by
                      have u:A+2<=j:=u;show b j=none;rw[<-e,Aa,Aa];exact P j (by omega)
                    old:=fun i E=>by
                      have:=h.nxs
                      have:=s.2.2.2;show b i=hp i;rw[<-e,Aa,Aa];exact Z i E
                    ob_:=by
                      have:=h.nxs
                      have:=s.2.2.2;show b nx=_;rw[<-e,Aa,Aa];exact Q
                    row:=fun _=>⟨by show b x.rid=_;rw[<-e,Ap,Nc,N8];rfl,by grind,by grind,s.2.2.2⟩
                    le:=X
                    nxs:=by have:=h.nxs;show nx<A+2;omega
                    small:=by grind
                    mod:=a }
          · refine Z1 (Y2 I K) ?_
            refine ET (c:=true) rfl rfl ?_;refine ZT 1 ?_;refine Z1 (Y3 k I Q) ?_;have⟨A,k1,k2⟩:=aK (nx:=x.nx+1+4+3+8+8) (n:=n) (ob:=ob) (x:=g) (vo:=.ag [.v (.string ob.type_),.v (.string ob.id_)]) (vx:=.ag [.v (.int .i64 g.kind),.v (.string g.a),.v (.string g.b)]) (fun j u=>P j (by omega)) q1 N1.map hd ao ap rfl rfl;refine CR (AU.mono k2 fun v ar av hv=> ?_);obtain⟨rfl,B,C⟩:=hv;have B:=B.symm;subst B;have C:=C.symm;subst C;refine Z1 (Y6 k ab hlt a5 a7 a6) ?_;refine ZT 1 ?_;refine Z1 (Al (n:=x.k)) ?_;generalize e:(upd x.rid (some _) _:Hp)=b;have aE:x.nx+1+4+3+8+8<=A:=k1;have a8:=Cd h.new s.1;have a0:(x.es.take x.st.length).length=x.st.length:=(by rw[LC];omega);refine⟨⟨⟨x.k+1,b,_,x.st++[H.any fun d=>((C9 d (Dp N)).map (·.is)).getD false],x.rid,x.ver+1,x.es.take x.st.length++[H.any fun d=>((C9 d (Dp N)).map (·.is)).getD false]⟩,?_⟩,Mg (DE rfl (DE rfl (DE (by rw[KC (by simp)];simp;rfl) DS))),by show l.length-(x.k+1)<l.length-x.k;omega⟩;exact{
                    new:=fun j u=>by
                      have u:A+2<=j:=u;show b j=none;rw[<-e,Aa,Aa];exact P j (by omega)
                    old:=fun i E=>by
                      have:=h.nxs
                      have:=s.2.2.2;show b i=hp i;rw[<-e,Aa,Aa];exact Z i E
                    ob_:=by
                      have:=h.nxs
                      have:=s.2.2.2;show b nx=_;rw[<-e,Aa,Aa];exact Q
                    row:=fun _=>⟨by show b x.rid=_;rw[<-e,Ap,Nc,N8];rfl,by grind,by grind,s.2.2.2⟩
                    le:=X
                    nxs:=by have:=h.nxs;show nx<A+2;omega
                    small:=by grind
                    mod:=a }
      · have K:(g.kind==1)=false:=by
          cases L:(g.kind==1) with |false=>rfl |true=>exact absurd (by rw[L];rfl) R
        have aa:(g.kind==2)=false:=by
          cases L:(g.kind==2) with |false=>rfl |true=>exact absurd (by rw[L,Ik]) R
        unfold Ur at z;rw[if_neg R] at z;have a9:∀O:Hp,(∀i,i<nx->O i=hp i)->Gi hp O:=fun O h2=>⟨fun i=>by
          grind⟩
        rcases k with⟨w,k⟩ |⟨w,k,ab⟩
        · rw[w,if_pos (by decide)] at z
          cases z;cases a;refine AT (ZT 1 ?_);refine Z1 k ?_;refine AT (AT ?_);refine ZT 1 ?_;refine Z1 (Y3 I K aa) ?_;refine DN (c:=false) rfl rfl ?_;refine AP ?_;refine EZ ?_;refine ET (c:=true) rfl rfl ?_;refine AP ?_;exact⟨_,hp,rfl,a9 _ Z,rfl,rfl,by grind⟩
        · refine AT (ZT 1 ?_)
          refine Z1 k ?_;refine AT (AT ?_);refine ZT 1 ?_;refine Z1 (Y3 I K aa) ?_;refine DN (c:=false) rfl rfl ?_;refine AP ?_;refine AT (AT ?_);refine ZT 1 ?_;by_cases h2:x.st.length<2
          · rw[if_pos h2] at z
            cases z;cases a;have c2:(decide ((x.st.length:Int)<2))=true:=Cp;refine Z1 c2 ?_;refine ET (c:=true) rfl rfl ?_;refine AP ?_;exact⟨_,hp,rfl,a9 _ Z,rfl,rfl,by grind⟩
          · rw[if_neg h2] at z
            cases z;have c2:(decide ((x.st.length:Int)<2))=false:=C6;refine Z1 c2 ?_;refine DN (c:=false) rfl rfl ?_;refine AP ?_;have s:=h.row w;obtain⟨p,O⟩:∃p,x.st.length=p+2:=⟨x.st.length-2,by omega⟩;have ba:∀j,j<x.st.length->x.es[j]? =some (x.st.getD j false):=fun j u=>by
              grind
            obtain⟨S,bb⟩:∃S,S=x.st.getD p false:=⟨_,rfl⟩;obtain⟨T,bd⟩:∃T,T=x.st.getD (p+1) false:=⟨_,rfl⟩;have ea:=ba p (by omega);have eb:=ba (p+1) (by omega);have a:JM n G ob (Dp N) (l.drop (x.k+1)) (x.st.take (x.st.length-2)++[if g.kind==3 then x.st.getD (x.st.length-2) false||x.st.getD (x.st.length-1) false else if g.kind==5 then x.st.getD (x.st.length-2) false&&x.st.getD (x.st.length-1) false else x.st.getD (x.st.length-2) false&& !x.st.getD (x.st.length-1) false])=some r:=a;have w2:IntKind.i64.wrap (((p+2:Nat):Int)-2)=(p:Int):=by
              rw[show(((p+2:Nat):Int)-2)=(p:Int) by omega];exact JG (by have:=h.small;omega)
            have w1:IntKind.i64.wrap (((p+2:Nat):Int)-1)=((p+1:Nat):Int):=GV (n:=p+1) (by have:=h.small;omega);rw[O] at a;rw[show p+2-2=p by omega,show p+2-1=p+1 by omega,<-bb,<-bd] at a;rw[<-bb] at ea;rw[<-bd] at eb;refine AT (ZT 1 ?_);refine Z1 (Y2 (Y6 O w2 w1 ab (Cr eB ea) (Cr eB eb)) (Y2 (show(p<p+2)=True from Fu) (show(p+1<p+2)=True from Fu))) ?_;refine DF (by rfl) ?_;refine Z0 ?_;obtain⟨J,M⟩:∃J,J=(if g.kind==3 then S||T else if g.kind==5 then S&&T else S&& !T):=⟨_,rfl⟩;rw[<-M] at a;refine AT (D3 (α:=Unit) (fun _=>⟨upd 0 (.pt q 0) (upd 4 (.pt nx 0) (upd 7 (.so x.rid x.ver 0 (p+2)) (upd 10 (.v (.int .i64 ((p+2:Nat):Int))) (upd 11 (.v (.bool J)) (upd 13 (.d (.sl (l.map AX)) bl) (upd 14 (.v (.int .i64 (l.length:Int))) (upd 15 (.v (.int .i64 (x.k:Int))) AK))))))),F,x.nx+1+4+3+8+2+12+100⟩) ?_ fun _=> ?_)
            · have a1:∀ {fr:Fr} {nn:Nat},nn<=x.nx+1+4+3+8+2+12+100->(∀t,(upd 0 (.pt q 0) (upd 4 (.pt nx 0) (upd 7 (.so x.rid x.ver 0 (p+2)) (upd 10 (.v (.int .i64 ((p+2:Nat):Int))) (upd 11 (.v (.bool J)) (upd 13 (.d (.sl (l.map AX)) bl) (upd 14 (.v (.int .i64 (l.length:Int))) (upd 15 (.v (.int .i64 (x.k:Int))) AK))))))):Fr) t= .un\/(upd 0 (.pt q 0) (upd 4 (.pt nx 0) (upd 7 (.so x.rid x.ver 0 (p+2)) (upd 10 (.v (.int .i64 ((p+2:Nat):Int))) (upd 11 (.v (.bool J)) (upd 13 (.d (.sl (l.map AX)) bl) (upd 14 (.v (.int .i64 (l.length:Int))) (upd 15 (.v (.int .i64 (x.k:Int))) AK))))))):Fr) t=fr t)->∃_:Unit,CH nx ⟨upd 0 (.pt q 0) (upd 4 (.pt nx 0) (upd 7 (.so x.rid x.ver 0 (p+2)) (upd 10 (.v (.int .i64 ((p+2:Nat):Int))) (upd 11 (.v (.bool J)) (upd 13 (.d (.sl (l.map AX)) bl) (upd 14 (.v (.int .i64 (l.length:Int))) (upd 15 (.v (.int .i64 (x.k:Int))) AK))))))),F,x.nx+1+4+3+8+2+12+100⟩ ⟨fr,F,nn⟩:=fun L h2=>⟨(),.weak ⟨h2,fun _=>.inr rfl,L⟩⟩
              refine AT (ZT 1 ?_);refine Z1 I ?_;refine CS ?_;refine AT (ZT 1 ?_);rcases ad:(g.kind==3) with _ |_
              · refine Z1 ad ?_
                refine DN (c:=false) rfl rfl ?_;refine AT (ZT 1 ?_);rcases aq:(g.kind==5) with _ |_
                · refine Z1 aq ?_
                  refine DN (c:=false) rfl rfl ?_;refine ZT 1 ?_;rw[ad,aq] at M;cases S<;>cases T<;>simp at M<;>subst M<;>(refine Z0 ?_;exact a1 (by show _<=_;omega) DS)
                · refine Z1 aq ?_
                  refine ET (c:=true) rfl rfl ?_;refine ZT 1 ?_;rw[ad,aq] at M;cases S<;>cases T<;>simp at M<;>subst M<;>(refine Z0 ?_;exact a1 (by show _<=_;omega) DS)
              · refine Z1 ad ?_
                refine ET (c:=true) rfl rfl ?_;refine ZT 1 ?_;rw[ad] at M;cases S<;>cases T<;>simp at M<;>subst M<;>(refine Z0 ?_;exact a1 (by show _<=_;omega) DS)
            · refine ZT 1 ?_
              have br:(p<=x.es.length)=True:=eq_true (by have:=s.2.2.1;omega);have bs:(p+1<=4294967296)=True:=eq_true (by have:=h.small;omega);have bx:(p<=p+2)=True:=Fu;refine Z1 (Y2 (Y6 ab w2 br bs bx (Ob p)) (Y2 (show EX 1 [[D.v (.bool J)]]=true from rfl) (show(x.rid=x.nx+1+4+3+8+2+12+100+5)=False from eq_false (by have:=Cd h.new s.1;omega)))) ?_;refine ZT 1 ?_;refine Z1 (Al (n:=x.k)) ?_;generalize e:(upd x.rid (some _) _:Hp)=b;have a8:=Cd h.new s.1;have a0:(x.es.take p).length=p:=(by rw[LC];have:=s.2.2.1;omega);have b0:x.st.take p=x.es.take p:=by
                have e1:x.st.take p=(x.es.take x.st.length).take p:=(by rw[s.2.1]);rw[e1,List.take_take,O,B8 (by omega)]
              have be:(x.st.take p++[J]).length=p+1:=(by rw[b0,Ld,a0];rfl);refine⟨⟨⟨x.k+1,b,_,x.st.take p++[J],x.rid,x.ver+1,x.es.take p++[J]⟩,?_⟩,Mg (DE rfl (DE rfl (DE (by rw[KC (xs:=x.st.take p++[J]) (by rw[be];omega),be];rfl) DS))),by show l.length-(x.k+1)<l.length-x.k;omega⟩;exact{
                      new:=fun j u=>by
                        have u:x.nx+1+4+3+8+2+12+100+8+2<=j:=u;show b j=none;rw[<-e,Aa,Aa];exact P j (by omega)
                      old:=fun i E=>by
                        have:=h.nxs
                        have:=s.2.2.2;show b i=hp i;rw[<-e,Aa,Aa];exact Z i E
                      ob_:=by
                        have:=h.nxs
                        have:=s.2.2.2;show b nx=_;rw[<-e,Aa,Aa];exact Q
                      row:=fun _=>⟨by show b x.rid=_;rw[<-e,Ap,Nc,N8];rfl,by grind,by grind,s.2.2.2⟩
                      le:=X
                      nxs:=by grind
                      small:=by grind
                      mod:=a }
    · have c1:(decide ((x.k:Int)<(l.length:Int)))=false:=C6
      rw[Nt (by omega)] at a;refine Fb c1 ?_;have a:(x.st.length==1&&x.st.getD 0 false)=r:=LM a;have a2:Gi hp x.hp:=⟨fun i=>by
        rcases LY i nx with h3 |h3
        · exact .inr (h.old i h3).symm
        · exact .inl (hf i h3)⟩
      by_cases w:x.st= []
      · have k:Ac x.rid x.ver (x.st.map eB)= .v (.slice none 0 0):=by rw[w];rfl
        rw[w] at a;refine AT (ZT 1 ?_);refine Fb k ?_;exact⟨_,hp,rfl,a2,by rw[<-a];rfl,rfl,by have:=h.nxs;show nx<=x.nx+1+9;omega⟩
      · have k:=KC (f:=eB) (id:=x.rid) (ver:=x.ver) (NA.2 w)
        have s:=h.row w;refine AT (ZT 1 ?_);rcases L:(x.st.length==1) with _ |_
        · have a3:((x.st.length:Int)==1)=false:=by
            have:x.st.length≠1:=(by simpa using L);simp;omega
          rw[L,LT] at a;refine Z1 (Y2 k a3) ?_;refine AP ?_;exact⟨_,hp,rfl,a2,by rw[<-a];rfl,rfl,by have:=h.nxs;show nx<=x.nx+1+9;omega⟩
        · have e1:x.st.length=1:=by simpa using L
          have a3:((x.st.length:Int)==1)=true:=(by rw[e1];rfl);have e2:x.es[0]? =some (x.st.getD 0 false):=by
            have e3:x.es[0]? =x.st[0]? :=by
              rw[<-s.2.1,Nq,ifp]
            rw[e3,B0,Le (by omega)];rfl
          rw[L,NC] at a;rw[a] at e2;refine Z1 (Y6 k a3 s.1 (Cr eB e2) (show EI (.v (.int .i64 0))=some 0 from rfl) (show(0<x.st.length)=True from Fu)) ?_;refine AP ?_;exact⟨_,hp,rfl,a2,rfl,rfl,by have:=h.nxs;show nx<=x.nx+1+9;omega⟩
def FT (n:Nat)(G:AY)(s:AN)(N:List PN)(r:AB):Option Bool:=(HK n G.schema r.obj.type_ r.rel).bind fun a=>if a.1.expr.isEmpty then K9 n G s N r else if a.1.expr.length<4611686018427387904 then JM n G r.obj N a.1.expr [] else none
set_option maxRecDepth 4000 in
theorem zZ (n:Nat)(G:AY)(s:AN):JI G (.v (.string s.type_)) (.v (.string s.id_)) (.v (.string s.rel)) (FT n G s):=by
 intro k c q m o N r b d g f h;unfold FT at h;have⟨E,l,h⟩:=AL h;split at h
 ·exact zL n G s k c q m o N r b d g f h
 rename_i F;split at h;rotate_left
 ·cases h
 rename_i R;have⟨⟨H,I,p⟩,S⟩:=E;have T:0<p.length:=by
  cases p with |nil=>exact absurd rfl F |cons _ _=>simp
 refine zr Tryz.func100 ?_;have J:nw c q=0:=pJ (Cd d g);have K:nw c c=1:=pK;have L:nw c (c+2+16)=19:=by unfold nw;omega
 have M:(decide ((p.length:Int) > 0))=true:=Cp;have O:(decide ((0:Int)<(p.length:Int)))=true:=Cp;have w:=And.intro (show(c=c+2+16)=False from Ey)<|And.intro (show(q=c+2+16)=False from eq_false (by have:=Cd d g;omega))<|And.intro (Fp d g) (Y3 g M O);refine Z1 w ?_;refine EB (Ma l) ?_;refine Z1 w ?_;refine KH (nw c) _ rfl (by simp only[Nl,Np,LA,LL,Li,Lw,H0,J,K,L];rfl) (by rfl) ?_;refine Z1 w ?_;obtain⟨t,u⟩:∃t,t=upd (c+2+16) (some (.bx [.v (.string H),.d (.sl (I.map AR)) true,.d (.sl (p.map AX)) true])) (upd (c+2+16) (some (.bx [.v (.string ByteArray.empty),.v (.slice none 0 0),.v (.slice none 0 0)])) (upd c (some (.bx [.v (.string r.obj.type_),.v (.string r.obj.id_),.v (.string r.rel)])) k)):=⟨_,rfl⟩;have A:∀ {i:Nat} {o:AO},k i=some o->t i=some o:=fun{i o} h=>by
  have:=Cd d h;rw[u,Aa,Aa,Aa];exact h
 have less:Gi k t:=⟨fun i=>by
  by_cases h:i<c
  ·exact .inr (by rw[u,Aa,Aa,Aa])
  exact .inl (d i (by omega))⟩
 have P:DJ t m N:=f.more ((A f.map).trans f.map.symm) (fun y z=>(A (f.box y z)).trans (f.box y z).symm) fun y z B=>by
  have l:=f.row y z B;rcases LY y.rid c with C |C
  ·rw[u,Aa,Aa,Aa]
  rw[d _ C] at l;cases e:y.above with |nil=>exact absurd e B |cons a b=>rw[e] at l;cases l
 rw[<-u];refine CR ((zY (nx:=c+2+19+4+7) (fun j hj=>by rw[u,Aa,Aa,Aa];exact d j (by omega)) (A g) P (vo:=.ag [.v (.string r.obj.type_),.v (.string r.obj.id_)]) rfl (by assumption) h).mono ?_);rintro v U Q ⟨rfl,rfl,V⟩;refine Z0 ?_;exact⟨_,k,rfl,less,rfl,rfl,by show c<=Q;omega⟩
theorem qN {α:Type}{lt:α->α->Bool}{F:Nat}:∀ {c e:Nat} {a b:List α},HP lt F c a e=some b->b.length=a.length
 |0,_,_,_,h=>by cases h
 |c+1,e,a,b,h=>by
  unfold HP at h;split at h
  ·have⟨p,f,h⟩:=AL h;have⟨g,d,h⟩:=AL h;have i:=(gH f (Lg _)).1.1;have j:g.length=p.1.length:=by
    split at d
    ·exact(Sx d).1
    cases d;rfl
   rw[qN h,j,i]
  cases h;rfl
theorem za {α:Type}{lt:α->α->Bool}{F:Nat}{xs a:List α}(h:HQ lt F xs=some a):a.length=xs.length:=by
 unfold HQ at h;have⟨p,b,h⟩:=AL h;have⟨d,c,h⟩:=AL h;rw[qN h,(Xe c).1,(gG b (Lg _)).1.1]
def JN (f:Nat)(N P:List PN):Option (List AB):=if N.length<4294967296 then HQ (G0 fun a b=>Gz (Qm P a) (Qm P b)) f (N.map (·.k)) else none
def JO (n:Nat)(G:AY)(o:Ak)(rel:ByteArray)(s:AN):Option Bool:=(JE (Jt n G) n [] [⟨o,rel⟩]).bind fun N=>(Fq (N.map (·.k)) N).bind fun a=>(JN n N a).bind fun b=>(Mh (FT n G s) n b a).bind fun c=>if N.isEmpty then none else(C9 ⟨o,rel⟩ c).map (·.is)
theorem zb {o:Ak}{rel:ByteArray}{s:AN}{r:Bool}(H:JO n G o rel s=some r):AI Tryz.prog 34 [D.pt (A7 G) 0,.ag (C3 o),.v (.string rel),.ag (AR s)] (.v (.bool r)) true:=by
 unfold JO at H;have⟨N,c,H⟩:=AL H;have⟨d,f,H⟩:=AL H;have⟨B,a,H⟩:=AL H;have⟨C,j,H⟩:=AL H;split at H
 ·cases H
 rename_i k;obtain⟨x,l,rfl⟩:=La.1 H;have h:=Su (pW f);have m:=fx c NX;unfold JN at a;split at a;rotate_left
 ·cases a
 rename_i q;exact Ss (zZ n G s) c f (fun e=>k (by rw[e];rfl)) (by omega) (rk:=Qm d) (fun p b=>by
  unfold Qm;rw[zO (h▸m) b];rfl) (fun r t=>by
  have⟨p,b⟩:=KJ (N:=d) (r:=r) (h▸t);rw[b];rfl) (fun g E S F I J i K u v w b L z A=>Sz u v z A w rfl (by simpa using q) (by simpa using a)) (by rw[za a,LE]) j l
theorem f0 {nw:List PN->AB->Option Bool}{P:List PN}(c:(P.map (·.k)).Nodup)(d:∀p∈P,∀x∈p.above,x∈P.map (·.k))(e:∀S r,r∈P.map (·.k)->∃b,nw (Fd S P) r=some b)(k:Int):
  ∀(f:Nat) (S:AB->Bool) (w:List AB),(∀r∈w,r∈P.map (·.k))->w.length+D9 P S<f->w.length+D9 P S<=4294967296->∃a,KI nw k f (Fd S P) w=some (Fd a P)/\D9 P a<=D9 P S
 |0,_,_,_,h,_=>absurd h (LN _)
 |f+1,S,[],_,_,_=>⟨S,rfl,Lc _⟩
 |f+1,S,r::w,i,q,s=>by
  have j:=i r (Lo ..);have⟨p,l⟩:=KJ j;have⟨m,t⟩:=Jw l;have E:=d p m;simp only[Lh] at q s;have u:∀x∈w,x∈P.map (·.k):=fun x o=>i x (Lj _ o);have v:C9 r (Fd S P)=some { p with is:=S p.k }:=by rw[Sv,l];rfl
  have g:=f0 c d e k f S w u (by omega) (by omega);unfold KI;rw[v,Zo];split
  ·exact g
  cases z:S p.k with
  |true=>
   rw[if_pos rfl];exact g
  |false=>
   have⟨b,A⟩:=e S r j;rw[if_neg (by simp),A,Zo];cases b with
   |false=>
    rw[if_neg (by simp)];exact g
   |true=>
    rw[if_pos rfl];have B:=px c m z;rw[if_pos (show w.length+p.above.length<=4294967296 by omega),pv];rw[t] at B;have⟨a,C,F⟩:=f0 c d e k f (fun x=>S x||r==x) (p.above.reverse++w) (fun x o=>by
     grind) (by grind) (by grind)
    exact⟨a,C,by omega⟩
theorem pc {nw:List PN->AB->Option Bool}{P:List PN}{f:Nat}(a:(P.map (·.k)).Nodup)(c:∀p∈P,∀x∈p.above,x∈P.map (·.k))(d:∀S r,r∈P.map (·.k)->∃b,nw (Fd S P) r=some b):
  ∀(l:List AB) (S:AB->Bool),(∀r∈l,r∈P.map (·.k))->1+D9 P S<f->1+D9 P S<=4294967296->∃h,Mh nw f l (Fd S P)=some (Fd h P)
 |[],S,_,_,_=>⟨S,rfl⟩
 |r::l,S,e,o,q=>by
  have⟨p,i⟩:=KJ (e r (Lo ..));have j:C9 r (Fd S P)=some { p with is:=S p.k }:=by rw[Sv,i];rfl
  unfold Mh;rw[j,Zo];have⟨k,m,s⟩:=f0 a c d p.rank f S [r] (fun x g=>by grind) (by omega) (by omega);rw[m,Zo];exact pc a c d l k (fun x g=>e x (Lj _ g)) (by omega) (by omega)
theorem zW {o:Ak}{rel:ByteArray}{s:AN}{U:List AB}{D:AB->List AB}{rk:AB->Int}(A:U.Nodup)(B:U.length<=1000000)(c:(⟨o,rel⟩:AB)∈U)(C:∀r∈U,Jt n G r=some (rk r,D r))(E:∀r∈U,∀d∈D r,d∈U)(H:total D U<=1000000000)(hn:2000000000<n)
  (I:∀(K:List AB) (S:AB->Bool) (N:List PN),(∀r∈K,r∈U)->N.map (·.k)=K->(∀p∈N,p.deps=D p.k/\p.is=S p.k)->(∀r∈K,∀d∈D r,d∈K)->∀r∈K,∃b,FT n G s N r=some b):
  ∃b,JO n G o rel s=some b:=by
 have X:PQ D U []<=total D U:=by
  unfold PQ total;rw[show(U.filter fun r=>decide (r∉([]:List PN).map (·.k)))=U from B7.2 fun _ _=>by simp];exact Lc _
 have⟨K,J,i,m,_,j,k,_⟩:=aR (nd:=Jt n G) A (by omega) C E n [] [⟨o,rel⟩] NX (fun _ h=>nomatch h) (fun r h=>by rw[Lt.1 h];exact c) (by simp only[Ll,Lw];omega) (by simp only[Ll,Lw];omega);have k:=k fun _ h=>nomatch h;have j:=j _ (Lt.2 rfl)
 have g:(K.map (mkP rk D)).map (·.k)=K:=by simp[mkP,NS]
 have L:=Lv (gA (D:=D) i m) H;have M:Fq K (K.map (mkP rk D))=some (addL (vw_ D K) (K.map (mkP rk D))):=f9 D K _ (by rw[g];exact fun _ h=>h) (fun p a=>by
  obtain⟨r,c,rfl⟩:=LO.1 a;rw[g];exact⟨rfl,k r c⟩) fun p a=>by
  obtain⟨r,c,rfl⟩:=LO.1 a;simp only[mkP,Lu];omega
 obtain⟨P,t⟩:∃P,P=addL (vw_ D K) (K.map (mkP rk D)):=⟨_,rfl⟩;have e:P.map (·.k)=K:=by rw[t,aS,g]
 have l:∀p∈P,p.k∈K/\p=⟨p.k,rk p.k,D p.k,vw_ D K p.k,false⟩:=fun p a=>by
  rw[t] at a;obtain⟨q,u,rfl⟩:=LO.1 a;obtain⟨r,c,rfl⟩:=LO.1 u;exact⟨c,rfl⟩
 have O:P=Fd (fun _=>false) P:=by
  unfold Fd;refine((Ns fun p a=> ?_).trans (List.map_id _)).symm
  have:=(l p a).2;rw[this];rfl
 have Y:K.length<=1000000:=Lv (aQ i m) B;have⟨v,Q,R,o3⟩:=qM (F:=n) (p7 (Qm P)) K (by omega) (by omega);have T:∀r∈v,r∈K:=fun r c=>R.mem_iff.1 c;have Z:D9 P (fun _=>false)<=1000000000:=by
  unfold D9;rw[show(P.filter fun p=> !(fun _=>false) p.k)=P from B7.2 fun p _=>rfl];have w:(P.map fun p=>p.above.length)=K.map fun x=>(vw_ D K x).length:=by
   rw[<-e,Bj];refine Ns fun p a=> ?_
   have:=(l p a).2;simp only[Function.comp];rw[e];exact congrArg (fun q:PN=>q.above.length) this
  rw[w];exact Lv (gB i) L
 have⟨S,V⟩:=pc (f:=n) (nw:=FT n G s) (P:=P) (by rw[e];exact i) (fun p a x z=>by
  have⟨w,h2⟩:=l p a;rw[h2] at z;rw[e];exact(pp.1 z).1) (fun S r c=>by
  rw[e] at c;refine I K S _ m (by rw[Fd,Bj];exact e) (fun p a=> ?_) k r c;obtain⟨q,u,rfl⟩:=LO.1 a;refine⟨?_,rfl⟩
  have:=(l q u).2;exact congrArg PN.deps this) v (fun _=>false) (fun r c=>by rw[e];exact T r c) (by omega) (by omega)
 refine⟨S ⟨o,rel⟩,?_⟩;unfold JO;rw[show([]:List PN)=([]:List AB).map (mkP rk D) from rfl,J,Zo,g,M,Zo,<-t];unfold JN;rw[LE,ifp,g,Q,Zo];rw[O,V,Zo,if_neg (by
  cases K with |nil=>cases j |cons _ _=>simp),Sv]
 have⟨p,a⟩:=KJ (N:=P) (r:=⟨o,rel⟩) (by rw[e];exact j);rw[a];show some (S p.k)=_;rw[(Jw a).2]
theorem zg {s:ByteArray}{r:List AG}(h:MY n s=some r):AI Tryz.prog 8 [D.v (.string s)] (D.sl (r.map AQ)) true:=by
 unfold MY at h;obtain⟨y,a,rfl⟩:=La.1 h;refine zP #[.tmp 2] Tryz.func8 ?_;refine EE ?_;refine Cn (yC a) ?_;refine Fc ?_;exact Ax
def aY (n:Nat)(l:List AG):Option (AC × Int):=match Pa n l with
 |some (.inl S)=>some (S,0)
 |_=>none
theorem zh {l:List AG}{r:AC × Int}(h:aY n l=some r):AI Tryz.prog 62 [D.sl (l.map AQ)] (D.tu [D.pt (Az r.1) 0,D.v (.int .i64 r.2)]) false:=by
 unfold aY at h;split at h
 ·rename_i S e;cases h;exact AI.of_A (ds:=[.sl (l.map AQ)]) (cf_ e)
 cases h
end Go.Proofs.YtnmkbmefohakmaaGreat.Ab
