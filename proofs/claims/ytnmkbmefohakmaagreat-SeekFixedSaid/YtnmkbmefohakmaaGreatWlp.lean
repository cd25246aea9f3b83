/-
 Schemas that hold together: what names and ways are told. No program in sight.
-/
import Derived.Test.YtnmkbmefohakmaaGreatWlf
set_option linter.all false
namespace Go.Proofs.YtnmkbmefohakmaaGreat.Ab
open Go.RowKit IntKind
def G2 {α:Type}:Nat->List α->Nat->Nat->Option (List α)
 |0,_,_,_=>none
 |f+1,b,i,j=>if i<j then(b[j]?).bind fun x=>(b[i]?).bind fun y=>G2 f ((b.set i x).set j y) (i+1) (j-1) else some b
theorem rN {α:Type}:∀ {f i j:Nat} {b c:List α},G2 f b i j=some c->c.length=b.length
 |0,_,_,_,_,h=>by cases h
 |f+1,i,j,b,c,h=>by
  unfold G2 at h;split at h
  ·have⟨x,_,h⟩:=AL h;have⟨y,_,h⟩:=AL h;rw[rN h];simp
  cases h;rfl
theorem Xt {a:Nat}(c:1<=a)(h:a<4611686018427387904):i64.wrap ((a:Int)-1)=((a-1:Nat):Int):=EA (a:=a) (b:=1) c h
variable {a:ByteArray}{f n:Nat}{hp:Hp}{x:Aj}
theorem rev_nil {nx:Nat}:AU Tryz.prog 90 [.v (.slice none 0 0)] hp nx fun v b c=>v= .tu []/\b=hp/\nx<=c:=by
 refine zq Tryz.func90 ?_;refine AT (ZT 1 ?_);refine Z1 (show i64.wrap (0-1)= -1 from by decide) ?_;refine CS ?_;refine DQ (α:=Unit) (fun _=>⟨upd 2 (.v (.int .i64 0)) (upd 3 (.v (.int .i64 (-1))) AK),hp,nx+5⟩) (fun _=>0) () ?_ ?_
 ·exact CT
 rintro⟨⟩;refine EZ ?_;refine AP ?_;exact⟨_,_,rfl,⟨fun _=>.inr rfl⟩,rfl,rfl,by dsimp only;omega⟩
set_option maxRecDepth 4000 in
theorem S9 {nx i ver L:Nat}{br:Bool}{xs R:List AA}(l:hp i=some (.rw (xs.map Ag) 2 ver br false))(m:xs.length=L)(o:0<L)(E:L<4294967296)(p:G2 f xs 0 (L-1)=some R):
  AU Tryz.prog 90 [.so i ver 0 L] hp nx fun v q r=>v= .tu []/\q=upd i (some (.rw (R.map Ag) 2 ver br false)) hp/\nx<=r:=by
 refine zq Tryz.func90 ?_;refine AT (ZT 1 ?_);refine Z1 (Xt o (by omega)) ?_;refine CS ?_;refine DQ (α:={ t:Nat × List AA × Nat × Nat × Nat // nx<=t.2.2.2.2/\t.2.1.length=L/\t.2.2.1<=L/\t.2.2.2.1<L/\G2 t.1 t.2.1 t.2.2.1 t.2.2.2.1=some R })
  (fun t=>⟨upd 0 (.so i ver 0 L) (upd 2 (.v (.int .i64 (t.1.2.2.1:Int))) (upd 3 (.v (.int .i64 (t.1.2.2.2.1:Int))) AK)),upd i (some (.rw (t.1.2.1.map Ag) 2 ver br false)) hp,t.1.2.2.2.2⟩) (fun t=>t.1.1)
  ⟨(f,xs,0,L-1,nx+5),by dsimp only;omega,m,Lg _,by dsimp only;omega,p⟩ ?_ ?_
 ·rw[Fv l];exact CT
 rintro⟨⟨f,d,a,b,s⟩,u,g,w,j,c⟩;dsimp only at u g w j c;cases f with
 |zero=>cases c
 |succ f=>
 unfold G2 at c;refine AT (AT ?_);refine ZT 1 ?_;by_cases k:a<b
 ·rw[if_pos k] at c;have⟨x,A,c⟩:=AL c;have⟨y,B,c⟩:=AL c;have e:(decide ((a:Int)<(b:Int)))=true:=Cp;refine Fb e ?_;refine AT (CS ?_);refine ZT 1 ?_;obtain⟨z,C⟩:∃z:AA,((d.map Ag).set a (Ag x))[b]? =some (Ag z):=by
   rw[<-NK,Lp];cases h:(d.set a x)[b]? with
   |none=>
    rw[OH,NZ] at h;omega
   |some z=>exact⟨z,rfl⟩
  refine Z1 (Y2 (Y6 (Cr Ag A) (Cr Ag B) C (A8 .i64 (show(0:Int)<=(a:Int) by omega)) (A8 .i64 (show(0:Int)<=(b:Int) by omega)) (show((a:Int)).toNat=a from Lk _)) (Y3 (show((b:Int)).toNat=b from Lk _) (show(a<L)=True from Fu) (show(b<L)=True from eq_true j))) ?_;refine DF (by rfl) ?_;refine Z0 ?_;refine ZT 1 ?_;refine Z1 (Y2 (Al (n:=a)) (Xt (a:=b) (by omega) (by omega))) ?_;refine⟨⟨(f,(d.set a x).set b y,a+1,b-1,s+3+16+6),by dsimp only;omega,by simpa using g,by dsimp only;omega,by dsimp only;omega,c⟩,Gd ?_ DS,Ls f⟩;rw[Em,Em];show upd i (some (.rw (((d.set a x).set b y).map Ag) 2 ver br false)) hp=_;rw[NK,NK]
 rw[if_neg k] at c;cases c;have e:(decide ((a:Int)<(b:Int)))=false:=C6;refine Fb e ?_;exact⟨_,_,rfl,⟨fun _=>.inr rfl⟩,rfl,rfl,by dsimp only;omega⟩
theorem aU_ {nx:Nat}{x:AV}(d:∀j,nx<=j->hp j=none):AU Tryz.prog 91 [x,.v (.slice none 0 0)] hp nx fun v e g=>v= .v (.bool true)/\e=hp/\nx<=g:=by
 refine zq Tryz.func91 ?_;refine EE ?_;refine EZ ?_;refine D3 (α:={ k:Nat // nx<=k }) (fun k=>⟨upd 1 (.v (.slice none 0 0)) AK,upd (nx+1) (some (.mo [] false)) hp,k.1⟩) ?_ ?_
 ·refine CS ?_;refine DQ (α:=Unit) (fun _=>⟨upd 1 (.v (.slice none 0 0)) (upd 16 (.v (.int .i64 0)) (upd 17 (.v (.int .i64 0)) AK)),upd (nx+1) (some (.mo [] false)) hp,nx+1+2+3⟩) (fun _=>0) () ?_ ?_
  ·exact CT
  rintro⟨⟩;refine EE ?_;exact⟨⟨_,by omega⟩,CT⟩
 rintro⟨k,m⟩;refine EZ ?_;refine CS ?_;refine DQ (α:={ t:Bool × Nat // nx<=t.2 }) (fun t=>⟨upd 1 (.v (.slice none 0 0)) (upd 8 (.v (.bool t.1.1)) AK),upd (nx+1) (some (.mo [] false)) hp,t.1.2⟩) (fun t=>if t.1.1 then 1 else 0) ⟨(true,k+1),by dsimp only;omega⟩ ?_ ?_
 ·exact CT
 rintro⟨⟨b,c⟩,h⟩;dsimp only at h;refine AT (AT ?_);refine ZT 1 ?_;cases b with
 |false=>
  refine Fc ?_;refine Ay ?_;refine AP ?_;refine⟨_,hp,rfl,⟨fun i=> ?_⟩,rfl,rfl,by dsimp only;omega⟩;by_cases l:i=nx+1
  ·exact .inl (d i (by omega))
  ·exact .inr (Ai _ _ l).symm
 |true=>
  refine Fc ?_;refine CS ?_;refine EE ?_;refine CS ?_;refine DQ (α:=Unit) (fun _=>⟨upd 1 (.v (.slice none 0 0)) (upd 8 (.v (.bool false)) (upd 29 (.v (.int .i64 0)) (upd 30 (.v (.int .i64 0)) AK))),upd (nx+1) (some (.mo [] false)) hp,c+1+1+3⟩) (fun _=>0) () ?_ ?_
  ·exact CT
  rintro⟨⟩;refine EE ?_;exact⟨⟨(false,c+1+1+3+1),by dsimp only;omega⟩,CT,Nat.zero_lt_one⟩
def PY (n:Nat)(S:AC)(a:ByteArray):List AW->List AA->Option (List AA ⊕ Int)
 |[],b=>some (.inl b)
 |g::r,b=>if b.length<1000000000 then(TB n S a g).bind fun e=>if e==0 then PY n S a r (b++[⟨a,g.name⟩]) else some (.inr e) else none
def PZ (n:Nat)(S:AC):List AG->List AA->Option (List AA ⊕ Int)
 |[],b=>some (.inl b)
 |t::r,b=>(PY n S t.name t.rels b).bind fun | .inl c=>PZ n S r c | .inr e=>some (.inr e)
def JQ (n:Nat)(T:List (ByteArray × Int))(R:List (AA × AW)):List AA ⊕ Int->Option (AC ⊕ Int)
 | .inr e=>some (.inr e)
 | .inl []=>some (.inl ⟨T,R,[]⟩)
 | .inl (m::r)=>(G2 n (m::r) 0 r.length).bind fun b=>(S6 n ⟨T,R,[]⟩ b []).bind fun W=>if (∀m∈b,(mget m W).isSome=true)/\(∀p∈W,p.2.length<1000000000)/\b.length<1000000000 then (Mj W (b.length:Int) b n []).bind fun |none=>some (.inr 14) |some K=>some (.inl ⟨T,R,K⟩) else none
def Pa (n:Nat)(l:List AG):Option (AC ⊕ Int):=if l.length<1000000/\∀t∈l,t.rels.length<1000000 then (if (jf_ l [] []).2.2==0 then(PZ n ⟨(jf_ l [] []).1,(jf_ l [] []).2.1,[]⟩ l []).bind (JQ n (jf_ l [] []).1 (jf_ l [] []).2.1) else some (.inr (jf_ l [] []).2.2)) else none
def Xp:AC ⊕ Int->D
 | .inl S=>.tu [.pt (Az S) 0,.v (.int .i64 0)]
 | .inr e=>.tu [.v (.pointer none),.v (.int .i64 e)]
set_option maxRecDepth 8000 in
theorem cf_ {l:List AG}{r:AC ⊕ Int}(h:Pa n l=some r):CO Tryz.prog 62 [.d (.sl (l.map AQ))] (Xp r) false:=by
 unfold Pa at h;split at h;rotate_left
 ·cases h
 rename_i hg;have⟨a1,av⟩:=hg;obtain⟨T,eT⟩:∃T,T=(jf_ l [] []).1:=⟨_,rfl⟩;obtain⟨R,eR⟩:∃R,R=(jf_ l [] []).2.1:=⟨_,rfl⟩;obtain⟨e,ee⟩:∃e,e=(jf_ l [] []).2.2:=⟨_,rfl⟩;have hc:jf_ l [] []=(T,R,e):=by rw[eT,eR,ee]
 rw[hc] at h;dsimp only at h;refine fg Ep EN (rs:= #[.tmp 2,.tmp 3]) Tryz.func62 ?_;refine EE ?_;have hH:upd 6 (some (.bx [.mo 2,.mo 3,.mo 4])) (upd 4 (some (.mo [] false)) (upd 3 (some (.mo [] false)) (upd 2 (some (.mo [] false)) AM)))=(upd 6 (some (.bx [.mo 2,.mo 3,.mo 4])) (upd 4 (some (.mo (AZ qb_ vI []) false)) (upd 3 (some (.mo (AZ qb_ vR []) false)) (upd 2 (some (.mo (AZ .string vI []) false)) AM))):Hp):=rfl;rw[hH];obtain⟨M,Q⟩:∃M,M=(upd 6 (some (.bx [.mo 2,.mo 3,.mo 4])) (upd 4 (some (.mo (AZ qb_ vI []) false)) (upd 3 (some (.mo (AZ qb_ vR []) false)) (upd 2 (some (.mo (AZ .string vI []) false)) AM))):Hp):=⟨_,rfl⟩;rw[<-Q];have q0:M 6=some (.bx [.mo 2,.mo 3,.mo 4]):=by rw[Q];rfl
 have q1:M 2=some (.mo (AZ .string vI []) false):=by rw[Q];rfl
 have q2:M 3=some (.mo (AZ qb_ vR []) false):=by rw[Q];rfl
 have q3:M 4=some (.mo (AZ qb_ vI []) false):=by rw[Q];rfl
 have qf:∀j,7<=j->M j=none:=fun j N=>by rw[Q,Aa,Aa,Aa,Aa];rfl
 refine Ay ?_;refine CR ((lC_ (nx:=12) (fun j N=>qf j (by omega)) a1 av q0 q1 q2 (by decide) (by decide) (by decide) hc).mono ?_);rintro v y a2 ⟨rfl,eS,bx⟩;have s0:y 6=some (.bx [.mo 2,.mo 3,.mo 4]):=by rw[eS];unfold hpC;rw[Ai _ _ (by decide),Ai _ _ (by decide)];exact q0
 have s1:y 2=some (.mo (AZ .string vI T) false):=by rw[eS];unfold hpC;rw[Ai _ _ (by decide),Ap]
 have s2:y 3=some (.mo (AZ qb_ vR R) false):=by rw[eS];unfold hpC;rw[Ap]
 have s3:y 4=some (.mo (AZ qb_ vI []) false):=by rw[eS];unfold hpC;rw[Ai _ _ (by decide),Ai _ _ (by decide)];exact q3
 have sf:∀j,7<=j->y j=none:=fun j N=>by rw[eS];unfold hpC;rw[Aa,Aa];exact qf j N
 cases he:(e==0) with
 |false=>
  have ad:(e != 0)=true:=by rw[bne,he];rfl
  rw[he,if_neg (by decide)] at h;cases h;refine Z1 ad ?_;exact Pw (b:=true) (v:=.tu [.v (.pointer none),.v (.int .i64 e)]) (by simp -implicitDefEqProofs only[go_sem, ↓reduceIte,Ap,Nat.reduceEqDiff]<;>rfl) (.tu (PW.cons (Ck.one (Cy.one (b':=false) (is:=[]) rfl (fun _=>rfl)) rfl) (PW.cons (Ck.one (Cy.one (b':=false) (is:=[]) rfl (fun _=>rfl)) rfl) PW.nil))) fun h=>nomatch h
 |true=>
  have ad:(e != 0)=false:=by rw[bne,he];rfl
  rw[he,if_pos rfl] at h;have⟨ro,a3,h⟩:=AL h;refine Cw ad ?_;refine Z0 ?_;refine EZ ?_;have A:∀(o p:Nat) (z:List AA),(z≠[]->7<=o)->∀j,j<7->Dy o 2 p (z.map Ag) y j=y j:=fun o p z G j N=>JB fun m=>by have:=G (by simpa using m);omega
  have Af:∀(o p nx:Nat) (z:List AA),(z≠[]->o<nx)->7<=nx->∀j,nx<=j->Dy o 2 p (z.map Ag) y j=none:=fun o p nx z G h7 j N=>by rw[JB fun m=>by have:=G (by simpa using m);omega];exact sf j (by omega)
  refine D3 (α:={ t:List AA × Nat × Nat × Nat // (t.1≠[]->7<=t.2.1/\t.2.1<t.2.2.2)/\7<=t.2.2.2/\t.1.length<=1000000000/\ro= .inl t.1 }) (fun t=>⟨upd 4 (.pt 6 0) (upd 6 (Ac t.1.2.1 t.1.2.2.1 (t.1.1.map Ag)) AK),Dy t.1.2.1 2 t.1.2.2.1 (t.1.1.map Ag) y,t.1.2.2.2⟩) ?_ ?_
  ·refine CS ?_;refine DQ (α:={ t:Nat × List AA × Nat × Nat × Nat // t.1<=l.length/\(t.2.1≠[]->7<=t.2.2.1/\t.2.2.1<t.2.2.2.2)/\7<=t.2.2.2.2/\t.2.1.length<=1000000000/\PZ n ⟨T,R,[]⟩ (l.drop t.1) t.2.1=some ro })
    (fun t=>⟨upd 4 (.pt 6 0) (upd 6 (Ac t.1.2.2.1 t.1.2.2.2.1 (t.1.2.1.map Ag)) (upd 23 (.d (.sl (l.map AQ)) true) (upd 24 (.v (.int .i64 (l.length:Int))) (upd 25 (.v (.int .i64 (t.1.1:Int))) AK)))),Dy t.1.2.2.1 2 t.1.2.2.2.1 (t.1.2.1.map Ag) y,t.1.2.2.2.2⟩) (fun t=>l.length-t.1.1)
    ⟨(0,[],0,0,a2+2+1+3),Lg _,fun m=>absurd rfl m,by dsimp only;omega,Lg _,a3⟩ ?_ ?_
   ·exact CT
   rintro⟨⟨i,z,o,p,ag⟩,hi,G,h7,X,C⟩;dsimp only at hi G h7 X C;refine AT (ZT 1 ?_);by_cases aa:i<l.length;rotate_left
   ·have c1:(decide ((i:Int)<(l.length:Int)))=false:=C6;obtain rfl:i=l.length:=(by omega);rw[Bg] at C;refine Cw c1 ?_;refine Z0 ?_;exact⟨⟨(z,o,p,ag+1),fun m=>by have:=G m;dsimp only;omega,by dsimp only;omega,X,(LM C).symm⟩,CT⟩
   have c1:(decide ((i:Int)<(l.length:Int)))=true:=Cp;have e1:l[i]? =some l[i]:=Le aa;have ed:l.drop i=l[i]::l.drop (i+1):=Lm aa;have a4:=av _ (LZ aa);rw[ed] at C;generalize l[i]=d at e1 C a4;have e2:(l.map AQ)[i]? =some (AQ d):=Cr AQ e1;unfold PZ at C;have⟨rr,a5,C⟩:=AL C;refine Cw c1 ?_;refine Z0 ?_;refine AT (CS ?_);refine AT (ZT 1 ?_);have w:=Y2 e2 (Y2 (A8 .i64 (show(0:Int)<=(i:Int) by omega)) (show((i:Int)).toNat=i from Lk _));refine Z1 w ?_;obtain⟨B,a6⟩:∃B,B=ag+1+2:=⟨_,rfl⟩;rw[<-a6,Em];refine AT (ZT 1 ?_);refine Z1 (Ap B (some (.bx [.v (.string d.name),.d (.sl (d.rels.map Ah)) true])) (Dy o 2 p (z.map Ag) y)) ?_;refine CS ?_;refine DQ (α:={ t:Nat × List AA × Nat × Nat × Nat // t.1<=d.rels.length/\(t.2.1≠[]->7<=t.2.2.1/\t.2.2.1<t.2.2.2.2/\t.2.2.1≠B)/\B<t.2.2.2.2/\t.2.1.length<=1000000000/\PY n ⟨T,R,[]⟩ d.name (d.rels.drop t.1) t.2.1=some rr })
    (fun t=>⟨upd 4 (.pt 6 0) (upd 6 (Ac t.1.2.2.1 t.1.2.2.2.1 (t.1.2.1.map Ag)) (upd 8 (.pt B 0) (upd 23 (.d (.sl (l.map AQ)) true) (upd 24 (.v (.int .i64 (l.length:Int))) (upd 25 (.v (.int .i64 (i:Int))) (upd 30 (.d (.sl (d.rels.map Ah)) true) (upd 31 (.v (.int .i64 (d.rels.length:Int))) (upd 32 (.v (.int .i64 (t.1.1:Int))) AK)))))))),upd B (some (.bx [.v (.string d.name),.d (.sl (d.rels.map Ah)) true])) (Dy t.1.2.2.1 2 t.1.2.2.2.1 (t.1.2.1.map Ag) y),t.1.2.2.2.2⟩) (fun t=>d.rels.length-t.1.1)
    ⟨(0,z,o,p,ag+1+4+4),Lg _,fun m=>by have:=G m;dsimp only;omega,by dsimp only;omega,X,a5⟩ ?_ ?_
   ·exact CT
   rintro⟨⟨j,S,E,U,q⟩,N,J,a7,ak,s⟩;dsimp only at N J a7 ak s;refine AT (ZT 1 ?_);by_cases ab:j<d.rels.length;rotate_left
   ·have c2:(decide ((j:Int)<(d.rels.length:Int)))=false:=C6;obtain rfl:j=d.rels.length:=(by omega);rw[Bg] at s;cases s;dsimp only at C;refine Cw c2 ?_;refine Z0 ?_;refine ZT 1 ?_;refine Z1 (Al (n:=i)) ?_;refine⟨⟨(i+1,S,E,U,q+1+2),aa,fun m=>by have:=J m;dsimp only;omega,by dsimp only;omega,ak,C⟩,.weak ⟨DE rfl DS,fun k=> ?_,by dsimp only;omega⟩,by dsimp only;omega⟩;dsimp only;by_cases I:k=B
    ·exact .inl (by rw[JB fun m=>by have:=J (by simpa using m);omega];exact sf k (by omega))
    exact .inr (Ai _ _ I).symm
   have c2:(decide ((j:Int)<(d.rels.length:Int)))=true:=Cp;have e3:d.rels[j]? =some d.rels[j]:=Le ab;have a8:d.rels.drop j=d.rels[j]::d.rels.drop (j+1):=Lm ab;rw[a8] at s;generalize d.rels[j]=g at e3 s;have e4:(d.rels.map Ah)[j]? =some (Ah g):=Cr Ah e3;unfold PY at s;split at s;rotate_left
   ·cases s
   rename_i b0;have⟨en,a9,s⟩:=AL s;refine Cw c2 ?_;refine Z0 ?_;refine AT (CS ?_);refine AT (ZT 1 ?_);have w2:=Y2 e4 (Y2 (A8 .i64 (show(0:Int)<=(j:Int) by omega)) (show((j:Int)).toNat=j from Lk _));refine Z1 w2 ?_;generalize eD:(upd (q+1+2) (some _) _:Hp)=O;have da:∀k,k≠q+1+2->O k=upd B (some (.bx [.v (.string d.name),.d (.sl (d.rels.map Ah)) true])) (Dy E 2 U (S.map Ag) y) k:=fun k V=>(by rw[<-eD,Ai _ _ V,Ai _ _ V]);have dS:∀k,k<7->O k=y k:=fun k I=>(by rw[da k (by omega),Aa,A E U S (fun m=>(J m).1) k I]);have dt:O B=some (.bx [.v (.string d.name),.d (.sl (d.rels.map Ah)) true]):=(by rw[da B (by omega),Ap]);have dr:O (q+1+2)=some (.bx [.v (.string g.name),.d (.sl (g.subs.map AR)) true,.d (.sl (g.expr.map AX)) true]):=(by rw[<-eD,Ap]);have dw:S≠[]->O E=some (.rw (S.map Ag) 2 U false false):=fun m=>(by have:=J m;rw[da E (by omega),Ai _ _ this.2.2,MX (by simpa using m)]);refine AT (AT ?_);refine ZT 1 ?_;refine Z1 (Y2 dt dr) ?_
   refine vu (b:=true) (PW.cons (Dq.d (Ck.one (JP ((dS 6 (by decide)).trans s0) ((dS 2 (by decide)).trans s1) ((dS 3 (by decide)).trans s2) ((dS 4 (by decide)).trans s3)) rfl)) (PW.cons (Dq.d (Ck.one (Cy.one (b':=false) (is:=[]) rfl (fun _=>rfl)) rfl)) (PW.cons (Dq.d (Ck.agP (PW.cons (Cy.one (b':=false) (is:=[]) rfl (fun _=>rfl)) (PW.cons (Cy.one (b':=true) (is:=[]) rfl (fun _=>rfl)) (PW.cons (Cy.one (b':=true) (is:=[]) rfl (fun _=>rfl)) PW.nil))))) PW.nil))) (CO.of_pure (ku_ a9)) ?_;refine Dt ?_;cases hz:(en==0) with
   |false=>
    have ao:(en != 0)=true:=(by rw[bne,hz];rfl);rw[hz,if_neg (by decide)] at s;cases s;cases C;cases h;refine Z1 ao ?_;refine ET (c:=true) rfl rfl ?_;refine Ay ?_;refine AP ?_;exact Pw (b:=true) (v:=.tu [.v (.pointer none),.v (.int .i64 en)]) (by simp -implicitDefEqProofs only[go_sem, ↓reduceIte,Ap,Nat.reduceEqDiff]<;>rfl) (.tu (PW.cons (Ck.one (Cy.one (b':=false) (is:=[]) rfl (fun _=>rfl)) rfl) (PW.cons (Ck.one (Cy.one (b':=false) (is:=[]) rfl (fun _=>rfl)) rfl) PW.nil))) fun h=>nomatch h
   |true=>
    have ao:(en != 0)=false:=(by rw[bne,hz];rfl);rw[hz,if_pos rfl] at s;refine Z1 ao ?_;refine DN (c:=false) rfl rfl ?_;refine AP ?_;refine ZT 1 ?_;cases S with
    |nil=>
     refine Z1 (Y2 dt dr) ?_;generalize eU:(upd (q+1+4+6+2+7) (some _) _:Hp)=Y;have u1:Y (q+1+4+6+2+7)=some (.rw (([]++[(⟨d.name,g.name⟩:AA)]).map Ag) 2 (0) false false):=(by rw[<-eU,Ap];simp);have u3:∀k,k≠q+1+4+6+2+7->k<q->Y k=O k:=fun k V h2=>(by rw[<-eU,Ai _ _ V,Aa]);refine ZT 1 ?_;refine Z1 (Al (n:=j)) ?_;refine⟨⟨(j+1,[]++[⟨d.name,g.name⟩],q+1+4+6+2+7,0,q+60),ab,fun _=>by skip;dsimp only;omega,by dsimp only;omega,by rw[Ld,Ll];omega,s⟩,.weak ⟨DE rfl DS,fun k=> ?_,by dsimp only;omega⟩,by dsimp only;omega⟩;dsimp only
     by_cases H:k=q+1+4+6+2+7
     ·refine .inr ?_;rw[H,u1,Ai _ _ (by skip;omega),MX (by simp)]
     by_cases k2:k<q
     ·refine .inr ?_;rw[u3 k H k2,da k (by omega)];by_cases P:k=B
      ·rw[P,Ap,Ap]
      rw[Ai _ _ P,Ai _ _ P,JB fun _=>H];rfl
     ·exact .inl (by rw[Aa,JB fun _=>H];exact sf k (by omega))
    |cons b u=>
     have ba:=dw (by simp);have bb:(u.length+1+1<=4294967296)=True:=eq_true (by simp only[Lh] at ak;omega);have f1:(E=q+1+4+6+2+6)=False:=eq_false (by have:=J (by simp);omega);refine Z1 (Y5 dt dr f1 ba bb) ?_;generalize eU:(upd (E) (some _) _:Hp)=Y;have u1:Y (E)=some (.rw (((b::u)++[(⟨d.name,g.name⟩:AA)]).map Ag) 2 (U+1) false false):=(by rw[<-eU,Ap];simp);have u3:∀k,k≠E->k<q->Y k=O k:=fun k V h2=>(by rw[<-eU,Ai _ _ V,Aa]);refine ZT 1 ?_;refine Z1 (Al (n:=j)) ?_;refine⟨⟨(j+1,(b::u)++[⟨d.name,g.name⟩],E,U+1,q+60),ab,fun _=>by have:=J (by simp);dsimp only;omega,by dsimp only;omega,by rw[Ld,Ll];omega,s⟩,.weak ⟨DE rfl (DE (by simp[Ac,upd]) DS),fun k=> ?_,by dsimp only;omega⟩,by dsimp only;omega⟩;dsimp only
     by_cases H:k=E
     ·refine .inr ?_;rw[H,u1,Ai _ _ (by have:=J (by simp);omega),MX (by simp)]
     by_cases k2:k<q
     ·refine .inr ?_;rw[u3 k H k2,da k (by omega)];by_cases P:k=B
      ·rw[P,Ap,Ap]
      rw[Ai _ _ P,Ai _ _ P,JB fun _=>H,JB fun m=>H]
     exact .inl (by rw[Aa,JB fun _=>H];exact sf k (by omega))
  rintro⟨⟨z,o,p,aE⟩,G,h7,X,rfl⟩;dsimp only at G h7 X;cases z with
  |nil=>
   refine Ay ?_;refine CR (rev_nil.mono ?_);rintro v F bd ⟨rfl,rfl,ap⟩;dsimp only at ap;refine Z0 ?_;refine EZ ?_;refine CR ((aU_ fun k I=>sf k (by dsimp only at I;omega)).mono ?_);rintro v be bg ⟨rfl,aq,ar⟩;dsimp only at ar;subst aq;cases h;refine Z0 ?_;refine DN (c:=false) rfl rfl ?_;refine AP ?_;refine Ay ?_;refine AP ?_;exact Pw (b:=true) (v:=.tu [.pt 6 0,.v (.int .i64 0)]) (by simp -implicitDefEqProofs only[go_sem, ↓reduceIte,Ap,Nat.reduceEqDiff]<;>rfl) (.tu (PW.cons (Ck.one (JP s0 s1 s2 s3) rfl) (PW.cons (Ck.one (Cy.one (b':=false) (is:=[]) rfl (fun h=>by cases h)) rfl) PW.nil))) fun h=>nomatch h
  |cons b u=>
   have Z:=G (by simp);dsimp only[JQ] at h;have⟨os,a0,h⟩:=AL h;have⟨W,hW,h⟩:=AL h;split at h;rotate_left
   ·cases h
   rename_i bl;have⟨g1,g2,g3⟩:=bl;have⟨rk,bo,h⟩:=AL h;have br:=rN a0;refine Ay ?_;refine CR ((S9 (xs:=b::u) (L:=(b::u).length) (MX (by simp)) rfl (by simp) (by omega) a0).mono ?_);rintro v F bd ⟨rfl,eV,ap⟩;dsimp only at ap;have bs:u.length+1=os.length:=br.symm;have v6:F 6=some (.bx [.mo 2,.mo 3,.mo 4]):=(by rw[eV,Aa];exact(A o p (b::u) (fun _=>Z.1) 6 (by decide)).trans s0);have v2:F 2=some (.mo (AZ .string vI T) false):=(by rw[eV,Aa];exact(A o p (b::u) (fun _=>Z.1) 2 (by decide)).trans s1);have v3:F 3=some (.mo (AZ qb_ vR R) false):=(by rw[eV,Aa];exact(A o p (b::u) (fun _=>Z.1) 3 (by decide)).trans s2);have v4:F 4=some (.mo (AZ qb_ vI []) false):=(by rw[eV,Aa];exact(A o p (b::u) (fun _=>Z.1) 4 (by decide)).trans s3);have vo:F o=some (.rw (os.map Ag) 2 p false false):=(by rw[eV,Ap]);have vf:∀k,aE<=k->F k=none:=fun k I=>(by rw[eV,Aa];exact Af o p aE (b::u) (fun _=>Z.2) h7 k I);refine Z1 bs ?_;refine EZ ?_;refine CR ((lB_ (fun k I=>vf k (by dsimp only at I;omega)) (by omega) g3 v6 v2 v3 v4 vo ⟨by decide,by decide,by decide,by decide,by decide,by decide⟩ ⟨by omega,by omega,by omega,by omega⟩ hW g1 g2 bo).mono ?_);rintro v be bg ⟨rfl,⟨K,hK,aq⟩,ar⟩;dsimp only at ar;cases rk with
   |none=>
    cases h;refine Z0 ?_;refine ET (c:=true) rfl rfl ?_;refine Ay ?_;refine AP ?_;exact Pw (b:=true) (v:=.tu [.v (.pointer none),.v (.int .i64 14)]) (by simp -implicitDefEqProofs only[go_sem, ↓reduceIte,Ap,Nat.reduceEqDiff]<;>rfl) (.tu (PW.cons (Ck.one (Cy.one (b':=false) (is:=[]) rfl (fun _=>rfl)) rfl) (PW.cons (Ck.one (Cy.one (b':=false) (is:=[]) rfl (fun _=>rfl)) rfl) PW.nil))) fun h=>nomatch h
   |some K'=>
    cases h;obtain rfl:=hK K' rfl;subst aq;have x6:(upd 4 (some (.mo (AZ qb_ vI K') false)) F:Hp) 6=_:=(Ai _ _ (by decide)).trans v6;have x4:(upd 4 (some (.mo (AZ qb_ vI K') false)) F:Hp) 4=_:=Ap _ _ _;have x2:(upd 4 (some (.mo (AZ qb_ vI K') false)) F:Hp) 2=_:=(Ai _ _ (by decide)).trans v2;have x3:(upd 4 (some (.mo (AZ qb_ vI K') false)) F:Hp) 3=_:=(Ai _ _ (by decide)).trans v3;refine Z0 ?_;refine DN (c:=false) rfl rfl ?_;refine AP ?_;refine Ay ?_;refine AP ?_;exact Pw (b:=true) (v:=.tu [.pt 6 0,.v (.int .i64 0)]) (by simp -implicitDefEqProofs only[go_sem, ↓reduceIte,Ap,Nat.reduceEqDiff]<;>rfl) (.tu (PW.cons (Ck.one (JP (d3:=false) x6 x2 x3 x4) rfl) (PW.cons (Ck.one (Cy.one (b':=false) (is:=[]) rfl (fun h=>by cases h)) rfl) PW.nil))) fun h=>nomatch h
def PJ (ex:List AS):Prop:=∀x∈ex,x.kind=1\/x.kind=2\/x.kind=3\/x.kind=4\/x.kind=5
theorem Z2:PJ []:=by intro _ h;cases h
theorem XD (x:Aj)(c:Int):(jS_ x c).out=x.out:=by unfold jS_;split<;>rfl
theorem oT (x:Aj)(t:ByteArray):(Do x t).out=x.out:=by
 unfold Do;split
 ·split
  ·rfl
  exact XD _ _
 rfl
theorem Z3 {r:Aj × ByteArray}(h:zI_ n x=some r):r.1.out=x.out:=by
 unfold zI_ at h;split at h
 ·split at h
  ·split at h
   ·have⟨b,_,h⟩:=AL h;split at h
    ·cases h;rfl
    cases h;exact XD _ _
   cases h;exact XD _ _
  cases h;exact XD _ _
 cases h;rfl
theorem Z4 {s:AS}{a:Int}(c:PJ x.out)(d:s.kind=1\/s.kind=2\/s.kind=3\/s.kind=4\/s.kind=5):PJ (DO x s a).out:=by
 unfold DO;split
 ·split
  ·exact c
  intro y b;rcases Ly.1 b with b |b
  ·exact c y b
  grind
 exact c
def Qc (g:Aj->Option Aj):Prop:=∀x y,g x=some y->PJ x.out->PJ y.out
theorem Qd {ex:Aj->Option Aj}(d:Qc ex):Qc (EU n ex):=by
 intro x y h b;unfold EU at h;split at h;rotate_left
 ·cases h
 split at h
 ·split at h
  ·cases h;rw[XD];exact b
  have⟨z,c,h⟩:=AL h;split at h
  ·cases h;show PJ (Do z Ha).out;rw[oT];exact d _ _ c b
  cases h
 have⟨r,c,h⟩:=AL h;have e:=Z3 c;split at h
 ·have⟨s,g,h⟩:=AL h;have i:=Z3 g;cases h;exact Z4 (by grind) (.inr (.inl rfl))
 cases h;exact Z4 (by rw[e];exact b) (.inl rfl)
theorem oU {n:Nat}{ex:Aj->Option Aj}(b:Qc ex):∀c,Qc (G6 n ex c)
 |0,_,_,h,_=>by cases h
 |c+1,x,y,h,d=>by
  unfold G6 at h;split at h
  ·split at h
   ·have⟨z,e,h⟩:=AL h;split at h
    ·exact oU b c _ _ h (Z4 (Qd b _ _ e d) (.inr (.inr (.inr (.inr rfl)))))
    cases h
   cases h;exact d
  cases h
theorem oV {b:Aj->Option Aj}(d:Qc b):∀c,Qc (GH b c)
 |0,_,_,h,_=>by cases h
 |c+1,x,y,h,e=>by
  unfold GH at h;split at h
  ·split at h
   ·have⟨z,g,h⟩:=AL h;split at h
    ·refine oV d c _ _ h (Z4 (d _ _ g e) ?_);grind
    cases h
   cases h;exact e
  cases h
theorem fN {n c:Nat}:∀f,Qc (E8 n c f)
 |0,_,_,h,_=>by cases h
 |f+1,x,y,h,g=>by
  have d:Qc (F6 n (E8 n c f) c):=fun a b e i=>by
   unfold F6 at e;have⟨z,j,e⟩:=AL e;exact oU (fN f) c _ _ e (Qd (fN f) _ _ j i)
  unfold E8 at h;have⟨z,k,h⟩:=AL h;exact oV d c _ _ h (d _ _ k g)
def EV (g:AW):Prop:=g.subs.length<=51/\g.expr.length<=200/\(g.subs= []\/g.expr= [])/\(∀s∈g.subs,s.id_=ByteArray.empty)/\PJ g.expr
def Ew (l:List AG):Prop:=l.length<=201/\∀t∈l,t.rels.length<=200/\∀g∈t.rels,EV g
theorem oW {n:Nat}:∀(c:Nat) {x:Aj} {d:List AN} {y:Aj × List AN},(∀s∈d,s.id_=ByteArray.empty)->G7 n c x d=some y->y.2.length<=51/\∀s∈y.2,s.id_=ByteArray.empty
 |0,_,_,_,_,h=>by cases h
 |c+1,x,d,y,g,h=>by
  have e:∀a b:ByteArray,∀s∈d++[⟨a,ByteArray.empty,b⟩],s.id_=ByteArray.empty:=fun a b s i=>by
   grind
  unfold G7 at h;split at h;rotate_left
  ·cases h
  rename_i j;split at h
  ·have⟨k,_,h⟩:=AL h;have⟨l,_,h⟩:=AL h;split at h
   ·exact oW c (e _ _) h
   grind
  grind
theorem SX {n c f:Nat}{x:Aj}{y:Aj × AW}(h:Eh n c f x=some y):EV y.2:=by
 unfold Eh at h;split at h;rotate_left
 ·cases h
 obtain⟨r,_,h⟩:=AL h;split at h
 ·obtain⟨z,hz1,h⟩:=AL h;split at h
  ·rename_i hz;cases h;exact⟨Lg _,hz.2.2.1,.inl rfl,(by intro _ h;cases h),fN f _ _ hz1 Z2⟩
  cases h
 obtain⟨p,h2,rfl⟩:=La.1 h;obtain⟨q1,q2⟩:=oW c (d:=[]) (by intro _ h;cases h) h2;exact⟨q1,Lg _,.inr rfl,q2,Z2⟩
theorem fO {n c f:Nat}:∀(k:Nat) {x:Aj} {b:List AW} {y:Aj × List AW},(∀g∈b,EV g)->Hb n c f k x b=some y->y.2.length<=200/\∀g∈y.2,EV g
 |0,_,_,_,_,h=>by cases h
 |k+1,x,b,y,d,h=>by
  unfold Hb at h;split at h;rotate_left
  ·cases h
  rename_i e;split at h
  ·split at h
   ·exact fO k d h
   have⟨p,i,h⟩:=AL h;refine fO k (fun g j=> ?_) h;grind [List.mem_singleton,SX]
  cases h;exact⟨e.2.2,d⟩
theorem yH {c:Nat}{y:Aj × AG}(h:Kz n c f x=some y):y.2.rels.length<=200/\∀g∈y.2.rels,EV g:=by
 unfold Kz at h;have⟨r,_,h⟩:=AL h;have⟨q,b,h⟩:=AL h;cases h;split at b
 ·obtain⟨p,d,rfl⟩:=La.1 b;exact fO c (fun _ e=>by cases e) d
 grind
theorem oX {n c f:Nat}:∀(k:Nat) {x:Aj} {b:List AG} {y:Aj × List AG},(∀t∈b,t.rels.length<=200/\∀g∈t.rels,EV g)->JC n c f k x b=some y->Ew y.2
 |0,_,_,_,_,h=>by cases h
 |k+1,x,b,y,d,h=>by
  unfold JC at h;split at h;rotate_left
  ·cases h
  rename_i e;split at h
  ·have⟨p,i,h⟩:=AL h;refine oX k (fun g j=> ?_) h;grind [List.mem_singleton,yH]
  cases h;exact⟨e.2.2,d⟩
theorem yI {c:Nat}{s:ByteArray}{y:List AG × Int × Int}(h:K0 n c f s=some y):Ew y.1:=by
 unfold K0 at h;have⟨t,_,h⟩:=AL h;split at h
 ·have⟨r,d,h⟩:=AL h;have e:=oX c (fun _ b=>by cases b) d;split at h
  ·cases h;exact e
  cases h;exact⟨Lg _,fun _ b=>by cases b⟩
 cases h;exact⟨Lg _,fun _ b=>by cases b⟩
def MY (n:Nat)(s:ByteArray):Option (List AG):=(K0 n n n s).map (·.1)
theorem yJ (s:ByteArray)(n:Nat)(i:s.size+100200<=n):∃l,MY n s=some l/\Ew l:=by
 have⟨t,e,j,b⟩:=oo s n (by omega);have hp:∃y,K0 n n n s=some y:=by
  unfold K0;rw[e,Zo];split
  ·have⟨r,h⟩:=fR (n:=n) (L:=t.1) (fun u d=>yO (by have:=b u d;omega) (by have:=b u d;omega)) (c:=n) (f:=n) (by omega) (by omega) n ⟨t.1,0,(s.size:Int),0,0,0,[],0⟩ [] rfl ⟨by show t.1.length<_;omega,Lg _,Lg _,Lg _⟩ rfl (Lg _) (fun _=>Lg _) (by show t.1.length-0<_;omega);rw[h,Zo];split
   ·exact⟨_,rfl⟩
   exact⟨_,rfl⟩
  exact⟨_,rfl⟩
 have⟨y,g⟩:=hp;exact⟨y.1,by unfold MY;rw[g];rfl,yI g⟩
abbrev CX:AW:=⟨ByteArray.empty,[],[]⟩
def GZ (S:AC):Prop:=∀p∈S.rels,EV p.2
theorem JS {S:AC}(h:GZ S)(m:AA):EV (qf_ m CX S.rels):=by
 unfold qf_;cases b:mget m S.rels with
 |none=>exact⟨Lg _,Lg _,.inl rfl,(by intro _ h;cases h),Z2⟩
 |some g=>exact h _ (iC b)
theorem Hd (n:Nat)(S:AC)(a b:ByteArray):HK n S a b=some (qf_ ⟨a,b⟩ CX S.rels,Av ⟨a,b⟩ S.rels):=rfl
def Xq (S:AC)(b:ByteArray)(s:AN):Prop:=Av (⟨s.type_,b⟩:AA) S.rels=true/\(s.rel.toList==({ data:= #[] }:ByteArray).toList)=true
theorem rB {n:Nat}{S:AC}{x:AS}{g:AW}{b:Bool}(l:g.subs.length<1000000):∀(d i c:Nat),d=g.subs.length-i->i<=g.subs.length->d<c->∃r,Pc n S x (g,b) c (i:Int)=some r/\(r= .inl ()->∀s∈g.subs.drop i,Xq S x.b s)/\∀e,r= .inr e->e≠0
 |0,i,c,m,o,p=>by
  obtain⟨c,rfl⟩:=sx c;unfold Pc;dsimp only;rw[C6,if_neg (by decide),LG (by omega)];exact⟨_,rfl,fun _ _ h=>(by cases h),fun _ h=>(by cases h)⟩
 |d+1,i,c,m,o,p=>by
  obtain⟨c,rfl⟩:=sx c;have k:i<g.subs.length:=by omega
  unfold Pc;dsimp only;rw[Cp,if_pos rfl,Pt,Le k,Zo,Hd,Zo,Lm k];dsimp only;cases q:Av (⟨g.subs[i].type_,x.b⟩:AA) S.rels with
  |false=>exact⟨_,rfl,fun h=>(by cases h),fun _ h=>(by cases h;decide)⟩
  |true=>
   rw[if_pos rfl];cases t:(g.subs[i].rel.toList==({ data:= #[] }:ByteArray).toList) with
   |false=>exact⟨_,rfl,fun h=>(by cases h),fun _ h=>(by cases h;decide)⟩
   |true=>
    rw[if_pos rfl,Al];have⟨r,u,v,w⟩:=rB (n:=n) (S:=S) (x:=x) (b:=b) l d (i+1) c (by omega) (by omega) (by omega);refine⟨r,u,fun y s j=> ?_,w⟩;rcases Lr.1 j with rfl |j
    ·exact⟨q,t⟩
    exact v y s j
def Xr (S:AC)(a:ByteArray)(x:AS):Prop:=Av (⟨a,x.a⟩:AA) S.rels=true/\(qf_ (⟨a,x.a⟩:AA) CX S.rels).subs≠[]/\∀s∈(qf_ (⟨a,x.a⟩:AA) CX S.rels).subs,Xq S x.b s
theorem rg_ {S:AC}{x:AS}(i:GZ S)(l:1000<n):∃e,Qw n S a x=some e/\(e=0->Xr S a x):=by
 unfold Qw;rw[Hd,Zo];dsimp only;have m:=(JS i ⟨a,x.a⟩).1;cases j:Av (⟨a,x.a⟩:AA) S.rels with
 |false=>exact⟨_,rfl,fun h=>by cases h⟩
 |true=>
  rw[if_pos rfl];cases d:(((qf_ (⟨a,x.a⟩:AA) CX S.rels).subs.length:Int)==0) with
  |true=>exact⟨_,rfl,fun h=>by cases h⟩
  |false=>
   rw[if_neg (by decide)];have⟨r,c,k,o⟩:=rB (n:=n) (S:=S) (x:=x) (g:=qf_ (⟨a,x.a⟩:AA) CX S.rels) (b:=true) (by omega) _ 0 n rfl (Lg _) (by omega);have c:Pc n S x (qf_ (⟨a,x.a⟩:AA) CX S.rels,true) n 0=some r:=c;rw[c,Zo];cases r with
   |inl u=>
    refine⟨0,rfl,fun _=>⟨j,fun h=> ?_,k rfl⟩⟩;rw[h] at d;cases d
   |inr e=>grind
def Xs (S:AC)(s:AN):Prop:=qf_ s.type_ 0 S.types≠0/\((s.rel.toList==({ data:= #[] }:ByteArray).toList)=true\/Av (⟨s.type_,s.rel⟩:AA) S.rels=true)
theorem rC {n:Nat}{S:AC}{g:AW}:∀l:List AN,∃r,Dl (Qx n S g) (Uy n S g) l ()=some r/\(r= .inl ()->∀s∈l,Xs S s)/\∀e,r= .inr e->e≠0
 |[]=>⟨_,rfl,fun _ _ h=>(by cases h),fun _ h=>(by cases h)⟩
 |s::l=>by
  have⟨r,i,j,k⟩:=rC (n:=n) (S:=S) (g:=g) l;rw[Dl];generalize Dl (Qx n S g) (Uy n S g) l=K at i⊢;unfold Qx;dsimp only;rw[Hd,Zo,i];dsimp only;split
  ·simp
  rename_i c;have c:qf_ s.type_ 0 S.types≠0:=fun e=>c (by rw[e];rfl);split
  ·rename_i h;refine⟨r,rfl,fun d x b=> ?_,k⟩;rcases Lr.1 b with rfl |b
   ·exact⟨c,.inl h⟩
   exact j d x b
  split
  ·rename_i h;refine⟨r,rfl,fun d x b=> ?_,k⟩;rcases Lr.1 b with rfl |b
   ·exact⟨c,.inr h⟩
   exact j d x b
  simp
def Jz (S:AC)(a:ByteArray)(x:AS):Prop:=(x.kind=1->Av (⟨a,x.a⟩:AA) S.rels=true)/\(x.kind=2->Xr S a x)
theorem rD {n:Nat}{S:AC}{a:ByteArray}{g:AW}(o:GZ S)(p:1000<n):∀l:List AS,∃r,Dl (Qy n S a g) (Uz n S a g) l ()=some r/\(r= .inl ()->∀x∈l,Jz S a x)/\∀e,r= .inr e->e≠0
 |[]=>⟨_,rfl,fun _ _ h=>(by cases h),fun _ h=>(by cases h)⟩
 |x::l=>by
  have⟨r,q,j,k⟩:=rD (n:=n) (a:=a) (g:=g) o p l;rw[Dl];generalize Dl (Qy n S a g) (Uz n S a g) l=K at q⊢;unfold Qy;dsimp only;rw[q];split
  ·rename_i c;have⟨e,s,t⟩:=rg_ (a:=a) (x:=x) o p;rw[s,Zo];split
   ·grind
   rename_i h;refine⟨r,rfl,fun d y b=> ?_,k⟩;rcases Lr.1 b with rfl |b
   ·exact⟨fun i=>(by rw[i] at c;cases c),fun _=>t (by simpa using h)⟩
   exact j d y b
  rename_i c;rw[Hd,Zo];dsimp only;split
  ·rename_i h;refine⟨r,rfl,fun d y b=> ?_,k⟩;rcases Lr.1 b with rfl |b
   ·exact⟨fun _=>h,fun m=>by rw[m] at c;exact absurd rfl c⟩
   exact j d y b
  split
  ·simp
  rename_i i;refine⟨r,rfl,fun d y b=> ?_,k⟩;rcases Lr.1 b with rfl |b
  ·exact⟨fun h=>(by rw[h] at i;exact absurd rfl i),fun m=>by rw[m] at c;exact absurd rfl c⟩
  exact j d y b
def IM (S:AC)(a:ByteArray)(g:AW):Prop:=(∀s∈g.subs,Xs S s)/\∀x∈g.expr,Jz S a x
theorem rh_ {S:AC}{g:AW}(h:GZ S)(b:EV g)(i:1000<n):∃e,TB n S a g=some e/\(e=0->IM S a g):=by
 have o:=b.1;have p:=b.2.1;have⟨r,j,k,s⟩:=rC (n:=n) (S:=S) (g:=g) g.subs;have⟨q,l,m,t⟩:=rD (n:=n) (a:=a) (g:=g) h i g.expr;have c:qF_ n S g n 0=_:=rT n S g (by omega) n () 0 (Lg _) (by omega);have d:qz_ n S a g n 0=_:=rU n S a g (by omega) n () 0 (Lg _) (by omega);rw[LJ] at c d;unfold TB;rw[c,j,Zo];cases r with
 |inr e=>grind
 |inl u=>
  dsimp only;rw[d,l,Zo];cases q with
  |inr e=>grind
  |inl u=>exact⟨0,rfl,fun _=>⟨k rfl,m rfl⟩⟩
theorem Qu {b:Type}{c:Bool}{k:Option b}(h:c=true):DM c k=k:=by
 subst h;rfl
def GB (S:AC)(a:ByteArray)(x:AS):List AJ:=if x.kind==1 then[⟨⟨a,x.a⟩,0⟩] else(qf_ (⟨a,x.a⟩:AA) CX S.rels).subs.map fun s=>⟨⟨s.type_,x.b⟩,0⟩
theorem rE {n:Nat}{x:AS}{g:AW}{b:Bool}(j:g.subs.length<1000000):∀(d i c:Nat) (e:List AJ),d=g.subs.length-i->i<=g.subs.length->d<c->e.length<=i->U0 n x (g,b) c (e,(i:Int))=some (e++(g.subs.drop i).map fun s=>⟨⟨s.type_,x.b⟩,0⟩)
 |0,i,c,e,k,l,m,o=>by
  obtain⟨c,rfl⟩:=sx c;unfold U0;dsimp only;rw[C6,if_neg (by decide),LG (by omega)];simp
 |d+1,i,c,e,k,l,m,o=>by
  obtain⟨c,rfl⟩:=sx c;have h:i<g.subs.length:=by omega
  unfold U0;dsimp only;rw[Cp,if_pos rfl,Pt,Le h,Zo,DV (by simp only[Ll];omega),Zo,Al,rE j d (i+1) c _ (by omega) (by omega) (by omega) (by simp only[Ld,Ll];omega),Lm h];simp only[Li,Lq,LL,LA]
theorem ri_ {S:AC}{x:AS}(b:GZ S)(c:1000<n):U1 n S a x=some (GB S a x):=by
 unfold U1 GB;split
 ·rfl
 have d:=(JS b ⟨a,x.a⟩).1;rw[Hd,Zo];have e:U0 n x (qf_ (⟨a,x.a⟩:AA) CX S.rels,Av (⟨a,x.a⟩:AA) S.rels) n (([]:List AJ),0)=_:=rE (by omega) _ 0 n [] rfl (Lg _) (by omega) (Lc _);rw[e];rfl
def DP (x:AS)(w:AJ):AJ:=if x.kind==4 then⟨w.to,1⟩ else w
theorem iD {n:Nat}{x:AS}{l:List AJ}(e:l.length<4611686018427387904-1):∀(d i c:Nat) (t:List AJ),d=l.length-i->i<=l.length->d<c->t=(l.take i).map (DP x)++l.drop i->Qz n x l c (t,(i:Int))=some (l.map (DP x))
 |0,i,c,t,m,o,p,b=>by
  obtain⟨c,rfl⟩:=sx c;unfold Qz;rw[C6,if_neg (by decide),b,LG (by omega),ND (by omega),LX]
 |d+1,i,c,t,m,o,p,b=>by
  obtain⟨c,rfl⟩:=sx c;have g:i<l.length:=by omega
  have h:l.drop i=l[i]::l.drop (i+1):=Lm g;have j:(l.take (i+1)).map (DP x)=(l.take i).map (DP x)++[DP x l[i]]:=by rw[List.take_succ_eq_append_getElem g,Nc];rfl
  have hp:((l.take i).map (DP x)).length=i:=by rw[LE,LC];omega
  unfold Qz;rw[Cp,if_pos rfl,Al];cases k:(x.kind==4) with
  |false=>
   rw[if_neg (by decide)];refine iD e d (i+1) c t (by omega) (by omega) (by omega) ?_;rw[b,h,j,show DP x l[i]=l[i] from if_neg (by rw[k];decide)];simp
  |true=>
   rw[if_pos rfl,Pt,b,h,Nm (by omega),hp,BS];simp only[Nf,Zo,Lk];refine iD e d (i+1) c _ (by omega) (by omega) (by omega) ?_;rw[j,show DP x l[i]=⟨l[i].to,1⟩ from if_pos k,Om _ _ (by omega),hp,BS,OC,Lq];rfl
def Dc (S:AC)(a:ByteArray)(b:List (List AJ))(x:AS):List (List AJ):=if x.kind==1||x.kind==2 then b++[GB S a x] else if 2<=b.length then b.take (b.length-2)++[b.getD (b.length-2) []++(b.getD (b.length-1) []).map (DP x)] else b
def JT (b:List (List AJ)):Nat:=(b.map List.length).sum
theorem iE (a b:List (List AJ)):JT (a++b)=JT a+JT b:=by unfold JT;rw[Nc,List.sum_append]
theorem rF {b:List (List AJ)}(h:2<=b.length):∃p x y,b=p++[x,y]:=by
 refine⟨b.take (b.length-2),b[b.length-2],b[b.length-1],?_⟩;grind [List.take_append_drop,List.drop_eq_getElem_cons,List.drop_of_length_le]
theorem rG {n:Nat}{S:AC}{a:ByteArray}{ex:List AS}(m:GZ S)(z:100000<n):∀(l:List AS) (b:List (List AJ)),(∀x∈l,Jz S a x)->(∀w∈b,w≠[])->b.length+l.length<=1000->JT b+60*l.length<=60000->
  Dl (Xv n S a ex) (al n S a ex) l b=some (l.foldl (Dc S a) b)/\(∀w∈l.foldl (Dc S a) b,w≠[])/\(l.foldl (Dc S a) b).length<=1000/\JT (l.foldl (Dc S a) b)<=60000
 |[],b,_,d,o,q=>⟨rfl,d,by simpa using o,by simpa using q⟩
 |x::l,b,hp,d,o,q=>by
  simp only[Lh] at o q;have A:=hp x (Lo ..);have B:∀y∈l,Jz S a y:=fun y C=>hp y (Lj _ C);have k:=fun E g e F=>rG (ex:=ex) m z l E B g e F;rw[Dl,Bs];generalize Dl (Xv n S a ex) (al n S a ex) l=K at k⊢;unfold Xv;dsimp only;by_cases c:(x.kind==1||x.kind==2)=true
  ·have r:(if (x.kind==1)=true then some true else some (x.kind==2))=some true:=by
    cases g:(x.kind==1) with |true=>rfl |false=>rw[g,Be] at c;rw[c];rfl
   have i:Dc S a b x=b++[GB S a x]:=if_pos c;have G:=(JS m ⟨a,x.a⟩).1;have H:(GB S a x).length<=51/\GB S a x≠[]:=by
    unfold GB;split
    ·exact⟨by simp,by simp⟩
    rename_i g;have e:x.kind=2:=by
     rw[LR] at c;rcases c with h |h
     ·exact absurd h g
     exact eq_of_beq h
    refine⟨by rw[LE];exact G,fun h=>(A.2 e).2.1 (List.map_eq_nil_iff.1 h)⟩
   rw[r,Zo,if_pos rfl,ri_ m (by omega),Zo,DV (by simp only[Ll];omega),Zo,i];refine k _ (fun w s=> ?_) (by rw[Ld,Ll];omega) ?_
   ·rcases Ly.1 s with h |h
    ·exact d w h
    rw[Lt.1 h];exact H.2
   rw[iE]
   have:JT [GB S a x]=(GB S a x).length:=(by simp[JT]);omega
  have r:(if (x.kind==1)=true then some true else some (x.kind==2))=some false:=by
   rw[LR] at c;rw[if_neg fun h=>c (.inl h)];exact congrArg some (Bool.eq_false_iff.2 fun h=>c (.inr h))
  rw[r,Zo,if_neg (by decide)];by_cases e:2<=b.length;rotate_left
  ·have i:Dc S a b x=b:=by
    unfold Dc;rw[if_neg c,if_neg e]
   rw[C6,if_neg (by decide),i];exact k _ d (by omega) (by omega)
  obtain⟨p,u,v,rfl⟩:=rF e;have j:(p++[u,v]).length=p.length+2:=by rw[Ld];rfl
  have i:Dc S a (p++[u,v]) x=p++[u++v.map (DP x)]:=by
   unfold Dc;rw[if_neg c,if_pos e,j];simp
  have t:u≠[]:=d u (by simp);have I:v≠[]:=d v (by simp);have U:JT (p++[u,v])=JT p+(u.length+v.length):=by rw[iE];simp[JT]
  rw[decide_eq_true (by rw[j];omega),if_pos rfl];have J:i64.wrap (((p++[u,v]).length:Int)-1)=((p.length+1:Nat):Int):=by
   rw[j];exact(congrArg i64.wrap (show((p.length+2:Nat):Int)-1=((p.length+1:Nat):Int) by omega)).trans JG
  have L:i64.wrap (((p++[u,v]).length:Int)-2)=((p.length:Nat):Int):=by
   rw[j];exact(congrArg i64.wrap (show((p.length+2:Nat):Int)-2=((p.length:Nat):Int) by omega)).trans JG
  have M:CD (p++[u,v]) ((p.length+1:Nat):Int)=some v:=by rw[Pt,Nm (by omega)];simp
  have N:CD (p++[u,v]) ((p.length:Nat):Int)=some u:=by rw[Pt,Nm (by omega)];simp
  have O:FV (p++[u,v]) 0 ((p.length:Nat):Int)=some p:=by
   unfold FV;rw[if_pos ⟨Bp _,by omega,by rw[j];omega⟩];simp
  have P:v.length≠0:=fun h=>I (LV h);have Q:u.length≠0:=fun h=>t (LV h);have R:Qz n x v n (v,0)=some (v.map (DP x)):=iD (by omega) _ 0 n v rfl (Lg _) (by omega) (by simp)
  rw[J,L,M,N,O,Zo,decide_eq_false P,if_neg (by decide),Qu Cp,R,Zo,Zo,Zo,decide_eq_false Q,if_neg (by decide),Qu Cp,DV (by rw[LE];omega),Zo,DV (by simp only[Ll];omega),Zo,i];refine k _ (fun w s=> ?_) (by rw[Ld,Ll];omega) ?_
  ·rcases Ly.1 s with h |h
   ·exact d w (Nu _ h)
   rw[Lt.1 h];intro T;exact t (List.append_eq_nil_iff.1 T).1
  rw[iE]
  have:JT [u++v.map (DP x)]=u.length+v.length:=by simp[JT]
  omega
end Go.Proofs.YtnmkbmefohakmaaGreat.Ab
