/-
 Schemas that hold together: any types hold together or not; ranks do not fall along ways. No program in sight.
-/
import Derived.Test.YtnmkbmefohakmaaGreatWlr
set_option linter.all false
namespace Go.Proofs.YtnmkbmefohakmaaGreat.Ab
open Go.RowKit IntKind
theorem zV {hp:Hp}{nx:Nat}{x:AV}(d:∀j,nx<=j->hp j=none):AT Tryz.prog 91 [x,.v (.slice none 0 0)] hp nx fun v e f=>v= .v (.bool true)/\e=hp/\nx<=f:=by
 refine zq Tryz.func91 ?_;refine Dg ?_;refine Dy ?_;refine Dw (α:={ k:Nat // nx<=k }) (fun k=>⟨upd 1 (.v (.slice none 0 0)) AJ,upd (nx+1) (some (.mo [] false)) hp,k.1⟩) ?_ ?_
 ·refine CV ?_;refine DV (α:=Unit) (fun _=>⟨upd 1 (.v (.slice none 0 0)) (upd 16 (.v (.int .i64 0)) (upd 17 (.v (.int .i64 0)) AJ)),upd (nx+1) (some (.mo [] false)) hp,nx+1+2+3⟩) (fun _=>0) () ?_ ?_
  ·exact CW
  rintro⟨⟩;refine Dg ?_;exact⟨⟨_,by omega⟩,CW⟩
 rintro⟨k,l⟩;refine Dy ?_;refine CV ?_;refine DV (α:={ t:Bool × Nat // nx<=t.2 }) (fun t=>⟨upd 1 (.v (.slice none 0 0)) (upd 8 (.v (.bool t.1.1)) AJ),upd (nx+1) (some (.mo [] false)) hp,t.1.2⟩) (fun t=>if t.1.1 then 1 else 0) ⟨(true,k+1),by dsimp only;omega⟩ ?_ ?_
 ·exact CW
 rintro⟨⟨b,c⟩,g⟩;dsimp only at g;refine AU (AU ?_);refine ZT 1 ?_;cases b with
 |false=>
  refine FN ?_;refine Ax ?_;refine AQ ?_;refine⟨_,hp,rfl,⟨fun i=> ?_⟩,rfl,rfl,by dsimp only;omega⟩;by_cases h:i=nx+1
  ·exact .inl (d i (by omega))
  ·exact .inr (Aj _ _ h).symm
 |true=>
  refine FN ?_;refine CV ?_;refine Dg ?_;refine CV ?_;refine DV (α:=Unit) (fun _=>⟨upd 1 (.v (.slice none 0 0)) (upd 8 (.v (.bool false)) (upd 29 (.v (.int .i64 0)) (upd 30 (.v (.int .i64 0)) AJ))),upd (nx+1) (some (.mo [] false)) hp,c+1+1+3⟩) (fun _=>0) () ?_ ?_
  ·exact CW
  rintro⟨⟩;refine Dg ?_;exact⟨⟨(false,c+1+1+3+1),by dsimp only;omega⟩,CW,Nat.zero_lt_one⟩
def Pt (n:Nat)(S:AD)(a:ByteArray):List AZ->List AA->Option (List AA ⊕ Int)
 |[],b=>some (.inl b)
 |g::r,b=>if b.length<1000000000 then(Wt n S a g).bind fun e=>if e==0 then Pt n S a r (b++[⟨a,g.name⟩]) else some (.inr e) else none
def Pu (n:Nat)(S:AD):List AG->List AA->Option (List AA ⊕ Int)
 |[],b=>some (.inl b)
 |t::r,b=>(Pt n S t.name t.rels b).bind fun | .inl c=>Pu n S r c | .inr e=>some (.inr e)
def Hx (n:Nat)(T:List (ByteArray × Int))(R:List (AA × AZ)):List AA ⊕ Int->Option (AD ⊕ Int)
 | .inr e=>some (.inr e)
 | .inl []=>some (.inl ⟨T,R,[]⟩)
 | .inl (m::r)=>(GZ n (m::r) 0 r.length).bind fun os=>(Rz n ⟨T,R,[]⟩ os []).bind fun W=>if (∀m∈os,(mget m W).isSome=true)/\(∀p∈W,p.2.length<1000000000)/\os.length<1000000000 then (Kq W (os.length:Int) os n []).bind fun |none=>some (.inr 14) |some K=>some (.inl ⟨T,R,K⟩) else none
def HO (n:Nat)(l:List AG):Option (AD ⊕ Int):=if l.length<1000000/\∀t∈l,t.rels.length<1000000 then (if (zv_ l [] []).2.2==0 then(Pu n ⟨(zv_ l [] []).1,(zv_ l [] []).2.1,[]⟩ l []).bind (Hx n (zv_ l [] []).1 (zv_ l [] []).2.1) else some (.inr (zv_ l [] []).2.2)) else none
def Wn:AD ⊕ Int->D
 | .inl S=>.tu [.pt (Av S) 0,.v (.int .i64 0)]
 | .inr e=>.tu [.v (.pointer none),.v (.int .i64 e)]
variable {K:List (AA × Int)}{S:AD}{a:ByteArray}{m:AA}{n:Nat}{os:List AA}
set_option maxRecDepth 8000 in
theorem pm {l:List AG}{r:AD ⊕ Int}(h:HO n l=some r):CP Tryz.prog 62 [.d (.sl (l.map AS))] (Wn r) false:=by
 unfold HO at h;split at h;rotate_left
 ·cases h
 rename_i hg;have⟨a2,aE⟩:=hg;obtain⟨T,eT⟩:∃T,T=(zv_ l [] []).1:=⟨_,rfl⟩;obtain⟨R,eR⟩:∃R,R=(zv_ l [] []).2.1:=⟨_,rfl⟩;obtain⟨e,ee⟩:∃e,e=(zv_ l [] []).2.2:=⟨_,rfl⟩;have hc:zv_ l [] []=(T,R,e):=by rw[eT,eR,ee]
 rw[hc] at h;dsimp only at h;refine ZC Ev FI (rs:= #[.tmp 2,.tmp 3]) Tryz.func62 ?_;refine Dg ?_;have hH:upd 6 (some (.bx [.mo 2,.mo 3,.mo 4])) (upd 4 (some (.mo [] false)) (upd 3 (some (.mo [] false)) (upd 2 (some (.mo [] false)) AK)))=(upd 6 (some (.bx [.mo 2,.mo 3,.mo 4])) (upd 4 (some (.mo (Aa qa_ vI []) false)) (upd 3 (some (.mo (Aa qa_ vR []) false)) (upd 2 (some (.mo (Aa .string vI []) false)) AK))):Hp):=rfl;rw[hH];obtain⟨J,P⟩:∃J,J=(upd 6 (some (.bx [.mo 2,.mo 3,.mo 4])) (upd 4 (some (.mo (Aa qa_ vI []) false)) (upd 3 (some (.mo (Aa qa_ vR []) false)) (upd 2 (some (.mo (Aa .string vI []) false)) AK))):Hp):=⟨_,rfl⟩;rw[<-P];have q0:J 6=some (.bx [.mo 2,.mo 3,.mo 4]):=by rw[P];rfl
 have q1:J 2=some (.mo (Aa .string vI []) false):=by rw[P];rfl
 have q2:J 3=some (.mo (Aa qa_ vR []) false):=by rw[P];rfl
 have q3:J 4=some (.mo (Aa qa_ vI []) false):=by rw[P];rfl
 have qf:∀j,7<=j->J j=none:=fun j M=>by rw[P,Ac,Ac,Ac,Ac];rfl
 refine Ax ?_;refine CO ((zU (nx:=12) (fun j M=>qf j (by omega)) a2 aE q0 q1 q2 (by decide) (by decide) (by decide) hc).mono ?_);rintro v x a3 ⟨rfl,eS,b2⟩;have s0:x 6=some (.bx [.mo 2,.mo 3,.mo 4]):=by rw[eS];unfold hpC;rw[Aj _ _ (by decide),Aj _ _ (by decide)];exact q0
 have s1:x 2=some (.mo (Aa .string vI T) false):=by rw[eS];unfold hpC;rw[Aj _ _ (by decide),At]
 have s2:x 3=some (.mo (Aa qa_ vR R) false):=by rw[eS];unfold hpC;rw[At]
 have s3:x 4=some (.mo (Aa qa_ vI []) false):=by rw[eS];unfold hpC;rw[Aj _ _ (by decide),Aj _ _ (by decide)];exact q3
 have sf:∀j,7<=j->x j=none:=fun j M=>by rw[eS];unfold hpC;rw[Ac,Ac];exact qf j M
 cases he:(e==0) with
 |false=>
  have ab:(e != 0)=true:=by rw[bne,he];rfl
  rw[he,if_neg (by decide)] at h;cases h;refine Z1 ab ?_;exact KQ (b:=true) (v:=.tu [.v (.pointer none),.v (.int .i64 e)]) (by simp -implicitDefEqProofs only[go_sem, ↓reduceIte,At,Nat.reduceEqDiff]<;>rfl) (.tu (PW.cons (Cg.one (C3.one (b':=false) (is:=[]) rfl (fun _=>rfl)) rfl) (PW.cons (Cg.one (C3.one (b':=false) (is:=[]) rfl (fun _=>rfl)) rfl) PW.nil))) fun h=>nomatch h
 |true=>
  have ab:(e != 0)=false:=by rw[bne,he];rfl
  rw[he,if_pos rfl] at h;have⟨ro,a4,h⟩:=AP h;refine Ct ab ?_;refine Z0 ?_;refine Dy ?_;have A:∀(o p:Nat) (y:List AA),(y≠[]->7<=o)->∀j,j<7->D3 o 2 p (y.map Ag) x j=x j:=fun o p y F j M=>Hh fun f=>by have:=F (by simpa using f);omega
  have Af:∀(o p nx:Nat) (y:List AA),(y≠[]->o<nx)->7<=nx->∀j,nx<=j->D3 o 2 p (y.map Ag) x j=none:=fun o p nx y F h7 j M=>by rw[Hh fun f=>by have:=F (by simpa using f);omega];exact sf j (by omega)
  refine Dw (α:={ t:List AA × Nat × Nat × Nat // (t.1≠[]->7<=t.2.1/\t.2.1<t.2.2.2)/\7<=t.2.2.2/\t.1.length<=1000000000/\ro= .inl t.1 }) (fun t=>⟨upd 4 (.pt 6 0) (upd 6 (AW t.1.2.1 t.1.2.2.1 (t.1.1.map Ag)) AJ),D3 t.1.2.1 2 t.1.2.2.1 (t.1.1.map Ag) x,t.1.2.2.2⟩) ?_ ?_
  ·refine CV ?_;refine DV (α:={ t:Nat × List AA × Nat × Nat × Nat // t.1<=l.length/\(t.2.1≠[]->7<=t.2.2.1/\t.2.2.1<t.2.2.2.2)/\7<=t.2.2.2.2/\t.2.1.length<=1000000000/\Pu n ⟨T,R,[]⟩ (l.drop t.1) t.2.1=some ro })
    (fun t=>⟨upd 4 (.pt 6 0) (upd 6 (AW t.1.2.2.1 t.1.2.2.2.1 (t.1.2.1.map Ag)) (upd 23 (.d (.sl (l.map AS)) true) (upd 24 (.v (.int .i64 (l.length:Int))) (upd 25 (.v (.int .i64 (t.1.1:Int))) AJ)))),D3 t.1.2.2.1 2 t.1.2.2.2.1 (t.1.2.1.map Ag) x,t.1.2.2.2.2⟩) (fun t=>l.length-t.1.1)
    ⟨(0,[],0,0,a3+2+1+3),Lf _,fun f=>absurd rfl f,by dsimp only;omega,Lf _,a4⟩ ?_ ?_
   ·exact CW
   rintro⟨⟨i,y,o,p,ad⟩,hi,F,h7,V,B⟩;dsimp only at hi F h7 V B;refine AU (ZT 1 ?_);by_cases Z:i<l.length;rotate_left
   ·have c1:(decide ((i:Int)<(l.length:Int)))=false:=DE;obtain rfl:i=l.length:=(by omega);rw[Bc] at B;refine Ct c1 ?_;refine Z0 ?_;exact⟨⟨(y,o,p,ad+1),fun f=>by have:=F f;dsimp only;omega,by dsimp only;omega,V,(LI B).symm⟩,CW⟩
   have c1:(decide ((i:Int)<(l.length:Int)))=true:=DB;have e1:l[i]? =some l[i]:=Le Z;have ed:l.drop i=l[i]::l.drop (i+1):=Lj Z;have a5:=aE _ (LN Z);rw[ed] at B;generalize l[i]=d at e1 B a5;have e2:(l.map AS)[i]? =some (AS d):=Cz AS e1;unfold Pu at B;have⟨rr,a6,B⟩:=AP B;refine Ct c1 ?_;refine Z0 ?_;refine AU (CV ?_);refine AU (ZT 1 ?_);have w:=Y2 e2 (Y2 (CC .i64 (show(0:Int)<=(i:Int) by omega)) (show((i:Int)).toNat=i from Li _));refine Z1 w ?_;obtain⟨z,a9⟩:∃z,z=ad+1+2:=⟨_,rfl⟩;rw[<-a9,EU];refine AU (ZT 1 ?_);refine Z1 (At z (some (.bx [.v (.string d.name),.d (.sl (d.rels.map Al)) true])) (D3 o 2 p (y.map Ag) x)) ?_;refine CV ?_;refine DV (α:={ t:Nat × List AA × Nat × Nat × Nat // t.1<=d.rels.length/\(t.2.1≠[]->7<=t.2.2.1/\t.2.2.1<t.2.2.2.2/\t.2.2.1≠z)/\z<t.2.2.2.2/\t.2.1.length<=1000000000/\Pt n ⟨T,R,[]⟩ d.name (d.rels.drop t.1) t.2.1=some rr })
    (fun t=>⟨upd 4 (.pt 6 0) (upd 6 (AW t.1.2.2.1 t.1.2.2.2.1 (t.1.2.1.map Ag)) (upd 8 (.pt z 0) (upd 23 (.d (.sl (l.map AS)) true) (upd 24 (.v (.int .i64 (l.length:Int))) (upd 25 (.v (.int .i64 (i:Int))) (upd 30 (.d (.sl (d.rels.map Al)) true) (upd 31 (.v (.int .i64 (d.rels.length:Int))) (upd 32 (.v (.int .i64 (t.1.1:Int))) AJ)))))))),upd z (some (.bx [.v (.string d.name),.d (.sl (d.rels.map Al)) true])) (D3 t.1.2.2.1 2 t.1.2.2.2.1 (t.1.2.1.map Ag) x),t.1.2.2.2.2⟩) (fun t=>d.rels.length-t.1.1)
    ⟨(0,y,o,p,ad+1+4+4),Lf _,fun f=>by have:=F f;dsimp only;omega,by dsimp only;omega,V,a6⟩ ?_ ?_
   ·exact CW
   rintro⟨⟨j,Q,C,U,q⟩,M,I,ba,ag,s⟩;dsimp only at M I ba ag s;refine AU (ZT 1 ?_);by_cases aa:j<d.rels.length;rotate_left
   ·have c2:(decide ((j:Int)<(d.rels.length:Int)))=false:=DE;obtain rfl:j=d.rels.length:=(by omega);rw[Bc] at s;cases s;dsimp only at B;refine Ct c2 ?_;refine Z0 ?_;refine ZT 1 ?_;refine Z1 (Ar (n:=i)) ?_;refine⟨⟨(i+1,Q,C,U,q+1+2),Z,fun f=>by have:=I f;dsimp only;omega,by dsimp only;omega,ag,B⟩,.weak ⟨DO rfl DW,fun k=> ?_,by dsimp only;omega⟩,by dsimp only;omega⟩;dsimp only;by_cases H:k=z
    ·exact .inl (by rw[Hh fun f=>by have:=I (by simpa using f);omega];exact sf k (by omega))
    exact .inr (Aj _ _ H).symm
   have c2:(decide ((j:Int)<(d.rels.length:Int)))=true:=DB;have e3:d.rels[j]? =some d.rels[j]:=Le aa;have bb:d.rels.drop j=d.rels[j]::d.rels.drop (j+1):=Lj aa;rw[bb] at s;generalize d.rels[j]=g at e3 s;have e4:(d.rels.map Al)[j]? =some (Al g):=Cz Al e3;unfold Pt at s;split at s;rotate_left
   ·cases s
   rename_i b3;have⟨en,bd,s⟩:=AP s;refine Ct c2 ?_;refine Z0 ?_;refine AU (CV ?_);refine AU (ZT 1 ?_);have w2:=Y2 e4 (Y2 (CC .i64 (show(0:Int)<=(j:Int) by omega)) (show((j:Int)).toNat=j from Li _));refine Z1 w2 ?_;generalize eD:(upd (q+1+2) (some _) _:Hp)=N;have da:∀k,k≠q+1+2->N k=upd z (some (.bx [.v (.string d.name),.d (.sl (d.rels.map Al)) true])) (D3 C 2 U (Q.map Ag) x) k:=fun k h1=>(by rw[<-eD,Aj _ _ h1,Aj _ _ h1]);have dS:∀k,k<7->N k=x k:=fun k H=>(by rw[da k (by omega),Ac,A C U Q (fun f=>(I f).1) k H]);have dt:N z=some (.bx [.v (.string d.name),.d (.sl (d.rels.map Al)) true]):=(by rw[da z (by omega),At]);have dr:N (q+1+2)=some (.bx [.v (.string g.name),.d (.sl (g.subs.map AR)) true,.d (.sl (g.expr.map AY)) true]):=(by rw[<-eD,At]);have dw:Q≠[]->N C=some (.rw (Q.map Ag) 2 U false false):=fun f=>(by have:=I f;rw[da C (by omega),Aj _ _ this.2.2,Kb (by simpa using f)]);refine AU (AU ?_);refine ZT 1 ?_;refine Z1 (Y2 dt dr) ?_
   refine ur (b:=true) (PW.cons (Dr.d (Cg.one (Hw ((dS 6 (by decide)).trans s0) ((dS 2 (by decide)).trans s1) ((dS 3 (by decide)).trans s2) ((dS 4 (by decide)).trans s3)) rfl)) (PW.cons (Dr.d (Cg.one (C3.one (b':=false) (is:=[]) rfl (fun _=>rfl)) rfl)) (PW.cons (Dr.d (Cg.agP (PW.cons (C3.one (b':=false) (is:=[]) rfl (fun _=>rfl)) (PW.cons (C3.one (b':=true) (is:=[]) rfl (fun _=>rfl)) (PW.cons (C3.one (b':=true) (is:=[]) rfl (fun _=>rfl)) PW.nil))))) PW.nil))) (CP.of_pure (zk bd)) ?_;refine DQ ?_;cases hz:(en==0) with
   |false=>
    have ak:(en != 0)=true:=(by rw[bne,hz];rfl);rw[hz,if_neg (by decide)] at s;cases s;cases B;cases h;refine Z1 ak ?_;refine ED (c:=true) rfl rfl ?_;refine Ax ?_;refine AQ ?_;exact KQ (b:=true) (v:=.tu [.v (.pointer none),.v (.int .i64 en)]) (by simp -implicitDefEqProofs only[go_sem, ↓reduceIte,At,Nat.reduceEqDiff]<;>rfl) (.tu (PW.cons (Cg.one (C3.one (b':=false) (is:=[]) rfl (fun _=>rfl)) rfl) (PW.cons (Cg.one (C3.one (b':=false) (is:=[]) rfl (fun _=>rfl)) rfl) PW.nil))) fun h=>nomatch h
   |true=>
    have ak:(en != 0)=false:=(by rw[bne,hz];rfl);rw[hz,if_pos rfl] at s;refine Z1 ak ?_;refine DI (c:=false) rfl rfl ?_;refine AQ ?_;refine ZT 1 ?_;cases Q with
    |nil=>
     refine Z1 (Y2 dt dr) ?_;generalize eU:(upd (q+1+4+6+2+7) (some _) _:Hp)=X;have u1:X (q+1+4+6+2+7)=some (.rw (([]++[(⟨d.name,g.name⟩:AA)]).map Ag) 2 (0) false false):=(by rw[<-eU,At];simp);have u3:∀k,k≠q+1+4+6+2+7->k<q->X k=N k:=fun k h1 h2=>(by rw[<-eU,Aj _ _ h1,Ac]);refine ZT 1 ?_;refine Z1 (Ar (n:=j)) ?_;refine⟨⟨(j+1,[]++[⟨d.name,g.name⟩],q+1+4+6+2+7,0,q+60),aa,fun _=>by skip;dsimp only;omega,by dsimp only;omega,by rw[Ld,Lo];omega,s⟩,.weak ⟨DO rfl DW,fun k=> ?_,by dsimp only;omega⟩,by dsimp only;omega⟩;dsimp only
     by_cases G:k=q+1+4+6+2+7
     ·refine .inr ?_;rw[G,u1,Aj _ _ (by skip;omega),Kb (by simp)]
     by_cases k2:k<q
     ·refine .inr ?_;rw[u3 k G k2,da k (by omega)];by_cases O:k=z
      ·rw[O,At,At]
      rw[Aj _ _ O,Aj _ _ O,Hh fun _=>G];rfl
     ·exact .inl (by rw[Ac,Hh fun _=>G];exact sf k (by omega))
    |cons b u=>
     have be:=dw (by simp);have bg:(u.length+1+1<=4294967296)=True:=eq_true (by simp only[Ll] at ag;omega);have f1:(C=q+1+4+6+2+6)=False:=eq_false (by have:=I (by simp);omega);refine Z1 (Y5 dt dr f1 be bg) ?_;generalize eU:(upd (C) (some _) _:Hp)=X;have u1:X (C)=some (.rw (((b::u)++[(⟨d.name,g.name⟩:AA)]).map Ag) 2 (U+1) false false):=(by rw[<-eU,At];simp);have u3:∀k,k≠C->k<q->X k=N k:=fun k h1 h2=>(by rw[<-eU,Aj _ _ h1,Ac]);refine ZT 1 ?_;refine Z1 (Ar (n:=j)) ?_;refine⟨⟨(j+1,(b::u)++[⟨d.name,g.name⟩],C,U+1,q+60),aa,fun _=>by have:=I (by simp);dsimp only;omega,by dsimp only;omega,by rw[Ld,Lo];omega,s⟩,.weak ⟨DO rfl (DO (by simp[AW,upd]) DW),fun k=> ?_,by dsimp only;omega⟩,by dsimp only;omega⟩;dsimp only
     by_cases G:k=C
     ·refine .inr ?_;rw[G,u1,Aj _ _ (by have:=I (by simp);omega),Kb (by simp)]
     by_cases k2:k<q
     ·refine .inr ?_;rw[u3 k G k2,da k (by omega)];by_cases O:k=z
      ·rw[O,At,At]
      rw[Aj _ _ O,Aj _ _ O,Hh fun _=>G,Hh fun f=>G]
     exact .inl (by rw[Ac,Hh fun _=>G];exact sf k (by omega))
  rintro⟨⟨y,o,p,a0⟩,F,h7,V,rfl⟩;dsimp only at F h7 V;cases y with
  |nil=>
   refine Ax ?_;refine CO (rev_nil.mono ?_);rintro v E bl ⟨rfl,rfl,ao⟩;dsimp only at ao;refine Z0 ?_;refine Dy ?_;refine CO ((zV fun k H=>sf k (by dsimp only at H;omega)).mono ?_);rintro v bo br ⟨rfl,aq,av⟩;dsimp only at av;subst aq;cases h;refine Z0 ?_;refine DI (c:=false) rfl rfl ?_;refine AQ ?_;refine Ax ?_;refine AQ ?_;exact KQ (b:=true) (v:=.tu [.pt 6 0,.v (.int .i64 0)]) (by simp -implicitDefEqProofs only[go_sem, ↓reduceIte,At,Nat.reduceEqDiff]<;>rfl) (.tu (PW.cons (Cg.one (Hw s0 s1 s2 s3) rfl) (PW.cons (Cg.one (C3.one (b':=false) (is:=[]) rfl (fun h=>by cases h)) rfl) PW.nil))) fun h=>nomatch h
  |cons b u=>
   have Y:=F (by simp);dsimp only[Hx] at h;have⟨os,a1,h⟩:=AP h;have⟨W,hW,h⟩:=AP h;split at h;rotate_left
   ·cases h
   rename_i bs;have⟨g1,g2,g3⟩:=bs;have⟨rk,bx,h⟩:=AP h;have b0:=qF a1;refine Ax ?_;refine CO ((R8 (xs:=b::u) (L:=(b::u).length) (Kb (by simp)) rfl (by simp) (by omega) a1).mono ?_);rintro v E bl ⟨rfl,eV,ao⟩;dsimp only at ao;have b1:u.length+1=os.length:=b0.symm;have v6:E 6=some (.bx [.mo 2,.mo 3,.mo 4]):=(by rw[eV,Ac];exact(A o p (b::u) (fun _=>Y.1) 6 (by decide)).trans s0);have v2:E 2=some (.mo (Aa .string vI T) false):=(by rw[eV,Ac];exact(A o p (b::u) (fun _=>Y.1) 2 (by decide)).trans s1);have v3:E 3=some (.mo (Aa qa_ vR R) false):=(by rw[eV,Ac];exact(A o p (b::u) (fun _=>Y.1) 3 (by decide)).trans s2);have v4:E 4=some (.mo (Aa qa_ vI []) false):=(by rw[eV,Ac];exact(A o p (b::u) (fun _=>Y.1) 4 (by decide)).trans s3);have vo:E o=some (.rw (os.map Ag) 2 p false false):=(by rw[eV,At]);have vf:∀k,a0<=k->E k=none:=fun k H=>(by rw[eV,Ac];exact Af o p a0 (b::u) (fun _=>Y.2) h7 k H);refine Z1 b1 ?_;refine Dy ?_;refine CO ((zT (fun k H=>vf k (by dsimp only at H;omega)) (by omega) g3 v6 v2 v3 v4 vo ⟨by decide,by decide,by decide,by decide,by decide,by decide⟩ ⟨by omega,by omega,by omega,by omega⟩ hW g1 g2 bx).mono ?_);rintro v bo br ⟨rfl,⟨K,hK,aq⟩,av⟩;dsimp only at av;cases rk with
   |none=>
    cases h;refine Z0 ?_;refine ED (c:=true) rfl rfl ?_;refine Ax ?_;refine AQ ?_;exact KQ (b:=true) (v:=.tu [.v (.pointer none),.v (.int .i64 14)]) (by simp -implicitDefEqProofs only[go_sem, ↓reduceIte,At,Nat.reduceEqDiff]<;>rfl) (.tu (PW.cons (Cg.one (C3.one (b':=false) (is:=[]) rfl (fun _=>rfl)) rfl) (PW.cons (Cg.one (C3.one (b':=false) (is:=[]) rfl (fun _=>rfl)) rfl) PW.nil))) fun h=>nomatch h
   |some K'=>
    cases h;obtain rfl:=hK K' rfl;subst aq;have x6:(upd 4 (some (.mo (Aa qa_ vI K') false)) E:Hp) 6=_:=(Aj _ _ (by decide)).trans v6;have x4:(upd 4 (some (.mo (Aa qa_ vI K') false)) E:Hp) 4=_:=At _ _ _;have x2:(upd 4 (some (.mo (Aa qa_ vI K') false)) E:Hp) 2=_:=(Aj _ _ (by decide)).trans v2;have x3:(upd 4 (some (.mo (Aa qa_ vI K') false)) E:Hp) 3=_:=(Aj _ _ (by decide)).trans v3;refine Z0 ?_;refine DI (c:=false) rfl rfl ?_;refine AQ ?_;refine Ax ?_;refine AQ ?_;exact KQ (b:=true) (v:=.tu [.pt 6 0,.v (.int .i64 0)]) (by simp -implicitDefEqProofs only[go_sem, ↓reduceIte,At,Nat.reduceEqDiff]<;>rfl) (.tu (PW.cons (Cg.one (Hw (d3:=false) x6 x2 x3 x4) rfl) (PW.cons (Cg.one (C3.one (b':=false) (is:=[]) rfl (fun h=>by cases h)) rfl) PW.nil))) fun h=>nomatch h
abbrev Ca:AZ:=⟨ByteArray.empty,[],[]⟩
def GY (S:AD):Prop:=∀p∈S.rels,FC p.2
theorem G6 (h:GY S)(m:AA):FC (qf_ m Ca S.rels):=by
 unfold qf_;cases b:mget m S.rels with
 |none=>exact⟨Lf _,Lf _,.inl rfl,(by intro _ h;cases h),Yn⟩
 |some g=>exact h _ (fT b)
theorem Hy (n:Nat)(S:AD)(a b:ByteArray):Gs n S a b=some (qf_ ⟨a,b⟩ Ca S.rels,Ay ⟨a,b⟩ S.rels):=rfl
def R5 (S:AD)(b:ByteArray)(s:AL):Prop:=Ay (⟨s.type_,b⟩:AA) S.rels=true/\(s.rel.toList==({ data:= #[] }:ByteArray).toList)=true
theorem po {n:Nat}{S:AD}{x:AX}{g:AZ}{b:Bool}(k:g.subs.length<1000000):∀(d i c:Nat),d=g.subs.length-i->i<=g.subs.length->d<c->∃r,Tw n S x (g,b) c (i:Int)=some r/\(r= .inl ()->∀s∈g.subs.drop i,R5 S x.b s)/\∀e,r= .inr e->e≠0
 |0,i,c,l,o,p=>by
  obtain⟨c,rfl⟩:=sx c;unfold Tw;dsimp only;rw[DE,if_neg (by decide),LH (by omega)];exact⟨_,rfl,fun _ _ h=>(by cases h),fun _ h=>(by cases h)⟩
 |d+1,i,c,l,o,p=>by
  obtain⟨c,rfl⟩:=sx c;have j:i<g.subs.length:=by omega
  unfold Tw;dsimp only;rw[DB,if_pos rfl,Mw,Le j,Zo,Hy,Zo,Lj j];dsimp only;cases q:Ay (⟨g.subs[i].type_,x.b⟩:AA) S.rels with
  |false=>exact⟨_,rfl,fun h=>(by cases h),fun _ h=>(by cases h;decide)⟩
  |true=>
   rw[if_pos rfl];cases t:(g.subs[i].rel.toList==({ data:= #[] }:ByteArray).toList) with
   |false=>exact⟨_,rfl,fun h=>(by cases h),fun _ h=>(by cases h;decide)⟩
   |true=>
    rw[if_pos rfl,Ar];have⟨r,u,v,w⟩:=po (n:=n) (S:=S) (x:=x) (b:=b) k d (i+1) c (by omega) (by omega) (by omega);refine⟨r,u,fun y s f=> ?_,w⟩;rcases Lv.1 f with rfl |f
    ·exact⟨q,t⟩
    exact v y s f
def Mg (S:AD)(a:ByteArray)(x:AX):Prop:=Ay (⟨a,x.a⟩:AA) S.rels=true/\(qf_ (⟨a,x.a⟩:AA) Ca S.rels).subs≠[]/\∀s∈(qf_ (⟨a,x.a⟩:AA) Ca S.rels).subs,R5 S x.b s
theorem zW {x:AX}(f:GY S)(k:1000<n):∃e,Tx n S a x=some e/\(e=0->Mg S a x):=by
 unfold Tx;rw[Hy,Zo];dsimp only;have l:=(G6 f ⟨a,x.a⟩).1;cases i:Ay (⟨a,x.a⟩:AA) S.rels with
 |false=>exact⟨_,rfl,fun h=>by cases h⟩
 |true=>
  rw[if_pos rfl];cases d:(((qf_ (⟨a,x.a⟩:AA) Ca S.rels).subs.length:Int)==0) with
  |true=>exact⟨_,rfl,fun h=>by cases h⟩
  |false=>
   rw[if_neg (by decide)];have⟨r,c,j,o⟩:=po (n:=n) (S:=S) (x:=x) (g:=qf_ (⟨a,x.a⟩:AA) Ca S.rels) (b:=true) (by omega) _ 0 n rfl (Lf _) (by omega);have c:Tw n S x (qf_ (⟨a,x.a⟩:AA) Ca S.rels,true) n 0=some r:=c;rw[c,Zo];cases r with
   |inl u=>
    refine⟨0,rfl,fun _=>⟨i,fun h=> ?_,j rfl⟩⟩;rw[h] at d;cases d
   |inr e=>grind
def Wo (S:AD)(s:AL):Prop:=qf_ s.type_ 0 S.types≠0/\((s.rel.toList==({ data:= #[] }:ByteArray).toList)=true\/Ay (⟨s.type_,s.rel⟩:AA) S.rels=true)
theorem pp {n:Nat}{S:AD}{g:AZ}:∀l:List AL,∃r,DP (Wq n S g) (Zc n S g) l ()=some r/\(r= .inl ()->∀s∈l,Wo S s)/\∀e,r= .inr e->e≠0
 |[]=>⟨_,rfl,fun _ _ h=>(by cases h),fun _ h=>(by cases h)⟩
 |s::l=>by
  have⟨r,f,i,j⟩:=pp (n:=n) (S:=S) (g:=g) l;rw[DP];generalize DP (Wq n S g) (Zc n S g) l=K at f⊢;unfold Wq;dsimp only;rw[Hy,Zo,f];dsimp only;split
  ·simp
  rename_i c;have c:qf_ s.type_ 0 S.types≠0:=fun e=>c (by rw[e];rfl);split
  ·rename_i h;refine⟨r,rfl,fun d x b=> ?_,j⟩;rcases Lv.1 b with rfl |b
   ·exact⟨c,.inl h⟩
   exact i d x b
  split
  ·rename_i h;refine⟨r,rfl,fun d x b=> ?_,j⟩;rcases Lv.1 b with rfl |b
   ·exact⟨c,.inr h⟩
   exact i d x b
  simp
def HP (S:AD)(a:ByteArray)(x:AX):Prop:=(x.kind=1->Ay (⟨a,x.a⟩:AA) S.rels=true)/\(x.kind=2->Mg S a x)
theorem pq {n:Nat}{S:AD}{a:ByteArray}{g:AZ}(o:GY S)(p:1000<n):∀l:List AX,∃r,DP (Wr n S a g) (Zd n S a g) l ()=some r/\(r= .inl ()->∀x∈l,HP S a x)/\∀e,r= .inr e->e≠0
 |[]=>⟨_,rfl,fun _ _ h=>(by cases h),fun _ h=>(by cases h)⟩
 |x::l=>by
  have⟨r,q,i,j⟩:=pq (n:=n) (a:=a) (g:=g) o p l;rw[DP];generalize DP (Wr n S a g) (Zd n S a g) l=K at q⊢;unfold Wr;dsimp only;rw[q];split
  ·rename_i c;have⟨e,s,t⟩:=zW (a:=a) (x:=x) o p;rw[s,Zo];split
   ·grind
   rename_i h;refine⟨r,rfl,fun d y b=> ?_,j⟩;rcases Lv.1 b with rfl |b
   ·exact⟨fun f=>(by rw[f] at c;cases c),fun _=>t (by simpa using h)⟩
   exact i d y b
  rename_i c;rw[Hy,Zo];dsimp only;split
  ·rename_i h;refine⟨r,rfl,fun d y b=> ?_,j⟩;rcases Lv.1 b with rfl |b
   ·exact⟨fun _=>h,fun k=>by rw[k] at c;exact absurd rfl c⟩
   exact i d y b
  split
  ·simp
  rename_i f;refine⟨r,rfl,fun d y b=> ?_,j⟩;rcases Lv.1 b with rfl |b
  ·exact⟨fun h=>(by rw[h] at f;exact absurd rfl f),fun k=>by rw[k] at c;exact absurd rfl c⟩
  exact i d y b
def KE (S:AD)(a:ByteArray)(g:AZ):Prop:=(∀s∈g.subs,Wo S s)/\∀x∈g.expr,HP S a x
theorem zX {g:AZ}(f:GY S)(b:FC g)(h:1000<n):∃e,Wt n S a g=some e/\(e=0->KE S a g):=by
 have o:=b.1;have p:=b.2.1;have⟨r,i,j,s⟩:=pp (n:=n) (S:=S) (g:=g) g.subs;have⟨q,k,l,t⟩:=pq (n:=n) (a:=a) (g:=g) f h g.expr;have c:qU_ n S g n 0=_:=zg n S g (by omega) n () 0 (Lf _) (by omega);have d:qJ_ n S a g n 0=_:=zh n S a g (by omega) n () 0 (Lf _) (by omega);rw[LD] at c d;unfold Wt;rw[c,i,Zo];cases r with
 |inr e=>grind
 |inl u=>
  dsimp only;rw[d,k,Zo];cases q with
  |inr e=>grind
  |inl u=>exact⟨0,rfl,fun _=>⟨j rfl,l rfl⟩⟩
theorem Pv {b:Type}{c:Bool}{k:Option b}(h:c=true):Cy c k=k:=by
 subst h;rfl
def Fh (S:AD)(a:ByteArray)(x:AX):List AN:=if x.kind==1 then[⟨⟨a,x.a⟩,0⟩] else(qf_ (⟨a,x.a⟩:AA) Ca S.rels).subs.map fun s=>⟨⟨s.type_,x.b⟩,0⟩
theorem pv {n:Nat}{x:AX}{g:AZ}{b:Bool}(h:g.subs.length<1000000):∀(d i c:Nat) (e:List AN),d=g.subs.length-i->i<=g.subs.length->d<c->e.length<=i->Ty n x (g,b) c (e,(i:Int))=some (e++(g.subs.drop i).map fun s=>⟨⟨s.type_,x.b⟩,0⟩)
 |0,i,c,e,j,k,l,o=>by
  obtain⟨c,rfl⟩:=sx c;unfold Ty;dsimp only;rw[DE,if_neg (by decide),LH (by omega)];simp
 |d+1,i,c,e,j,k,l,o=>by
  obtain⟨c,rfl⟩:=sx c;have f:i<g.subs.length:=by omega
  unfold Ty;dsimp only;rw[DB,if_pos rfl,Mw,Le f,Zo,C6 (by simp only[Lo];omega),Zo,Ar,pv h d (i+1) c _ (by omega) (by omega) (by omega) (by simp only[Ld,Lo];omega),Lj f];simp only[Lh,Lz,LU,LA]
theorem zY {x:AX}(b:GY S)(c:1000<n):Tz n S a x=some (Fh S a x):=by
 unfold Tz Fh;split
 ·rfl
 have d:=(G6 b ⟨a,x.a⟩).1;rw[Hy,Zo];have e:Ty n x (qf_ (⟨a,x.a⟩:AA) Ca S.rels,Ay (⟨a,x.a⟩:AA) S.rels) n (([]:List AN),0)=_:=pv (by omega) _ 0 n [] rfl (Lf _) (by omega) (Lc _);rw[e];rfl
def DM (x:AX)(w:AN):AN:=if x.kind==4 then⟨w.to,1⟩ else w
theorem fU {n:Nat}{x:AX}{l:List AN}(e:l.length<4611686018427387904-1):∀(d i c:Nat) (t:List AN),d=l.length-i->i<=l.length->d<c->t=(l.take i).map (DM x)++l.drop i->Pw n x l c (t,(i:Int))=some (l.map (DM x))
 |0,i,c,t,o,p,q,b=>by
  obtain⟨c,rfl⟩:=sx c;unfold Pw;rw[DE,if_neg (by decide),b,LH (by omega),Nu (by omega),Ns]
 |d+1,i,c,t,o,p,q,b=>by
  obtain⟨c,rfl⟩:=sx c;have f:i<l.length:=by omega
  have g:l.drop i=l[i]::l.drop (i+1):=Lj f;have h:(l.take (i+1)).map (DM x)=(l.take i).map (DM x)++[DM x l[i]]:=by rw[List.take_succ_eq_append_getElem f,LX];rfl
  have j:((l.take i).map (DM x)).length=i:=by rw[Lt,Lx];omega
  unfold Pw;rw[DB,if_pos rfl,Ar];cases k:(x.kind==4) with
  |false=>
   rw[if_neg (by decide)];refine fU e d (i+1) c t (by omega) (by omega) (by omega) ?_;rw[b,g,h,show DM x l[i]=l[i] from if_neg (by rw[k];decide)];simp
  |true=>
   rw[if_pos rfl,Mw,b,g,Nn (by omega),j,BM];simp only[Nc,Zo,Li];refine fU e d (i+1) c _ (by omega) (by omega) (by omega) ?_;rw[h,show DM x l[i]=⟨l[i].to,1⟩ from if_pos k,Ol _ _ (by omega),j,BM,Ow,Lz];rfl
def Db (S:AD)(a:ByteArray)(b:List (List AN))(x:AX):List (List AN):=if x.kind==1||x.kind==2 then b++[Fh S a x] else if 2<=b.length then b.take (b.length-2)++[b.getD (b.length-2) []++(b.getD (b.length-1) []).map (DM x)] else b
def Hz (b:List (List AN)):Nat:=(b.map List.length).sum
theorem fV (a b:List (List AN)):Hz (a++b)=Hz a+Hz b:=by unfold Hz;rw[LX,List.sum_append]
theorem px {b:List (List AN)}(h:2<=b.length):∃p x y,b=p++[x,y]:=by
 refine⟨b.take (b.length-2),b[b.length-2],b[b.length-1],?_⟩;grind [List.take_append_drop,List.drop_eq_getElem_cons,List.drop_of_length_le]
theorem pz {n:Nat}{S:AD}{a:ByteArray}{ex:List AX}(k:GY S)(A:100000<n):∀(l:List AX) (b:List (List AN)),(∀x∈l,HP S a x)->(∀w∈b,w≠[])->b.length+l.length<=1000->Hz b+60*l.length<=60000->
  DP (Wu n S a ex) (Ze n S a ex) l b=some (l.foldl (Db S a) b)/\(∀w∈l.foldl (Db S a) b,w≠[])/\(l.foldl (Db S a) b).length<=1000/\Hz (l.foldl (Db S a) b)<=60000
 |[],b,_,d,o,q=>⟨rfl,d,by simpa using o,by simpa using q⟩
 |x::l,b,t,d,o,q=>by
  simp only[Ll] at o q;have B:=t x (Lp ..);have C:∀y∈l,HP S a y:=fun y E=>t y (Lk _ E);have j:=fun F f e G=>pz (ex:=ex) k A l F C f e G;rw[DP,Bm];generalize DP (Wu n S a ex) (Ze n S a ex) l=K at j⊢;unfold Wu;dsimp only;by_cases c:(x.kind==1||x.kind==2)=true
  ·have r:(if (x.kind==1)=true then some true else some (x.kind==2))=some true:=by
    cases f:(x.kind==1) with |true=>rfl |false=>rw[f,NE] at c;rw[c];rfl
   have g:Db S a b x=b++[Fh S a x]:=if_pos c;have H:=(G6 k ⟨a,x.a⟩).1;have I:(Fh S a x).length<=51/\Fh S a x≠[]:=by
    unfold Fh;split
    ·exact⟨by simp,by simp⟩
    rename_i f;have e:x.kind=2:=by
     rw[LQ] at c;rcases c with h |h
     ·exact absurd h f
     exact eq_of_beq h
    refine⟨by rw[Lt];exact H,fun h=>(B.2 e).2.1 (List.map_eq_nil_iff.1 h)⟩
   rw[r,Zo,if_pos rfl,zY k (by omega),Zo,C6 (by simp only[Lo];omega),Zo,g];refine j _ (fun w s=> ?_) (by rw[Ld,Lo];omega) ?_
   ·rcases Lw.1 s with h |h
    ·exact d w h
    rw[Lr.1 h];exact I.2
   rw[fV]
   have:Hz [Fh S a x]=(Fh S a x).length:=(by simp[Hz]);omega
  have r:(if (x.kind==1)=true then some true else some (x.kind==2))=some false:=by
   rw[LQ] at c;rw[if_neg fun h=>c (.inl h)];exact congrArg some (Bool.eq_false_iff.2 fun h=>c (.inr h))
  rw[r,Zo,if_neg (by decide)];by_cases e:2<=b.length;rotate_left
  ·have g:Db S a b x=b:=by
    unfold Db;rw[if_neg c,if_neg e]
   rw[DE,if_neg (by decide),g];exact j _ d (by omega) (by omega)
  obtain⟨p,u,v,rfl⟩:=px e;have i:(p++[u,v]).length=p.length+2:=by rw[Ld];rfl
  have g:Db S a (p++[u,v]) x=p++[u++v.map (DM x)]:=by
   unfold Db;rw[if_neg c,if_pos e,i];simp
  have z:u≠[]:=d u (by simp);have J:v≠[]:=d v (by simp);have T:Hz (p++[u,v])=Hz p+(u.length+v.length):=by rw[fV];simp[Hz]
  rw[decide_eq_true (by rw[i];omega),if_pos rfl];have L:i64.wrap (((p++[u,v]).length:Int)-1)=((p.length+1:Nat):Int):=by
   rw[i];exact(congrArg i64.wrap (show((p.length+2:Nat):Int)-1=((p.length+1:Nat):Int) by omega)).trans Hl
  have M:i64.wrap (((p++[u,v]).length:Int)-2)=((p.length:Nat):Int):=by
   rw[i];exact(congrArg i64.wrap (show((p.length+2:Nat):Int)-2=((p.length:Nat):Int) by omega)).trans Hl
  have N:idx (p++[u,v]) ((p.length+1:Nat):Int)=some v:=by rw[Mw,Nn (by omega)];simp
  have O:idx (p++[u,v]) ((p.length:Nat):Int)=some u:=by rw[Mw,Nn (by omega)];simp
  have P:Fd (p++[u,v]) 0 ((p.length:Nat):Int)=some p:=by
   unfold Fd;rw[if_pos ⟨Bu _,by omega,by rw[i];omega⟩];simp
  have Q:v.length≠0:=fun h=>J (LV h);have R:u.length≠0:=fun h=>z (LV h);have l3:Pw n x v n (v,0)=some (v.map (DM x)):=fU (by omega) _ 0 n v rfl (Lf _) (by omega) (by simp)
  rw[L,M,N,O,P,Zo,decide_eq_false Q,if_neg (by decide),Pv DB,l3,Zo,Zo,Zo,decide_eq_false R,if_neg (by decide),Pv DB,C6 (by rw[Lt];omega),Zo,C6 (by simp only[Lo];omega),Zo,g];refine j _ (fun w s=> ?_) (by rw[Ld,Lo];omega) ?_
  ·rcases Lw.1 s with h |h
   ·exact d w (L8 _ h)
   rw[Lr.1 h];intro he;exact z (List.append_eq_nil_iff.1 he).1
  rw[fV]
  have:Hz [u++v.map (DM x)]=u.length+v.length:=by simp[Hz]
  omega
def ET (S:AD)(m:AA):List AN:=if (qf_ m Ca S.rels).expr= [] then Ew (qf_ m Ca S.rels).subs else((qf_ m Ca S.rels).expr.foldl (Db S m.typ) []).flatten
theorem p7:∀l:List AL,(Ew l).length<=l.length
 |[]=>Lc _
 |s::r=>by
  have:=p7 r;grind [R9,List.length_cons]
theorem zZ (b:GY S)(s:100000<n)(hp:∀x∈(qf_ m Ca S.rels).expr,HP S m.typ x):SA n S m=some (ET S m)/\(ET S m).length<=60000:=by
 have c:=G6 b m;unfold SA ET;rw[show(⟨ByteArray.empty,[],[]⟩:AZ)=Ca from rfl];generalize qf_ m Ca S.rels=g at c hp⊢;have⟨nm,d,i⟩:=g;have⟨j,k,l,_⟩:=c;dsimp only at j k l hp⊢;cases i with
 |nil=>
  rw[if_pos rfl];exact⟨ifp,Lq (p7 d) (by omega)⟩
 |cons e r=>
  obtain rfl:d= []:=by
   grind
  rw[if_neg (by simp)];have⟨o,t,u,p⟩:=pz (n:=n) (a:=m.typ) (ex:=e::r) b (by omega) (e::r) [] hp (fun _ h=>nomatch h) (by simp only[LB];omega) (by simp only[Hz,Lu,List.sum_nil];omega);have f:Px n S m.typ (e::r) n (([]:List (List AN)),0)=_:=zn n S m.typ (e::r) (by omega) n [] 0 (Lf _) (by omega);rw[LD,o] at f;have q:((e::r).foldl (Db S m.typ) []).flatten.length<=60000:=by
   rw[List.length_flatten];exact p
  refine⟨?_,q⟩;show Wv n S m.typ (e::r)=_;unfold Wv;rw[f,Zo];unfold Me;grind
theorem fW:∀l:List AL,∀w∈Ew l,w.taken=0\/w.taken=1
 |[],_,h=>by cases h
 |s::r,w,h=>by
  rw[R9] at h;split at h
  ·exact fW r w h
  rcases Lv.1 h with rfl |h
  ·exact .inl rfl
  exact fW r w h
theorem p8 {S:AD}{a:ByteArray}:∀(l:List AX) (f:List (List AN)),(∀b∈f,∀w∈b,w.taken=0\/w.taken=1)->∀b∈l.foldl (Db S a) f,∀w∈b,w.taken=0\/w.taken=1
 |[],_,h=>h
 |x::l,f,h=>by
  rw[Bm];refine p8 l _ ?_;unfold Db;split
  ·intro b c w d;rcases Lw.1 c with e |e
   ·exact h b e w d
   rw[Lr.1 e] at d;unfold Fh at d;grind
  split
  ·rename_i i;obtain⟨p,u,v,rfl⟩:=px i;intro b c w d;have j:(p++[u,v]).length=p.length+2:=(by rw[Ld];rfl);rw[j] at c;simp at c;rcases c with e |rfl
   ·grind
   rcases Lw.1 d with g |g
   ·exact h u (by simp) w g
   obtain⟨y,k,rfl⟩:=LL.1 g;unfold DM;grind
  exact h
theorem Za (S:AD)(m:AA):∀w∈ET S m,w.taken=0\/w.taken=1:=by
 grind [ET,fW,List.mem_flatten,p8]
theorem fX {k:AA}{v:Int}:qf_ k 0 (mset m v K)=if k=m then v else qf_ k 0 K:=by
 have:mget k (mset m v K)=if k=m then some v else mget k K:=by
  induction K with
  |nil=>
   simp only[mset,mget,beq_iff_eq]
  |cons p r b=>
   simp only[mset];by_cases h:m==p.1
   ·rw[if_pos h];obtain rfl:=eq_of_beq h;simp only[mget,beq_iff_eq];split<;>rfl
   rw[if_neg h];simp only[mget,b,beq_iff_eq];grind
 unfold qf_;rw[this];split<;>rfl
abbrev Cp (K:List (AA × Int))(m:AA):Int:=qf_ m 0 K
theorem fY {m:AA}{L:Int}:∀(d:List AN) (K:List (AA × Int)) (b:Bool) (c:Int),0<=c->(∀w∈d,w.taken=0\/w.taken=1)->(∀k,0<=Cp K k/\Cp K k<=L+c)->L+c+d.length<4611686018427387904->
  (∀k,k≠m->Cp (wi_ m d (K,b)).1 k=Cp K k)/\Cp K m<=Cp (wi_ m d (K,b)).1 m/\Cp (wi_ m d (K,b)).1 m<=L+c+d.length/\((wi_ m d (K,b)).2=false->b=false/\(wi_ m d (K,b)).1=K/\∀w∈d,Cp K w.to+w.taken<=Cp K m)/\((wi_ m d (K,b)).2=true->b=true\/Cp K m<Cp (wi_ m d (K,b)).1 m)
 |[],K,b,c,g,_,e,_=>⟨fun _ _=>rfl,Bu _,by have:=(e m).2;show Cp K m<=L+c+((0:Nat):Int);omega,fun h=>⟨h,rfl,fun _ h=>nomatch h⟩,fun h=>.inl h⟩
 |w::d,K,b,c,g,i,e,o=>by
  simp only[Ll,OO,Int.natCast_one] at o⊢;have A:=i w (Lp ..);have j:∀w∈d,w.taken=0\/w.taken=1:=fun y p=>i y (Lk _ p);have B:=e w.to;have C:=e m;have q:i64.wrap (Cp K w.to+w.taken)=Cp K w.to+w.taken:=IntWalk.i64_in _ (by omega);unfold wi_;rw[q]
  by_cases l:Cp K m<Cp K w.to+w.taken
  ·rw[decide_eq_true l,if_pos rfl];dsimp only;have r:Cp (mset m (Cp K w.to+w.taken) K) m=Cp K w.to+w.taken:=(by rw[Cp,fX,if_pos rfl]);have s:∀k,k≠m->Cp (mset m (Cp K w.to+w.taken) K) k=Cp K k:=fun k f=>(by rw[Cp,fX,if_neg f]);have⟨t,u,v,x,z⟩:=fY (m:=m) (L:=L) d (mset m (Cp K w.to+w.taken) K) true (c+1) (by omega) j (fun k=>by
    by_cases f:k=m
    ·subst f;rw[r];omega
    rw[s k f];have:=e k;omega) (by omega)
   grind
  rw[decide_eq_false l,if_neg (by decide)];have⟨t,u,v,x,z⟩:=fY (m:=m) (L:=L) d K b c g j e (by omega);grind
def Fy (os:List AA)(K:List (AA × Int)):Nat:=(os.map fun m=>(Cp K m).toNat).sum
theorem fZ {b:List (AA × Int)}(h:∀k,Cp K k<=Cp b k):Fy os K<=Fy os b:=by
 unfold Fy;induction os with
 |nil=>exact Lc _
 |cons m r c=>
  grind
theorem R6 {b:List (AA × Int)}(h:∀k,Cp K k<=Cp b k)(c:m∈os)(f:0<=Cp K m)(g:Cp K m<Cp b m):Fy os K<Fy os b:=by
 induction os with
 |nil=>cases c
 |cons x r d=>
  have e:=fZ (os:=r) h;unfold Fy at e d⊢;grind
theorem za {L:Nat}(h:∀k,Cp K k<=(L:Int)):Fy os K<=os.length*L:=by
 unfold Fy;induction os with
 |nil=>exact Lf _
 |cons m r b=>
  rw[Lh,BD,Ll,OG]
  have:=h m;omega
theorem p9 {os:List AA}{W:List (AA × List AN)}{L:Nat}(r:∀m,(qf_ m [] W).length<=60000/\∀w∈qf_ m [] W,w.taken=0\/w.taken=1)(A:L<=1000000000):
  ∀(c:List AA) (K:List (AA × Int)) (b:Bool),(∀m∈c,m∈os)->(∀k,0<=Cp K k/\Cp K k<=(L:Int))->∀s,Mf W (L:Int) c (K,b)=some s->
   (∀k,0<=Cp s.1 k/\Cp s.1 k<=(L:Int))/\(∀k,Cp K k<=Cp s.1 k)/\(s.2=false->b=false/\s.1=K/\∀m∈c,∀w∈qf_ m [] W,Cp K w.to+w.taken<=Cp K m)/\(s.2=true->b=true\/Fy os K<Fy os s.1)
 |[],K,b,_,f,s,h=>by
  cases h;grind
 |m::c,K,b,t,f,s,h=>by
  have⟨I,B⟩:=r m;have⟨g,l,u,v,o⟩:=fY (m:=m) (L:=(L:Int)) (qf_ m [] W) K b 0 (Bu _) B (fun k=>by have:=f k;omega) (by omega);unfold Mf at h;generalize wi_ m (qf_ m [] W) (K,b)=C at g l u v o h;have⟨p,E⟩:=C;dsimp only at g l u v o h;split at h
  ·cases h
  rename_i q;have q:Cp p m<=(L:Int):=by simpa using q
  have i:∀k,Cp K k<=Cp p k:=fun k=>by
   by_cases d:k=m
   ·subst d;exact l
   rw[g k d];exact Bu _
  have⟨F,y,J,G⟩:=p9 r A c p E (fun x H=>t x (Lk _ H)) (fun k=>by
   have j:=i k;have e:=f k;refine⟨by omega,?_⟩;by_cases d:k=m
   ·subst d;exact q
   rw[g k d];exact e.2) s h
  refine⟨F,fun k=>NC (i k) (y k),fun z=> ?_,fun z=> ?_⟩
  ·grind
  rcases G z with j |j
  ·rcases o j with e |e
   ·exact .inl e
   exact .inr (LF (R6 i (t m (Lp ..)) (f m).1 e) (fZ y))
  exact .inr (BH (fZ i) j)
def R7 (os:List AA)(W:List (AA × List AN))(K:List (AA × Int)):Prop:=(∀k,0<=Cp K k/\Cp K k<=(os.length:Int))/\∀m∈os,∀w∈qf_ m [] W,Cp K w.to+w.taken<=Cp K m
theorem qB {os:List AA}{W:List (AA × List AN)}(e:∀m,(qf_ m [] W).length<=60000/\∀w∈qf_ m [] W,w.taken=0\/w.taken=1)(f:os.length<=1000000000):
  ∀(c:Nat) (K:List (AA × Int)),(∀k,0<=Cp K k/\Cp K k<=(os.length:Int))->os.length*os.length-Fy os K<c->∃r,Kq W (os.length:Int) os c K=some r/\∀b,r=some b->R7 os W b
 |0,_,_,h=>absurd h (LZ _)
 |c+1,K,i,t=>by
  unfold Kq;cases j:Mf W (os.length:Int) os (K,false) with
  |none=>simp
  |some s=>
   have⟨d,u,l,o⟩:=p9 (os:=os) e f os K false (fun _ h=>h) i s j;dsimp only;cases g:s.2 with
   |false=>
    have⟨_,p,q⟩:=l g;rw[if_neg (by decide)];refine⟨_,rfl,fun b h=> ?_⟩;cases h;exact⟨d,by rw[p];exact q⟩
   |true=>
    rw[if_pos rfl];rcases o g with h |h
    ·cases h
    have:=za (os:=os) (fun k=>(d k).2);exact qB e f c s.1 d (by omega)
theorem fc {m:AA}{rk':AA->Int}(c:∀k,rk' k<=1000000000):∀(b:List AN) (s:List (AA × Int) × Bool),(∀w∈b,(w.taken=0\/w.taken=1)/\rk' w.to+w.taken<=rk' m)->(∀k,0<=Cp s.1 k/\Cp s.1 k<=rk' k)->∀k,0<=Cp (wi_ m b s).1 k/\Cp (wi_ m b s).1 k<=rk' k
 |[],_,_,h=>h
 |w::b,s,d,h=>by
  have⟨i,j⟩:=d w (Lp ..);have f:=fun x g=>d x (Lk _ g);have l:0<=qf_ w.to 0 s.1/\qf_ w.to 0 s.1<=rk' w.to:=h w.to;have o:=c w.to;have e:i64.wrap (qf_ w.to 0 s.1+w.taken)=qf_ w.to 0 s.1+w.taken:=IntWalk.i64_in _ (by omega);unfold wi_;rw[e];split
  ·refine fc c b _ f fun k=> ?_
   have p:Cp (mset m (qf_ w.to 0 s.1+w.taken) s.1) k=if k=m then qf_ w.to 0 s.1+w.taken else qf_ k 0 s.1:=fX
   grind
  exact fc c b s f h
theorem qC {W:List (AA × List AN)}{L:Nat}{rk':AA->Int}(f:L<=1000000000)(d:∀k,rk' k<=(L:Int)):∀(b:List AA) (s:List (AA × Int) × Bool),(∀m∈b,∀w∈qf_ m [] W,(w.taken=0\/w.taken=1)/\rk' w.to+w.taken<=rk' m)->(∀k,0<=Cp s.1 k/\Cp s.1 k<=rk' k)->∃c,Mf W (L:Int) b s=some c/\∀k,0<=Cp c.1 k/\Cp c.1 k<=rk' k
 |[],s,_,h=>⟨s,rfl,h⟩
 |m::b,s,e,h=>by
  have g:=fc (m:=m) (rk':=rk') (fun k=>by have:=d k;omega) (qf_ m [] W) s (e m (Lp ..)) h;unfold Mf;rw[if_neg (by grind)];exact qC f d b _ (fun x i=>e x (Lk _ i)) g
theorem qE {W:List (AA × List AN)}{os:List AA}{rk':AA->Int}(b:os.length<=1000000000)(d:∀k,rk' k<=(os.length:Int))(e:∀m∈os,∀w∈qf_ m [] W,(w.taken=0\/w.taken=1)/\rk' w.to+w.taken<=rk' m):∀(c:Nat) (K:List (AA × Int)) (r:Option (List (AA × Int))),(∀k,0<=Cp K k/\Cp K k<=rk' k)->Kq W (os.length:Int) os c K=some r->∃f,r=some f/\∀k,Cp f k<=rk' k
 |0,_,_,_,h=>by cases h
 |c+1,K,r,g,h=>by
  have⟨s,i,j⟩:=qC b d os (K,false) e g;unfold Kq at h;rw[i] at h;dsimp only at h;split at h
  ·exact qE b d e c s.1 r j h
  grind
end Go.Proofs.YtnmkbmefohakmaaGreat.Ab
