/-
 What the evaluator wants besides.
-/
import Derived.Test.YtnmkbmefohakmaaGreatTea
set_option linter.all false
namespace Go.Proofs.YtnmkbmefohakmaaGreat.Ab
open Go.RowKit IntKind
def Qt (n:Nat)(b:List AD)(a:AC × Int):Nat->(List AD × Int)->Option (List AD)
 |0,_=>none
 |c+1,(e,d)=>(if decide (d<(b.length:Int)) then (CD b d).bind fun f=>(S5 n (⟨a.1.types,a.1.rels,a.1.ranks⟩:AC) f).bind fun g=>(if g then (DG e [f]).bind fun h=>Qt n b a c (h,(i64.wrap (d+1))) else Qt n b a c (e,(i64.wrap (d+1)))) else some e)
def hY (n:Nat)(_:List AD)(a:AC × Int)(b:List AD)(x2:AD)(k:List AD->Option (List AD)):Option (List AD):=
 match b with
 |fit=>
  (S5 n (⟨a.1.types,a.1.rels,a.1.ranks⟩:AC) x2).bind fun c=>
  (if c then
   (DG fit [x2]).bind fun d=>
   k d
  else
   k fit)
def iA (_:Nat)(_:List AD)(_:AC × Int)(a:List AD):Option (List AD):=
 match a with
 |fit=>some fit
theorem g6_ (n:Nat)(a:List AD)(d:AC × Int)(f:a.length<4611686018427387904)(c:Nat)(e:List AD)(b:Nat)(g:b<=a.length)(h:a.length-b<c):Qt n a d c (match e,(b:Int) with |fit,b=>(fit,b))=Dl (hY n a d) (iA n a d) (a.drop b) e:=
 Ka (fun c e b=>Qt n a d c (match e,b with |fit,b=>(fit,b))) a (hY n a d) (iA n a d) (fun _ _ _=>rfl) f c e b g h
def Xo (n:Nat)(l:List AG)(d:List AD):Option (AY × Int):=(aY n l).bind fun a=>(if (a.2 != 0) then none else (Qt n d a n ([],0):Option (List AD)).bind fun b=>(Xn n b).bind fun c=>(if decide (b.length=0) then some ((⟨(⟨a.1.types,a.1.rels,a.1.ranks⟩:AC),c,[]⟩:AY),0) else some ((⟨(⟨a.1.types,a.1.rels,a.1.ranks⟩:AC),c,b⟩:AY),0)))
variable {n:Nat}
theorem rf_ {l:List AG}{s:List AD}{r:AY × Int}(H:Xo n l s=some r):CO Tryz.prog 32 [.d (D.sl (List.map AQ l)),.d (D.sl (List.map AE s))] (D.tu [D.pt (A7 r.1) 0,D.v (.int .i64 r.2)]) false:=by
 unfold Xo at H;refine fg Ep EN (rs:= #[.tmp 4,.tmp 5]) Tryz.func32 ?_;refine Ay ?_;refine AT (ZT 1 ?_);have⟨k,O,P⟩:=AL H;refine Z0 ?_;refine Cn (zh O) ?_;refine Dt ?_;refine Z0 ?_;rcases As P with⟨w,B⟩ |⟨w,B⟩
 ·refine Z1 w ?_;cases B
 refine HL w ?_;refine AT (AT ?_);refine Fo w ?_;have⟨I,Q,J⟩:=AL B;refine D3 (α:={ y:List AD // I=y } × Nat) (fun |⟨⟨e,_⟩,C⟩=>⟨upd 6 (.d (.pt [.mp (Cb Value.string false eI k.1.types),.mp (Cb qb_ true Ah k.1.rels),.mp (Cb qb_ false eI k.1.ranks)] 0) true) (upd 8 (Ac 0 C (List.map AE e)) AK),upd 0 (A6 6 C false (List.map AE e)) AM,1⟩) ?_ ?_
 ·refine CS ?_;refine DQ (α:={ q:(Nat × (List AD × Int)) × Nat // Qt n s k q.1.1 q.1.2=some I }) (fun |⟨⟨⟨c,⟨j,t⟩⟩,g⟩,_⟩=>⟨upd 6 (.d (.pt [.mp (Cb Value.string false eI k.1.types),.mp (Cb qb_ true Ah k.1.rels),.mp (Cb qb_ false eI k.1.ranks)] 0) true) (upd 8 (Ac 0 g (List.map AE j)) (upd 19 (.d (.sl (List.map AE s)) true) (upd 20 (.v (.int .i64 (s.length:Int))) (upd 21 (.v (.int .i64 t)) AK)))),upd 0 (A6 6 g false (List.map AE j)) AM,1⟩) (fun q=>q.1.1.1) ⟨((n,([],0)),0),Q⟩ ?_ ?_
  ·exact ZR []
  rintro⟨⟨⟨c,⟨j,t⟩⟩,g⟩,x⟩;rcases c with _ |c
  ·exact Zx x
  unfold Qt at x
  try dsimp only at x
  refine AP ?_;rcases As x with⟨m,H21⟩ |⟨m,H21⟩
  ·have⟨o,R,H23⟩:=AL H21;have⟨z,K⟩:=FW R;try simp only[Int.reduceToNat,Lk] at K
   have A:=Cr AE K;have⟨ab,S,H29⟩:=AL H23;refine Z1 (Y3 m (A8 .i64 z) A) ?_;refine Cn (kP_ S) ?_;refine Z1 (Y3 m (A8 .i64 z) A) ?_;rcases As H29 with⟨E,H31⟩ |⟨E,H31⟩
   ·have⟨p,T,H33⟩:=AL H31;have⟨F,L⟩:=Ee T;have F:j.length+1<=4294967296:=F;have U:List.map AE j++[[.v (.string o.obj.type_),.v (.string o.obj.id_),.v (.string o.rel),.v (.string o.sub_.type_),.v (.string o.sub_.id_),.v (.string o.sub_.rel)]]=List.map AE p:=ER AE L;have V:j.length+1=p.length:=ES L;have X:p.length<=4294967296:=(by omega);have ad:0<p.length:=(by omega);refine Z1 (Y2 (Y6 m (A8 .i64 z) A E F U) (Y2 V X)) ?_;rcases j with _ |⟨q0,q1⟩
    ·try simp only[Lw,CW,CZ]
     exact⟨⟨((c,(p,(i64.wrap (t+1)))),0),H33⟩,ZR [(0,12)],Ls _⟩
    try simp only[Li,CW,CZ]
    exact⟨⟨((c,(p,(i64.wrap (t+1)))),(g+1)),H33⟩,ZR [(0,0)],Ls _⟩
   refine Z1 (Y4 m (A8 .i64 z) A E) ?_;exact⟨⟨((c,(j,(i64.wrap (t+1)))),g),H31⟩,ZR [(0,0)],Ls _⟩
  refine Z1 m ?_;obtain rfl:=Zi H21;exact⟨⟨⟨j,rfl⟩,g⟩,ZR [(0,0)]⟩
 rintro⟨⟨e,Y⟩,C⟩;obtain rfl:=Y.symm;try dsimp only at J
 refine ZT 1 ?_;have⟨ag,Z,H41⟩:=AL J;refine Z0 ?_;refine ff (re_ Z) ?_;refine Z0 ?_;rcases As H41 with⟨u,H43⟩ |⟨u,H43⟩
 ·have aa:e= []:=LV (of_decide_eq_true u);subst aa;simp only[Lw,Rb,T4];try simp only[FE,FD]
  refine Z0 ?_;obtain rfl:=Zi H43;exact Pw (b:=true) (v:=.tu [.pt 6 0,.v (.int .i64 0)]) (by first |(simp -implicitDefEqProofs only[go_sem,Nat.reduceEqDiff, ↓reduceIte]<;>rfl) |rfl) (Gq.tu (PW.cons (Ck.one (Cy.place (by rfl) (PW.cons (Cy.one (b':=true) (is:=[]) rfl (fun _=>rfl)) (PW.cons (Cy.one (b':=false) (is:=[]) rfl (fun _=>rfl)) (PW.cons (Cy.one (b':=false) (is:=[]) rfl (fun _=>rfl)) PW.nil)))) rfl) (PW.cons (Ck.one (Cy.one (b':=false) (is:=[]) rfl (fun _=>rfl)) rfl) PW.nil))) (by intro h;first |rfl |cases h)
 have d:0<e.length:=by have:=of_decide_eq_false u;omega
 have M:∀i,FE i (List.map AE e)= [i]:=fun i=>by cases G:e with |nil=>(rw[G] at d;simp at d) |cons a r=>rfl
 have N:∀b,FD b (List.map AE e)=b:=fun b=>by cases G:e with |nil=>(rw[G] at d;simp at d) |cons a r=>rfl
 refine Z1 (Y6 u M N d (YV (f:=AE) d) (YO (f:=AE) d)) ?_;obtain rfl:=Zi H43;exact Pw (b:=true) (v:=.tu [.pt 6 0,.v (.int .i64 0)]) (by first |(simp -implicitDefEqProofs only[go_sem,Nat.reduceEqDiff, ↓reduceIte]<;>rfl) |rfl) (Gq.tu (PW.cons (Ck.one (Cy.place (by rfl) (PW.cons (Cy.one (b':=true) (is:=[]) rfl (fun _=>rfl)) (PW.cons (Cy.one (b':=false) (is:=[]) rfl (fun _=>rfl)) (PW.cons (Cy.one (b':=false) (is:=[0]) (by first |rfl |(simp -implicitDefEqProofs only[go_sem,reduceCtorEq, ↓reduceIte];done) |(simp -implicitDefEqProofs only[go_sem,LT,Int.reduceToNat,Int.reduceLT,Int.reduceLE,Int.reduceBEq,Int.reduceBNe,Nat.reduceLT,Nat.reduceBEq,Int.reduceEq,Nat.reduceEqDiff,Nat.reduceAdd,Nat.reduceSub,Nat.reduceMul,Nat.reduceLeDiff,reduceCtorEq, ↓reduceIte,Ah,C3,AR,AX,AH,AE,AQ,Az,Ag,CA,EP,Ei,A7,u,M,N,d,KC (f:=AE) d,Vz (f:=AE) d];rfl)) (fun _=>rfl)) PW.nil)))) rfl) (PW.cons (Ck.one (Cy.one (b':=false) (is:=[]) rfl (fun _=>rfl)) rfl) PW.nil))) (by intro h;first |rfl |cases h)
def ah (n:Nat)(g:AY)(a:ByteArray)(rel:ByteArray):Option Bool:=(HK n g.schema a rel).bind fun b=>some b.2
theorem kQ_ {g:AY}{a:ByteArray}{rel:ByteArray}{r:Bool}(H:ah n g a rel=some r):AI Tryz.prog 33 [D.pt (A7 g) 0,D.v (.string a),D.v (.string rel)] (D.v (.bool r)) true:=by
 unfold ah at H;refine zP #[.tmp 6] Tryz.func33 ?_;refine ZT 1 ?_;have⟨d,b,c⟩:=AL H;refine Z0 ?_;refine Cn (Ma b) ?_;refine Z0 ?_;obtain rfl:=Zi c;exact Ax
def Uv (n:Nat)(l:List AG)(b:List AD)(o:Ak)(rel:ByteArray)(s:AN):Option (Bool × Int):=(Xo n l b).bind fun a=>(if (a.2 != 0) then some (false,a.2) else (if (s.rel.toList==({ data:= #[] }:ByteArray).toList) then (ah n (⟨(⟨a.1.schema.types,a.1.schema.rels,a.1.schema.ranks⟩:AC),(⟨(⟨a.1.index.left.subs,a.1.index.left.objs⟩:Dh),(⟨a.1.index.right.refs,a.1.index.right.users⟩:D0)⟩:C8),a.1.rows_⟩:AY) o.type_ rel).bind fun c=>(if c then (JO n (⟨(⟨a.1.schema.types,a.1.schema.rels,a.1.schema.ranks⟩:AC),(⟨(⟨a.1.index.left.subs,a.1.index.left.objs⟩:Dh),(⟨a.1.index.right.refs,a.1.index.right.users⟩:D0)⟩:C8),a.1.rows_⟩:AY) o rel s).bind fun d=>some (d,0) else some (false,12)) else some (false,13)))
theorem fm_ {l:List AG}{g:List AD}{o:Ak}{rel:ByteArray}{s:AN}{r:Bool × Int}(H:Uv n l g o rel s=some r):AI Tryz.prog 13 [D.sl (List.map AQ l),D.sl (List.map AE g),D.ag (C3 o),D.v (.string rel),D.ag (AR s)] (D.tu [D.v (.bool r.1),D.v (.int .i64 r.2)]) true:=by
 unfold Uv at H;refine ZP Ep EN (rs:= #[.tmp 10,.tmp 11]) Tryz.func13 ?_;refine ZT 1 ?_;have⟨p,h,i⟩:=AL H;refine Z0 ?_;refine ff (rf_ h) ?_;refine Z0 ?_;obtain⟨a,c⟩ |⟨a,c⟩:=As i
 ·refine Z1 a ?_;cases c;exact Ax
 refine Z1 a ?_;obtain⟨d,e⟩ |⟨d,e⟩:=As c
 ·have⟨q,j,k⟩:=AL e;have f:=Y2 a d;refine Z1 f ?_;refine Cn (kQ_ j) ?_;refine Z1 f ?_;obtain⟨b,H10⟩ |⟨b,H10⟩:=Cg f k
  ·have⟨t,m,H12⟩:=AL H10;refine Z1 b ?_;refine Cn (zb m) ?_;refine Z1 b ?_;cases H12;exact Ax
  refine Z1 b ?_;cases H10;exact Ax
 refine Z1 (Y2 a d) ?_;cases e;exact Ax
end Go.Proofs.YtnmkbmefohakmaaGreat.Ab
