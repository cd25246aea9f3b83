/-
 A schema's ranks are found.
-/
import Derived.Test.YtnmkbmefohakmaaGreatPrh
set_option linter.all false
namespace Go.Proofs.YtnmkbmefohakmaaGreat.Ab
open Go.RowKit IntKind
variable {R:List (AA × AW)}{hp:Hp}
theorem conc_nil {nx:Nat}:AU Tryz.prog 167 [.v (.slice none 0 0)] hp nx fun v a b=>v= .v (.slice none 0 0)/\a=hp/\nx<=b:=by
 refine zq Tryz.func167 ?_;refine EE ?_;refine EZ ?_;refine D3 (α:={ k:Nat // nx<=k }) (fun k=>⟨upd 0 (.v (.slice none 0 0)) (upd 3 (.v (.int .i64 0)) AK),hp,k.1⟩) ?_ ?_
 ·refine CS ?_;refine DQ (α:=Unit) (fun _=>⟨upd 0 (.v (.slice none 0 0)) (upd 3 (.v (.int .i64 0)) (upd 10 (.v (.int .i64 0)) (upd 11 (.v (.int .i64 0)) AK))),hp,nx+5⟩) (fun _=>0) () ?_ ?_
  ·exact CT
  rintro⟨⟩;refine EE ?_;exact⟨⟨_,by omega⟩,CT⟩
 rintro⟨k,f⟩;refine Ay ?_;refine CR ((qy (k:=0) (Lg _)).mono ?_);rintro v a b ⟨d,c,e⟩;dsimp only at d c e;obtain⟨rfl,rfl⟩:=c rfl;refine Z0 ?_;refine EZ ?_;refine D3 (α:={ k:Nat // nx<=k }) (fun k=>⟨upd 6 (.v (.slice none 0 0)) AK,a,k.1⟩) ?_ ?_
 ·refine CS ?_;refine DQ (α:=Unit) (fun _=>⟨upd 6 (.v (.slice none 0 0)) (upd 26 (.v (.int .i64 0)) (upd 27 (.v (.int .i64 0)) AK)),a,b+3⟩) (fun _=>0) () ?_ ?_
  ·exact CT
  rintro⟨⟩;refine EE ?_;exact⟨⟨_,by omega⟩,CT⟩
 rintro⟨g,h⟩;refine Ay ?_;refine AP ?_;exact⟨_,_,rfl,⟨fun _=>.inr rfl⟩,rfl,rfl,by dsimp only;omega⟩
theorem steps_nil {nx:Nat}{x:AV}{t:ByteArray}{b:Bool}:AU Tryz.prog 141 [x,.v (.string t),.d (.sl []) b] hp nx fun v a c=>v= .v (.slice none 0 0)/\a=hp/\nx<=c:=by
 refine zq Tryz.func141 ?_;refine EE ?_;refine EZ ?_;refine D3 (α:={ k:Nat // nx<=k }) (fun k=>⟨upd 7 (.v (.slice none 0 0)) AK,hp,k.1⟩) ?_ ?_
 ·refine CS ?_;refine DQ (α:=Unit) (fun _=>⟨upd 7 (.v (.slice none 0 0)) (upd 14 (.v (.int .i64 0)) (upd 15 (.v (.int .i64 0)) AK)),hp,nx+5⟩) (fun _=>0) () ?_ ?_
  ·exact CT
  rintro⟨⟩;refine EE ?_;exact⟨⟨_,by omega⟩,CT⟩
 rintro⟨k,e⟩;refine Ay ?_;refine CR (conc_nil.mono ?_);rintro v a c ⟨rfl,rfl,d⟩;dsimp only at d;refine Fc ?_;exact⟨_,_,rfl,⟨fun _=>.inr rfl⟩,rfl,rfl,by dsimp only;omega⟩
theorem iT {id sz ver:Nat}{es:List (List D)}(h:es≠[]->hp id=some (.rw es sz ver false false))(i:Nat):Dy id sz ver es AM i=none\/Dy id sz ver es AM i=hp i:=by
 by_cases e:es≠[]/\i=id
 ·exact .inr (by rw[e.2,MX e.1,h e.1])
 exact .inl (by rw[JB fun a b=>e ⟨a,b⟩];rfl)
def Ft:List AN->List AJ
 |[]=>[]
 |s::r=>if s.rel.toList==ByteArray.empty.toList then Ft r else⟨⟨s.type_,s.rel⟩,0⟩::Ft r
theorem TA (s:AN)(r:List AN):Ft (s::r)=if s.rel.toList==ByteArray.empty.toList then Ft r else⟨⟨s.type_,s.rel⟩,0⟩::Ft r:=rfl
def Qv (n:Nat)(S:AC)(m:AA):Option (List AJ):=
 match qf_ m ⟨ByteArray.empty,[],[]⟩ S.rels with
 |⟨_,a,[]⟩=>if a.length<=1000000 then some (Ft a) else none
 |⟨_,[],e::r⟩=>Xw n S m.typ (e::r)
 |_=>none
theorem lE_ {n:Nat}{S:AC}{m:AA}{r:List AJ}(h:Qv n S m=some r):AI Tryz.prog 114 [D.pt (Az S) 0,D.ag (Ag m)] (D.sl (r.map AF)) true:=by
 have⟨a,b⟩:=m;refine zP #[.tmp 4] Tryz.func114 ?_;refine Ay ?_;refine AT (ZT 1 ?_);have z:En (true,[.string,.string]) (.agg #[.string a,.string b]) (.d (.ag [.v (.string ByteArray.empty),.sl [],.sl []]) true) false (Fe true (Cb qb_ true Ah S.rels))=some (.d (.ag (Ah (qf_ (⟨a,b⟩:AA) (⟨ByteArray.empty,[],[]⟩:AW) S.rels))) true,[]):=IW (b:=true) (ag:=true) (enc:=Ah) Mc (⟨a,b⟩:AA) ((⟨ByteArray.empty,[],[]⟩:AW):AW) false S.rels;unfold Qv at h;generalize qf_ (⟨a,b⟩:AA) (⟨ByteArray.empty,[],[]⟩:AW) S.rels=g at h z;have⟨gn,c,G⟩:=g;refine Ds z ?_;cases G with
 |nil=>
  dsimp only at h;split at h;rotate_left
  ·cases h
  rename_i Y;cases h;refine Ay ?_;refine CR (steps_nil.mono ?_);rintro v Z H ⟨rfl,rfl,I⟩;dsimp only at I;refine Z0 ?_;refine EZ ?_;refine D3 (α:={ t:Nat × Nat × Nat // Ft c≠[]->t.1<t.2.2 }) (fun t=>⟨upd 6 (Ac t.1.1 t.1.2.1 ((Ft c).map AF)) AK,Dy t.1.1 3 t.1.2.1 ((Ft c).map AF) AM,t.1.2.2⟩) ?_ ?_
  ·refine CS ?_;refine DQ (α:={ t:Nat × List AJ × Nat × Nat × Nat // t.1<=c.length/\t.2.1++Ft (c.drop t.1)=Ft c/\t.2.1.length<=t.1/\(t.2.1≠[]->t.2.2.1<t.2.2.2.2) })
    (fun t=>⟨upd 6 (Ac t.1.2.2.1 t.1.2.2.2.1 (t.1.2.1.map AF)) (upd 22 (.d (.sl (c.map AR)) true) (upd 23 (.v (.int .i64 (c.length:Int))) (upd 24 (.v (.int .i64 (t.1.1:Int))) AK))),Dy t.1.2.2.1 3 t.1.2.2.2.1 (t.1.2.1.map AF) AM,t.1.2.2.2.2⟩) (fun t=>c.length-t.1.1)
    ⟨(0,[],0,0,H+5),Lg _,rfl,Lc _,fun d=>absurd rfl d⟩ ?_ ?_
   ·exact .weak ⟨DE rfl DS,fun _=>.inl rfl,by dsimp only;omega⟩
   rintro⟨⟨i,l,oid,over,j⟩,J,f,s,k⟩;dsimp only at J f s k;refine AT (ZT 1 ?_);by_cases x:i<c.length;rotate_left
   ·have y:(decide ((i:Int)<(c.length:Int)))=false:=C6;obtain rfl:i=c.length:=(by omega);rw[Bg] at f;rw[show Ft ([]:List AN)= [] from rfl,LX] at f;subst f;refine Cw y ?_;refine Z0 ?_;exact⟨⟨(oid,over,_),fun d=>LF (k d) (N6 _ _)⟩,CT⟩
   have y:(decide ((i:Int)<(c.length:Int)))=true:=Cp;have K:c[i]? =some c[i]:=Le x;have L:(c.map AR)[i]? =some (AR c[i]):=Cr AR K;have A:c.drop i=c[i]::c.drop (i+1):=Lm x;refine Cw y ?_;refine Z0 ?_;refine AT (D3 (α:={ t:List AJ × Nat × Nat × Nat // t.1++Ft (c.drop (i+1))=Ft c/\t.1.length<=i+1/\(t.1≠[]->t.2.1<t.2.2.2) }) (fun t=>⟨upd 6 (Ac t.1.2.1 t.1.2.2.1 (t.1.1.map AF)) (upd 22 (.d (.sl (c.map AR)) true) (upd 23 (.v (.int .i64 (c.length:Int))) (upd 24 (.v (.int .i64 (i:Int))) AK))),Dy t.1.2.1 3 t.1.2.2.1 (t.1.1.map AF) AM,t.1.2.2.2⟩) ?_ ?_);rotate_left
   ·rintro⟨⟨M,N,O,B⟩,P,Q,T⟩;refine ZT 1 ?_;refine Z1 (Al (n:=i)) ?_;exact⟨⟨(i+1,M,N,O,B+2),x,P,Q,fun d=>LF (T d) (N6 _ _)⟩,CT,by dsimp only;omega⟩
   refine CS ?_;refine AT (ZT 1 ?_);have w:=Y2 L (Y2 (A8 .i64 (show(0:Int)<=(i:Int) by omega)) (show((i:Int)).toNat=i from Lk _));refine Cw w ?_;refine Z0 ?_;cases o:(c[i].rel.toList==ByteArray.empty.toList) with
   |true=>
    have p:(c[i].rel.toList==({ data:= #[] }:ByteArray).toList)=true:=o;refine Fo p ?_;refine⟨⟨(l,oid,over,j+1+4+3),?_,Nat.le_succ_of_le s,fun d=>by have:=k d;dsimp only;omega⟩,.weak ⟨DE rfl DS,iT fun d=> ?_,by dsimp only;omega⟩⟩
    ·rw[A,TA,o,if_pos rfl] at f;exact f
    ·have:=k (by simpa using d);dsimp only;rw[Aa,Aa,MX d]
   |false=>
    have p:(c[i].rel.toList==({ data:= #[] }:ByteArray).toList)=false:=o;rw[A,TA,o,if_neg (by decide)] at f;generalize C:(upd (j+1+2) (some _) _:Hp)=E;have F:E (j+1+2)=some (.bx [.v (.string c[i].type_),.v (.string c[i].id_),.v (.string c[i].rel)]):=(by rw[<-C,Ap]);have U:l≠[]->E oid=some (.rw (l.map AF) 3 over false false):=fun d=>by
     have:=k d;rw[<-C,Aa,Aa,MX (by simpa using d)]
    refine ZT 1 ?_;cases l with
    |nil=>
     refine Z1 (Y2 p F) ?_;refine⟨⟨([⟨⟨c[i].type_,c[i].rel⟩,0⟩],j+1+4+3+8,0,j+1+4+3+10),f,by simp,fun _=>by dsimp only;omega⟩,.weak ⟨DE rfl DS,?_,by dsimp only;omega⟩⟩;dsimp only;exact iT fun d=>Ap _ _ _
    |cons b u=>
     have V:=U (by simp);have i3:=k (by simp);have X:(u.length+1+1<=4294967296)=True:=eq_true (by simp only[Lh] at s;omega);have g2:(oid=j+1+4+3+7)=False:=Ey;refine Z1 (Y5 p F V X g2) ?_;refine⟨⟨((b::u)++[⟨⟨c[i].type_,c[i].rel⟩,0⟩],oid,over+1,j+1+4+3+10),by rw[Lq];exact f,by rw[Ld,Ll];omega,fun _=>by dsimp only;omega⟩,.weak ⟨DE (by simp[Ac,upd]) DS,?_,by dsimp only;omega⟩⟩;dsimp only;exact iT fun d=>(Ap _ _ _).trans (by simp)
  ·rintro⟨⟨oid,over,B⟩,k⟩;refine Ay ?_;refine AP ?_;generalize Ft c=l;cases l with
   |nil=>exact Ax
   |cons a r=>
    refine IU (v:=Ac oid over ((a::r).map AF)) (b:=false) (is:=[oid]) (by simp -implicitDefEqProofs only[go_sem, ↓reduceIte,Ap]<;>rfl) ?_ rfl fun _=>rfl;simp[toR,Ek,Ce,Ac,MX,ca]
 |cons e re=>
  cases c with
  |cons a u=>cases h
  |nil=>
   dsimp only at h;refine Ay ?_;refine Cn (kv_ h) ?_;refine Z0 ?_;refine EZ ?_;refine D3 (α:=Unit) (fun _=>⟨upd 6 (.d (.sl (r.map AF)) false) AK,AM,30⟩) ?_ ?_
   ·refine CS ?_;refine DQ (α:=Unit) (fun _=>⟨upd 6 (.d (.sl (r.map AF)) false) (upd 23 (.v (.int .i64 0)) (upd 24 (.v (.int .i64 0)) AK)),AM,29⟩) (fun _=>0) () ?_ ?_
    ·exact .weak ⟨DE rfl DS,fun _=>.inl rfl,by dsimp only;omega⟩
    rintro⟨⟩;refine EE ?_;exact⟨(),.weak ⟨DE rfl (MH _),fun _=>.inl rfl,by dsimp only;omega⟩⟩
   rintro⟨⟩;refine Ay ?_;refine AP ?_;exact Ax
def cR (g:AW):List AV:=[.v (.string g.name),.d (.sl (g.subs.map AR)) true,.d (.sl (g.expr.map AX)) true]
def vR (g:AW):AV:=.ag (cR g)
def zR:List AV:=[.v (.string ByteArray.empty),.v (.slice none 0 0),.v (.slice none 0 0)]
theorem qz {K V:Type}[BEq K]{q:Bool × List TK}{kv:K->Value}{ev:V->AV}(c:FF q kv)(k:K)(z:AV)(ok:Bool)(m:List (K × V)):En q (kv k) z ok (AZ kv ev m)=some (if ok then .tu [(match mget k m with |some w=>ev w |none=>z),.v (.bool (Av k m))] else(match mget k m with |some w=>ev w |none=>z),[]):=by
 have⟨o,d,e,f⟩:=Pu (ev:=ev) c k m;unfold En;rw[d];cases a:mget k m with
 |none=>
  have⟨b,g⟩:=f a;subst b;simp[Av,a]
 |some w=>
  have⟨i,b,g⟩:=e w a;subst b;simp[Av,a]
def oR:Option AW->List AV
 |some g=>cR g
 |none=>zR
section
variable {hp:Hp}{nx q m1 m2 m3:Nat}{R:List (AA × AW)}
theorem lz_ {a b:ByteArray}{n:Bool}(d:∀j,nx<=j->hp j=none)(e:hp q=some (.bx [.mo m1,.mo m2,.mo m3]))(f:hp m2=some (.mo (AZ qb_ vR R) n)):
  AU Tryz.prog 65 [.pt q 0,.v (.string a),.v (.string b)] hp nx fun v o p=>v= .tu [.ag (oR (mget ⟨a,b⟩ R)),.v (.bool (Av ⟨a,b⟩ R))]/\o=hp/\nx<=p:=by
 have r:=Cd d e;have s:=Cd d f;refine zr Tryz.func65 ?_;have k:(q=nx)=False:=Ey;have l:(m2=nx)=False:=Ey;have m:(nx=nx+2+11)=False:=Ey;have c:En (true,[.string,.string]) (.agg #[.string a,.string b]) (.ag zR) true (AZ qb_ vR R)=some (.tu [(.ag (oR (mget ⟨a,b⟩ R))),.v (.bool (Av ⟨a,b⟩ R))],[]):=by
  refine(qz Mc ⟨a,b⟩ (.ag zR) true R).trans ?_;cases mget (⟨a,b⟩:AA) R<;>rfl
 unfold zR at c;generalize Av (⟨a,b⟩:AA) R=t at c⊢;generalize mget (⟨a,b⟩:AA) R=g at c⊢;cases g with
 |none=>
  unfold oR zR at c⊢;refine Z1 (Y6 m k l e f c) ?_;refine⟨_,hp,by simp -implicitDefEqProofs only[go_sem, ↓reduceIte,Tryz.f65,Ap,Nat.reduceEqDiff]<;>rfl,⟨fun i=> ?_⟩,rfl,rfl,by dsimp only;omega⟩;by_cases h:i<nx
  ·exact .inr (by dsimp only;repeat rw[Aa])
  ·exact .inl (d i (by omega))
 |some g=>
  unfold oR cR at c⊢;refine Z1 (Y6 m k l e f c) ?_;refine⟨_,hp,by simp -implicitDefEqProofs only[go_sem, ↓reduceIte,Tryz.f65,Ap,Nat.reduceEqDiff]<;>rfl,⟨fun i=> ?_⟩,rfl,rfl,by dsimp only;omega⟩;by_cases h:i<nx
  ·exact .inr (by dsimp only;repeat rw[Aa])
  exact .inl (d i (by omega))
end
def IL (a:ByteArray):List AW->List (AA × AW)->List (AA × AW) × Bool
 |[],R=>(R,false)
 |g::r,R=>if Av ⟨a,g.name⟩ R then(R,true) else IL a r (mset ⟨a,g.name⟩ g R)
def jf_:List AG->List (ByteArray × Int)->List (AA × AW)->List (ByteArray × Int) × List (AA × AW) × Int
 |[],T,R=>(T,R,0)
 |t::r,T,R=>if decide (0<qf_ t.name 0 T) then(T,R,11) else(fun p=>if p.2 then(mset t.name 1 T,p.1,11) else jf_ r (mset t.name 1 T) p.1) (IL t.name t.rels R)
def hpC (m1 m2:Nat)(T:List (ByteArray × Int))(R:List (AA × AW))(hp:Hp):Hp:=upd m2 (some (.mo (AZ qb_ vR R) false)) (upd m1 (some (.mo (AZ .string vI T) false)) hp)
section
variable {hp:Hp}{nx q m1 m2 m3:Nat}
set_option maxRecDepth 8000 in
theorem lC_ {l:List AG}{Q L:List (ByteArray × Int)}{S M:List (AA × AW)}{e:Int}(N:∀j,nx<=j->hp j=none)(hl:l.length<1000000)(aq:∀t∈l,t.rels.length<1000000)(hq:hp q=some (.bx [.mo m1,.mo m2,.mo m3]))(ad:hp m1=some (.mo (AZ .string vI Q) false))(ag:hp m2=some (.mo (AZ qb_ vR S) false))(ak:q≠m1)(ao:q≠m2)(ar:m1≠m2)(h:jf_ l Q S=(L,M,e)):
  AU Tryz.prog 88 [.pt q 0,.d (.sl (l.map AQ)) true] hp nx fun v av aE=>v= .v (.int .i64 e)/\av=hpC m1 m2 L M hp/\nx<=aE:=by
 have bb:=Cd N hq;have bd:=Cd N ad;have be:=Cd N ag;have C1:∀(T:List (ByteArray × Int)) (R:List (AA × AW)),hpC m1 m2 T R hp m1=some (.mo (AZ .string vI T) false):=fun T R=>by unfold hpC;rw[Ai _ _ ar,Ap]
 have U:∀(T:List (ByteArray × Int)) (R:List (AA × AW)),hpC m1 m2 T R hp m2=some (.mo (AZ qb_ vR R) false):=fun T R=>Ap _ _ _;have Cq:∀(T:List (ByteArray × Int)) (R:List (AA × AW)),hpC m1 m2 T R hp q=some (.bx [.mo m1,.mo m2,.mo m3]):=fun T R=>by unfold hpC;rw[Ai _ _ ao,Ai _ _ ak];exact hq
 have Cf:∀(T:List (ByteArray × Int)) (R:List (AA × AW)) (j:Nat),nx<=j->hpC m1 m2 T R hp j=none:=fun T R j E=>by unfold hpC;rw[Aa,Aa];exact N j E
 refine zq Tryz.func88 ?_;refine KF ?_;refine CS ?_;refine DQ (α:={ t:Nat × List (ByteArray × Int) × List (AA × AW) × Nat // t.1<=l.length/\nx<=t.2.2.2/\jf_ (l.drop t.1) t.2.1 t.2.2.1=(L,M,e) })
  (fun t=>⟨upd 0 (.pt q 0) (upd 11 (.d (.sl (l.map AQ)) true) (upd 12 (.v (.int .i64 (l.length:Int))) (upd 13 (.v (.int .i64 (t.1.1:Int))) AK))),hpC m1 m2 t.1.2.1 t.1.2.2.1 hp,t.1.2.2.2⟩) (fun t=>l.length-t.1.1)
  ⟨(0,Q,S,nx+4),Lg _,N6 _ _,h⟩ ?_ ?_
 ·refine Gd ?_ DS;unfold hpC;dsimp only;rw[Fv ad,Fv ag]
 rintro⟨⟨i,T,R,u⟩,hi,hn,x⟩;dsimp only at hi hn x;refine AT (ZT 1 ?_);by_cases O:i<l.length;rotate_left
 ·have V:(decide ((i:Int)<(l.length:Int)))=false:=C6;obtain rfl:i=l.length:=by omega
  rw[Bg] at x;simp only[jf_,LB] at x;obtain⟨rfl,rfl,rfl⟩:=x;refine Cw V ?_;refine Dt ?_;refine Fc ?_;exact⟨_,_,rfl,⟨fun _=>.inr rfl⟩,rfl,rfl,by dsimp only;omega⟩
 have V:(decide ((i:Int)<(l.length:Int)))=true:=Cp;have e1:l[i]? =some l[i]:=Le O;have ed:l.drop i=l[i]::l.drop (i+1):=Lm O;have a0:=aq _ (LZ O);rw[ed] at x;generalize l[i]=d at e1 x a0;have e2:(l.map AQ)[i]? =some (AQ d):=Cr AQ e1;unfold jf_ at x;refine Cw V ?_;refine Z0 ?_;refine AT (CS ?_);refine AT (ZT 1 ?_);have w:=Y2 e2 (Y2 (A8 .i64 (show(0:Int)<=(i:Int) by omega)) (show((i:Int)).toNat=i from Lk _));refine Z1 w ?_;generalize F:(upd (u+1+2) (some _) _:Hp)=B;have X:B q=some (.bx [.mo m1,.mo m2,.mo m3]):=by rw[<-F,Aa,Aa];exact Cq T R
 have Y:B m1=some (.mo (AZ .string vI T) false):=by rw[<-F,Aa,Aa];exact C1 T R
 have a2:B m2=some (.mo (AZ qb_ vR R) false):=by rw[<-F,Aa,Aa];exact U T R
 have G:B (u+1+2)=some (.bx [.v (.string d.name),.d (.sl (d.rels.map Ah)) true]):=by rw[<-F,Ap]
 have Z:∀j,j≠u+1+2->B j=hpC m1 m2 T R hp j:=fun j s=>by rw[<-F,Ai _ _ s,Ai _ _ s]
 refine AT (AT ?_);refine ZT 1 ?_;cases P:decide (0<qf_ d.name 0 T) with
 |true=>
  rw[P,if_pos rfl] at x;simp only[LB] at x;obtain⟨rfl,rfl,rfl⟩:=x;refine Z1 (Y4 X Y G P) ?_;refine DF (by rfl) ?_;refine Z0 ?_;refine ET (c:=true) rfl rfl ?_;refine Ay ?_;refine AP ?_;refine⟨_,hpC m1 m2 T R hp,rfl,⟨fun j=> ?_⟩,rfl,rfl,by dsimp only;omega⟩;by_cases E:j=u+1+2
  ·exact .inl (Cf T R j (by omega))
  ·exact .inr (Z j E).symm
 |false=>
  rw[P,if_neg (by decide)] at x;refine Z1 (Y4 X Y G P) ?_;refine DF (by rfl) ?_;refine Z0 ?_;refine DN (c:=false) rfl rfl ?_;refine AP ?_;refine AT (ZT 1 ?_);have f1:(m1=u+1+2)=False:=Ey;refine Z1 (Y4 X Y G f1) ?_;have v1:Ci q m1 (u+1+2) m2 q=1:=by simp[Ci]
  have v2:Ci q m1 (u+1+2) m2 m1=2:=by unfold Ci;rw[if_neg ak.symm,if_pos rfl]
  have v3:Ci q m1 (u+1+2) m2 (u+1+2)=3:=by unfold Ci;rw[ifn,ifn,if_pos rfl]
  refine KH (Ci q m1 (u+1+2) m2) _ rfl (by simp only[Nl,Np,LA,LL,Li,Lw,H0,v1,v2,v3];rfl) (by rfl) ?_;refine Dt ?_;obtain⟨f,a1⟩:∃f,f=u+1+2:=⟨_,rfl⟩;obtain⟨m,a3⟩:∃m,m=mset d.name 1 T:=⟨_,rfl⟩;rw[<-a3] at x⊢;rw[<-a1] at G Z f1⊢;have bg:f<u+1+4+8+7:=by omega
  have a4:f≠m1:=by omega
  have aa:f≠m2:=by omega
  have ap:f≠q:=by omega
  have hB:(upd m1 (some (.mo (AZ .string vI m) false)) B:Hp)=upd f (some (.bx [.v (.string d.name),.d (.sl (d.rels.map Ah)) true])) (hpC m1 m2 m R hp):=by
   funext k;by_cases s:k=f
   ·rw[s,Ai _ _ a4,G,Ap]
   rw[Ai _ _ s];by_cases z:k=m1
   ·rw[z,Ap,C1]
   rw[Ai _ _ z,Z k s];unfold hpC;by_cases h3:k=m2
   ·rw[h3,Ap,Ap]
   rw[Ai _ _ h3,Ai _ _ h3,Ai _ _ z,Ai _ _ z]
  rw[hB];refine Z1 (Ap f (some (.bx [.v (.string d.name),.d (.sl (d.rels.map Ah)) true])) (hpC m1 m2 m R hp)) ?_;refine CS ?_;refine DQ (α:={ t:Nat × List (AA × AW) × Nat // t.1<=d.rels.length/\nx<=t.2.2/\f<t.2.2/\(fun p:List (AA × AW) × Bool=>if p.2 then(m,p.1,11) else jf_ (l.drop (i+1)) m p.1) (IL d.name (d.rels.drop t.1) t.2.1)=(L,M,e) })
   (fun t=>⟨upd 0 (.pt q 0) (upd 6 (.pt f 0) (upd 11 (.d (.sl (l.map AQ)) true) (upd 12 (.v (.int .i64 (l.length:Int))) (upd 13 (.v (.int .i64 (i:Int))) (upd 32 (.d (.sl (d.rels.map Ah)) true) (upd 33 (.v (.int .i64 (d.rels.length:Int))) (upd 34 (.v (.int .i64 (t.1.1:Int))) AK))))))),upd f (some (.bx [.v (.string d.name),.d (.sl (d.rels.map Ah)) true])) (hpC m1 m2 m t.1.2.1 hp),t.1.2.2⟩) (fun t=>d.rels.length-t.1.1)
   ⟨(0,R,u+1+4+8+7+4),Lg _,by dsimp only;omega,by dsimp only;omega,x⟩ ?_ ?_
  ·exact CT
  rintro⟨⟨j,o,r⟩,E,a5,a6,y⟩;dsimp only at E a5 a6 y;refine AT (ZT 1 ?_);by_cases ab:j<d.rels.length;rotate_left
  ·have c2:(decide ((j:Int)<(d.rels.length:Int)))=false:=C6;obtain rfl:j=d.rels.length:=(by omega);rw[Bg] at y;refine Cw c2 ?_;refine Z0 ?_;refine ZT 1 ?_;refine Z1 (Al (n:=i)) ?_;refine⟨⟨(i+1,m,o,r+6),O,by dsimp only;omega,y⟩,.weak ⟨DE rfl DS,fun k=> ?_,by dsimp only;omega⟩,by dsimp only;omega⟩;dsimp only;by_cases A:k=f
   ·exact .inl (Cf m o k (by omega))
   exact .inr (Ai _ _ A).symm
  have c2:(decide ((j:Int)<(d.rels.length:Int)))=true:=Cp;have e3:d.rels[j]? =some d.rels[j]:=Le ab;have a7:d.rels.drop j=d.rels[j]::d.rels.drop (j+1):=Lm ab;rw[a7] at y;generalize d.rels[j]=g at e3 y;have e4:(d.rels.map Ah)[j]? =some (Ah g):=Cr Ah e3;refine Cw c2 ?_;refine Z0 ?_;refine AT (CS ?_);refine AT (ZT 1 ?_);have w2:=Y2 e4 (Y2 (A8 .i64 (show(0:Int)<=(j:Int) by omega)) (show((j:Int)).toNat=j from Lk _));refine Z1 w2 ?_;generalize H:(upd (r+1+2) (some _) _:Hp)=C;have dq:C q=some (.bx [.mo m1,.mo m2,.mo m3]):=by rw[<-H,Aa,Aa,Ai _ _ ap.symm];exact Cq m o
  have d2:C m2=some (.mo (AZ qb_ vR o) false):=by rw[<-H,Aa,Aa,Ai _ _ aa.symm];exact U m o
  have dt:C f=some (.bx [.v (.string d.name),.d (.sl (d.rels.map Ah)) true]):=by rw[<-H,Aa,Aa,Ap]
  have dr:C (r+1+2)=some (.bx (cR g)):=by rw[<-H,Ap];rfl
  have da:∀k,k≠r+1+2->C k=upd f (some (.bx [.v (.string d.name),.d (.sl (d.rels.map Ah)) true])) (hpC m1 m2 m o hp) k:=fun k s=>by rw[<-H,Ai _ _ s,Ai _ _ s]
  have df:∀k,r+1+4<=k->C k=none:=fun k A=>by rw[da k (by omega),Aa];exact Cf m o k (by omega)
  unfold cR at dr;refine AT (AT ?_);refine ZT 1 ?_;refine Z1 (Y3 dq dt dr) ?_;refine CR ((lz_ (a:=d.name) (b:=g.name) (fun k A=>df k (by dsimp only at A;omega)) dq d2).mono ?_);rintro v hpE a8 ⟨rfl,rfl,a9⟩;dsimp only at a9;unfold IL at y;cases hg:mget (⟨d.name,g.name⟩:AA) o with
  |some g0=>
   have I:Av (⟨d.name,g.name⟩:AA) o=true:=(by unfold Av;rw[hg];rfl);rw[I,if_pos rfl,if_pos rfl] at y;simp only[LB] at y;obtain⟨rfl,rfl,rfl⟩:=y;unfold oR cR;refine Cw I ?_;refine Z0 ?_;refine ET (c:=true) rfl rfl ?_;refine Ay ?_;refine AP ?_;refine⟨_,hpC m1 m2 m o hp,rfl,⟨fun k=> ?_⟩,rfl,rfl,by dsimp only;omega⟩;by_cases A:k<nx
   ·refine .inr ?_;dsimp only;rw[Aa,Aa,da k (by omega),Aa]
   ·exact .inl (Cf m o k (by omega))
  |none=>
   have I:Av (⟨d.name,g.name⟩:AA) o=false:=(by unfold Av;rw[hg];rfl);simp only[I,Nr, ↓reduceIte] at y;unfold oR zR;refine Cw I ?_;refine Z0 ?_;refine DN (c:=false) rfl rfl ?_;refine AP ?_;refine ZT 1 ?_;generalize J:(upd (r+1+4+9) (some _) _:Hp)=K;have fq:K q=some (.bx [.mo m1,.mo m2,.mo m3]):=(by rw[<-J,Aa,Aa];exact dq);have f2:K m2=some (.mo (AZ qb_ vR o) false):=(by rw[<-J,Aa,Aa];exact d2);have ft:K f=some (.bx [.v (.string d.name),.d (.sl (d.rels.map Ah)) true]):=(by rw[<-J,Aa,Aa];exact dt);have fr:K (r+1+2)=some (.bx [.v (.string g.name),.d (.sl (g.subs.map AR)) true,.d (.sl (g.expr.map AX)) true]):=(by rw[<-J,Aa,Aa];exact dr);have fa:∀k,k<r->K k=upd f (some (.bx [.v (.string d.name),.d (.sl (d.rels.map Ah)) true])) (hpC m1 m2 m o hp) k:=fun k s=>(by rw[<-J,Aa,Aa];exact da k (by omega));have ba:Ec (true,[.string,.string]) (.agg #[.string d.name,.string g.name]) (.ag [.v (.string g.name),.d (.sl (g.subs.map AR)) true,.d (.sl (g.expr.map AX)) true]) (AZ qb_ vR o)=some (AZ qb_ vR (mset ⟨d.name,g.name⟩ g o)):=Yx (ev:=vR) Mc ⟨d.name,g.name⟩ g o;refine Z1 (Y5 fq f2 ft fr ba) ?_;have v1:Ci q m2 f (r+1+2) q=1:=(by simp[Ci]);have v2:Ci q m2 f (r+1+2) m2=2:=(by unfold Ci;rw[if_neg ao.symm,if_pos rfl]);have v3:Ci q m2 f (r+1+2) f=3:=(by unfold Ci;rw[if_neg ap,if_neg aa,if_pos rfl]);have v4:Ci q m2 f (r+1+2) (r+1+2)=4:=(by unfold Ci;rw[ifn,ifn,ifn,if_pos rfl]);refine KH (Ci q m2 f (r+1+2)) _ rfl (by simp only[Nl,Np,LA,LL,Li,Lw,H0,v1,v2,v3,v4];rfl) (by rfl) ?_;refine Z0 ?_;refine ZT 1 ?_;refine Z1 (Al (n:=j)) ?_;refine⟨⟨(j+1,mset ⟨d.name,g.name⟩ g o,a8+1+11+2),ab,by dsimp only;omega,by dsimp only;omega,y⟩,.weak ⟨DE rfl DS,fun k=> ?_,by dsimp only;omega⟩,by dsimp only;omega⟩;dsimp only;by_cases z:k=m2
   ·exact .inr (by rw[z,Ai _ _ aa.symm,Ap,U])
   by_cases A:k<r
   ·refine .inr ?_;rw[Ai _ _ z,fa k A];by_cases s:k=f
    ·rw[s,Ap,Ap]
    rw[Ai _ _ s,Ai _ _ s];unfold hpC;rw[Ai _ _ z,Ai _ _ z]
   exact .inl (by rw[Aa];exact Cf m _ k (by omega))
end
def vW (a:List AJ):AV:=.d (.sl (a.map AF)) false
def S6 (n:Nat)(S:AC):List AA->List (AA × List AJ)->Option (List (AA × List AJ))
 |[],W=>some W
 |m::r,W=>(Qv n S m).bind fun a=>S6 n S r (mset m a W)
def vx_ (m:AA):List AJ->List (AA × Int) × Bool->List (AA × Int) × Bool
 |[],s=>s
 |w::r,s=>if decide (qf_ m 0 s.1<i64.wrap (qf_ w.to 0 s.1+w.taken)) then vx_ m r (mset m (i64.wrap (qf_ w.to 0 s.1+w.taken)) s.1,true) else vx_ m r s
def PX (W:List (AA × List AJ))(a:Int):List AA->List (AA × Int) × Bool->Option (List (AA × Int) × Bool)
 |[],s=>some s
 |m::r,s=>if decide (a<qf_ m 0 (vx_ m (qf_ m [] W) s).1) then none else PX W a r (vx_ m (qf_ m [] W) s)
def Mj (W:List (AA × List AJ))(a:Int)(b:List AA):Nat->List (AA × Int)->Option (Option (List (AA × Int)))
 |0,_=>none
 |c+1,K=>match PX W a b (K,false) with
  |none=>some none
  |some s=>if s.2 then Mj W a b c s.1 else some (some s.1)
theorem iC {K V:Type}[BEq K][LawfulBEq K]{k:K}{v:V}:∀ {m:List (K × V)},mget k m=some v->(k,v)∈m
 |[],h=>by cases h
 |p::r,h=>by
  unfold mget at h;split at h
  ·grind
  exact .tail _ (iC h)
theorem rA {q:Bool × List TK}{x:Value}:∀ {a:List (Value × AV)} {i:Nat} {v:AV},D5 q x a=some (some (i,v))->∃k,a[i]? =some (k,v)
 |[],_,_,h=>by cases h
 |(k,w)::r,i,v,h=>by
  unfold D5 at h;split at h
  ·cases h;exact⟨k,rfl⟩
  ·cases e:D5 q x r with
   |none=>
    rw[e] at h;cases h
   |some o=>
    cases o with
    |none=>
     rw[e] at h;cases h
    |some p=>
     rw[e] at h;cases h;have⟨b,c⟩:=rA e;exact⟨b,c⟩
  cases h
theorem lA_ {m:Nat}{r:Bool}(h:hp m=some (.mo (AZ qb_ vR R) r)):Cy hp true (.mo m) (.mp (Cb qb_ true Ah R)):=by
 have n:∀ {j:Nat} {k:Value} {v:AV},(AZ qb_ vR R)[j]? =some (k,v)->∃p,R[j]? =some p/\k=qb_ p.1/\v=vR p.2:=fun{j k v} h=>by
  grind [AZ,Option.map_eq_some_iff,Prod.mk.injEq]
 have o:∀ {j:Nat} {k:Value} {c:Bool} {e:List D} {p:AA × AW},R[j]? =some p->(Cb qb_ true Ah R)[j]? =some (k,c,e)->k=qb_ p.1/\c=true/\e=Ah p.2:=fun{j k c e p} f g=>by
  grind [Cb,Option.some.injEq,Prod.mk.injEq]
 refine .mo h (by simp[Cb,AZ]) (fun j k v s c e f g=> ?_) fun j k v s c e i x d f g a b=> ?_
 ·obtain⟨p,l,rfl,rfl⟩:=n f;obtain⟨rfl,rfl,rfl⟩:=o l g;exact⟨rfl,rfl,rfl,fun h=>by cases h⟩
 obtain⟨p,l,rfl,rfl⟩:=n f;obtain⟨rfl,rfl,rfl⟩:=o l g
 match i,a,b with
 |0,a,b=>cases a;cases b;exact .one (b':=false) (is:=[]) rfl (by simp)
 |1,a,b=>cases a;cases b;exact .one (b':=true) (is:=[]) rfl (by simp)
 |2,a,b=>cases a;cases b;exact .one (b':=true) (is:=[]) rfl (by simp)
 |i+3,a,_=>simp[vR,cR,Hl] at a
theorem JP {q m1 m2 m3:Nat}{a b d3:Bool}{T:List (ByteArray × Int)}{K:List (AA × Int)}(c:hp q=some (.bx [.mo m1,.mo m2,.mo m3]))(d:hp m1=some (.mo (AZ .string vI T) a))(e:hp m2=some (.mo (AZ qb_ vR R) b))(f:hp m3=some (.mo (AZ qb_ vI K) d3)):
  Cy hp true (.pt q 0) (.pt (Az ⟨T,R,K⟩) 0):=
 .place c (PW.cons (lV d fun _=>⟨_,rfl,rfl,rfl⟩) (PW.cons (lA_ e) (PW.cons (lV f fun _=>⟨_,rfl,rfl,rfl⟩) PW.nil)))
section
variable {hp:Hp}{nx q m1 m2 m3 oid over:Nat}
set_option maxRecDepth 8000 in
theorem lB_ {n c:Nat}{ns:List AA}{T:List (ByteArray × Int)}{W:List (AA × List AJ)}{res:Option (List (AA × Int))}(hf:∀j,nx<=j->hp j=none)(h0:0<ns.length)(hl:ns.length<1000000000)
  (hq:hp q=some (.bx [.mo m1,.mo m2,.mo m3])) (hm1:hp m1=some (.mo (AZ .string vI T) false)) (hm2:hp m2=some (.mo (AZ qb_ vR R) false)) (hm3:hp m3=some (.mo (AZ qb_ vI []) false)) (ho:hp oid=some (.rw (ns.map Ag) 2 over false false))
  (hd:q≠m1/\q≠m2/\q≠m3/\m1≠m2/\m1≠m3/\m2≠m3) (hod:oid≠q/\oid≠m1/\oid≠m2/\oid≠m3) (hW:S6 n ⟨T,R,[]⟩ ns []=some W) (hWs:∀m∈ns,(mget m W).isSome=true) (hws:∀p∈W,p.2.length<1000000000) (h:Mj W (ns.length:Int) ns c []=some res):
  AU Tryz.prog 91 [.pt q 0,.so oid over 0 ns.length] hp nx fun v hp2 nx2=>v= .v (.bool res.isSome)/\(∃K,(∀K',res=some K'->K'=K)/\hp2=upd m3 (some (.mo (AZ qb_ vI K) false)) hp)/\nx<=nx2:=by
 have hqn:=Cd hf hq;have hmn1:=Cd hf hm1;have hmn2:=Cd hf hm2;have hmn3:=Cd hf hm3;have hon:=Cd hf ho;obtain⟨hd1,hd2,hd3,hd4,hd5,hd6⟩:=hd;refine zq Tryz.func91 ?_;refine EE ?_;refine EZ ?_;obtain⟨m4,e4⟩:∃m4,m4=nx+1:=⟨_,rfl⟩;rw[<-e4];have hW0:(some (AO.mo [] false):Option AO)=some (.mo (AZ qb_ vW []) false):=rfl;rw[hW0];have Hq:∀W':List (AA × List AJ),upd m4 (some (.mo (AZ qb_ vW W') false)) hp q=some (.bx [.mo m1,.mo m2,.mo m3]):=fun W'=>by rw[Aa];exact hq
 have H1:∀W':List (AA × List AJ),upd m4 (some (.mo (AZ qb_ vW W') false)) hp m1=some (.mo (AZ .string vI T) false):=fun W'=>by rw[Aa];exact hm1
 have H2:∀W':List (AA × List AJ),upd m4 (some (.mo (AZ qb_ vW W') false)) hp m2=some (.mo (AZ qb_ vR R) false):=fun W'=>by rw[Aa];exact hm2
 have H3:∀W':List (AA × List AJ),upd m4 (some (.mo (AZ qb_ vW W') false)) hp m3=some (.mo (AZ qb_ vI []) false):=fun W'=>by rw[Aa];exact hm3
 have Ho:∀W':List (AA × List AJ),upd m4 (some (.mo (AZ qb_ vW W') false)) hp oid=some (.rw (ns.map Ag) 2 over false false):=fun W'=>by rw[Aa];exact ho
 have Hf:∀(W':List (AA × List AJ)) (j:Nat),nx+2<=j->upd m4 (some (.mo (AZ qb_ vW W') false)) hp j=none:=fun W' j hj=>by rw[Aa];exact hf j (by omega)
 refine D3 (α:={ k:Nat // nx+2<=k }) (fun k=>⟨upd 0 (.pt q 0) (upd 1 (.so oid over 0 ns.length) (upd 5 (.mo m4) AK)),upd m4 (some (.mo (AZ qb_ vW W) false)) hp,k.1⟩) ?_ ?_
 ·refine CS ?_;refine DQ (α:={ t:Nat × List (AA × List AJ) × Nat // t.1<=ns.length/\nx+2<=t.2.2/\S6 n ⟨T,R,[]⟩ (ns.drop t.1) t.2.1=some W })
   (fun t=>⟨upd 0 (.pt q 0) (upd 1 (.so oid over 0 ns.length) (upd 5 (.mo m4) (upd 15 (.so oid over 0 ns.length) (upd 16 (.v (.int .i64 (ns.length:Int))) (upd 17 (.v (.int .i64 (t.1.1:Int))) AK))))),upd m4 (some (.mo (AZ qb_ vW t.1.2.1) false)) hp,t.1.2.2⟩) (fun t=>ns.length-t.1.1)
   ⟨(0,[],m4+2+3),Lg _,by dsimp only;omega,hW⟩ ?_ ?_
  ·exact CT
  rintro⟨⟨i,W',nxi⟩,hi,hn,hw⟩;dsimp only at hi hn hw;refine AT (ZT 1 ?_);by_cases hlt:i<ns.length
  ·have c1:(decide ((i:Int)<(ns.length:Int)))=true:=Cp;have e1:ns[i]? =some ns[i]:=Le hlt;have ed:ns.drop i=ns[i]::ns.drop (i+1):=Lm hlt;rw[ed] at hw;generalize ns[i]=m at e1 hw;have e2:(ns.map Ag)[i]? =some (Ag m):=Cr Ag e1;unfold S6 at hw;obtain⟨ws,hws1,hw⟩:=AL hw;refine Cw c1 ?_;refine Z0 ?_;refine AT (CS ?_);refine AT (ZT 1 ?_);have w:=Y2 e2 (Y4 (A8 .i64 (show(0:Int)<=(i:Int) by omega)) (show((i:Int)).toNat=i from Lk _) (Ho W') (show(i<ns.length)=True from eq_true hlt));refine Z1 w ?_;generalize eA:(upd (nxi+1+2) (some _) _:Hp)=hpA;have aq:hpA q=some (.bx [.mo m1,.mo m2,.mo m3]):=(by rw[<-eA,Aa,Aa];exact Hq W');have a1:hpA m1=some (.mo (AZ .string vI T) false):=(by rw[<-eA,Aa,Aa];exact H1 W');have a2:hpA m2=some (.mo (AZ qb_ vR R) false):=(by rw[<-eA,Aa,Aa];exact H2 W');have a3:hpA m3=some (.mo (AZ qb_ vI []) false):=(by rw[<-eA,Aa,Aa];exact H3 W');have a4:hpA m4=some (.mo (AZ qb_ vW W') false):=(by rw[<-eA,Aa,Aa,Ap]);have at_:hpA (nxi+1+2)=some (.bx [.v (.string m.typ),.v (.string m.rel)]):=(by rw[<-eA,Ap]);have aa:∀k,k≠nxi+1+2->hpA k=upd m4 (some (.mo (AZ qb_ vW W') false)) hp k:=fun k h1=>(by rw[<-eA,Ai _ _ h1,Ai _ _ h1]);refine ZT 1 ?_;have hput:Ec (true,[.string,.string]) (.agg #[.string m.typ,.string m.rel]) (.d (.sl (ws.map AF)) false) (AZ qb_ vW W')=some (AZ qb_ vW (mset m ws W')):=Yx (ev:=vW) Mc m ws W';refine Z1 (Y3 at_ a4 hput) ?_;refine Y0 (b:=true) [q,m1,m2,m3] (fun hp1 h1=>PW.cons (Dq.d (Ck.one (JP ((h1 q (.head _)).trans aq) ((h1 m1 (.tail _ (.head _))).trans a1) ((h1 m2 (.tail _ (.tail _ (.head _)))).trans a2) ((h1 m3 (.tail _ (.tail _ (.tail _ (.head _))))).trans a3)) rfl)) (PW.cons (Dq.d (Ck.agP (PW.cons (Cy.one (b':=false) (is:=[]) rfl (fun _=>rfl)) (PW.cons (Cy.one (b':=false) (is:=[]) rfl (fun _=>rfl)) PW.nil)))) PW.nil)) (CO.of_pure (lE_ hws1)) ?_;refine Z1 (Y2 a4 hput) ?_;have v1:Ci m4 (nxi+1+2) q q m4=1:=(by simp[Ci]);have v2:Ci m4 (nxi+1+2) q q (nxi+1+2)=2:=(by unfold Ci;rw[ifn,if_pos rfl]);refine fL (Ci m4 (nxi+1+2) q q) _ rfl (by rfl) ?_;refine Z0 ?_;refine ZT 1 ?_;refine Z1 (Al (n:=i)) ?_;refine⟨⟨(i+1,mset m ws W',nxi+1+4+6+2),hlt,by dsimp only;omega,hw⟩,.weak ⟨DE rfl DS,fun k=> ?_,by dsimp only;omega⟩,by dsimp only;omega⟩;grind [Ap,Ai]
  have c1:(decide ((i:Int)<(ns.length:Int)))=false:=C6;obtain rfl:i=ns.length:=by omega
  rw[Bg] at hw;cases hw;refine Cw c1 ?_;refine Z0 ?_;exact⟨⟨_,by omega⟩,CT⟩
 rintro⟨nxk,hk⟩;obtain⟨L,eL⟩:∃L,L=ns.length:=⟨_,rfl⟩;have Rq:∀K:List (AA × Int),upd m3 (some (.mo (AZ qb_ vI K) false)) (upd m4 (some (.mo (AZ qb_ vW W) false)) hp) q=some (.bx [.mo m1,.mo m2,.mo m3]):=fun K=>by rw[Ai _ _ hd3,Aa];exact hq
 have R3:∀K:List (AA × Int),upd m3 (some (.mo (AZ qb_ vI K) false)) (upd m4 (some (.mo (AZ qb_ vW W) false)) hp) m3=some (.mo (AZ qb_ vI K) false):=fun K=>Ap _ _ _;have R4:∀K:List (AA × Int),upd m3 (some (.mo (AZ qb_ vI K) false)) (upd m4 (some (.mo (AZ qb_ vW W) false)) hp) m4=some (.mo (AZ qb_ vW W) false):=fun K=>by rw[Aa,Ap]
 have Ro:∀K:List (AA × Int),upd m3 (some (.mo (AZ qb_ vI K) false)) (upd m4 (some (.mo (AZ qb_ vW W) false)) hp) oid=some (.rw (ns.map Ag) 2 over false false):=fun K=>by rw[Ai _ _ hod.2.2.2,Aa];exact ho
 have Rf:∀(K:List (AA × Int)) (j:Nat),nx+2<=j->upd m3 (some (.mo (AZ qb_ vI K) false)) (upd m4 (some (.mo (AZ qb_ vW W) false)) hp) j=none:=fun K j hj=>by rw[Aa,Aa];exact hf j (by omega)
 have hK0:upd m4 (some (.mo (AZ qb_ vW W) false)) hp=upd m3 (some (.mo (AZ qb_ vI []) false)) (upd m4 (some (.mo (AZ qb_ vW W) false)) hp):=(Fv (by rw[Aa];exact hm3)).symm;rw[hK0];refine EZ ?_;refine CS ?_;refine DQ (α:={ t:Nat × List (AA × Int) × Bool × Nat // nx+2<=t.2.2.2/\(if t.2.2.1 then Mj W (ns.length:Int) ns t.1 t.2.1=some res else res=some t.2.1) })
  (fun t=>⟨upd 0 (.pt q 0) (upd 1 (.so oid over 0 ns.length) (upd 5 (.mo m4) (upd 8 (.v (.bool t.1.2.2.1)) AK))),upd m3 (some (.mo (AZ qb_ vI t.1.2.1) false)) (upd m4 (some (.mo (AZ qb_ vW W) false)) hp),t.1.2.2.2⟩) (fun t=>t.1.1)
  ⟨(c,[],true,nxk+1),by dsimp only;omega,by dsimp only;rw[if_pos rfl];exact h⟩ ?_ ?_
 ·exact CT
 rintro⟨⟨c,K,b,nxa⟩,hna,hr⟩;dsimp only at hna hr;refine AT (AT ?_);refine ZT 1 ?_;cases b with
 |false=>
  rw[if_neg (by decide)] at hr;subst hr;refine Fc ?_;refine Ay ?_;refine AP ?_;refine⟨_,upd m3 (some (.mo (AZ qb_ vI K) false)) hp,rfl,⟨fun k=> ?_⟩,rfl,⟨K,fun K' e=>(LM e).symm,rfl⟩,by dsimp only;omega⟩;grind [Ap,Ai]
 |true=>
  rw[if_pos rfl] at hr;cases c with
  |zero=>cases hr
  |succ c=>
  unfold Mj at hr;refine Fc ?_;refine CS ?_;refine EE ?_;refine CS ?_;refine DQ (α:={ t:Nat × List (AA × Int) × Bool × Nat // t.1<=ns.length/\nx+2<=t.2.2.2/\(match PX W (ns.length:Int) (ns.drop t.1) (t.2.1,t.2.2.1) with |none=>res=none |some s=>if s.2 then Mj W (ns.length:Int) ns c s.1=some res else res=some s.1) })
   (fun t=>⟨upd 0 (.pt q 0) (upd 1 (.so oid over 0 ns.length) (upd 5 (.mo m4) (upd 8 (.v (.bool t.1.2.2.1)) (upd 28 (.so oid over 0 ns.length) (upd 29 (.v (.int .i64 (ns.length:Int))) (upd 30 (.v (.int .i64 (t.1.1:Int))) AK)))))),upd m3 (some (.mo (AZ qb_ vI t.1.2.1) false)) (upd m4 (some (.mo (AZ qb_ vW W) false)) hp),t.1.2.2.2⟩) (fun t=>ns.length-t.1.1)
   ⟨(0,K,false,nxa+1+1+3),Lg _,by dsimp only;omega,?_⟩ ?_ ?_
  ·grind
  ·exact CT
  rintro⟨⟨i,K1,b,nxi⟩,hi,hni,hp1⟩;dsimp only at hi hni hp1;refine AT (ZT 1 ?_);by_cases hlt:i<ns.length;rotate_left
  ·have c1:(decide ((i:Int)<(ns.length:Int)))=false:=C6;obtain rfl:i=ns.length:=(by omega);rw[Bg] at hp1;refine Cw c1 ?_;refine Z0 ?_;exact⟨⟨(c,K1,b,nxi+1),by dsimp only;omega,hp1⟩,CT,Ls c⟩
  have c1:(decide ((i:Int)<(ns.length:Int)))=true:=Cp;have e1:ns[i]? =some ns[i]:=Le hlt;have ed:ns.drop i=ns[i]::ns.drop (i+1):=Lm hlt;obtain⟨ws,hg⟩:∃ws,mget ns[i] W=some ws:=NJ.1 (hWs _ (LZ hlt));rw[ed] at hp1;generalize ns[i]=m at e1 hp1 hg;have e2:(ns.map Ag)[i]? =some (Ag m):=Cr Ag e1;have hgD:qf_ m [] W=ws:=by unfold qf_;rw[hg];rfl
  have hwl:ws.length<1000000000:=hws _ (iC hg);unfold PX at hp1;rw[hgD] at hp1;have hlk:En (true,[.string,.string]) (.agg #[.string m.typ,.string m.rel]) (.v (.slice none 0 0)) false (AZ qb_ vW W)=some (.d (.sl (ws.map AF)) false,[]):=by
   refine(qz Mc m (.v (.slice none 0 0)) false W).trans ?_;rw[hg];rfl
  refine Cw c1 ?_;refine Z0 ?_;refine AT (CS ?_);refine AT (ZT 1 ?_);have w:=Y2 e2 (Y4 (A8 .i64 (show(0:Int)<=(i:Int) by omega)) (show((i:Int)).toNat=i from Lk _) (Ro K1) (show(i<ns.length)=True from eq_true hlt));refine Z1 w ?_;refine AT (AT ?_);refine ZT 1 ?_;obtain⟨tb,etb⟩:∃tb,tb=nxi+1+2:=⟨_,rfl⟩;rw[<-etb,Em];have ht3:tb≠m3:=by omega
  have ht4:tb≠m4:=by omega
  have htq:tb≠q:=by omega
  have Bt:∀K:List (AA × Int),upd tb (some (.bx [.v (.string m.typ),.v (.string m.rel)])) (upd m3 (some (.mo (AZ qb_ vI K) false)) (upd m4 (some (.mo (AZ qb_ vW W) false)) hp)) tb=some (.bx [.v (.string m.typ),.v (.string m.rel)]):=fun K=>Ap _ _ _
  have B4:∀K:List (AA × Int),upd tb (some (.bx [.v (.string m.typ),.v (.string m.rel)])) (upd m3 (some (.mo (AZ qb_ vI K) false)) (upd m4 (some (.mo (AZ qb_ vW W) false)) hp)) m4=some (.mo (AZ qb_ vW W) false):=fun K=>by rw[Ai _ _ ht4.symm];exact R4 K
  have B3:∀K:List (AA × Int),upd tb (some (.bx [.v (.string m.typ),.v (.string m.rel)])) (upd m3 (some (.mo (AZ qb_ vI K) false)) (upd m4 (some (.mo (AZ qb_ vW W) false)) hp)) m3=some (.mo (AZ qb_ vI K) false):=fun K=>by rw[Ai _ _ ht3.symm];exact R3 K
  have Bq:∀K:List (AA × Int),upd tb (some (.bx [.v (.string m.typ),.v (.string m.rel)])) (upd m3 (some (.mo (AZ qb_ vI K) false)) (upd m4 (some (.mo (AZ qb_ vW W) false)) hp)) q=some (.bx [.mo m1,.mo m2,.mo m3]):=fun K=>by rw[Ai _ _ htq.symm];exact Rq K
  have Bf:∀(K:List (AA × Int)) (j:Nat),tb<j->upd tb (some (.bx [.v (.string m.typ),.v (.string m.rel)])) (upd m3 (some (.mo (AZ qb_ vI K) false)) (upd m4 (some (.mo (AZ qb_ vW W) false)) hp)) j=none:=fun K j hj=>by rw[Aa];exact Rf K j (by omega)
  have hkm:∀K:List (AA × Int),En (true,[.string,.string]) (.agg #[.string m.typ,.string m.rel]) (.v (.int .i64 0)) false (AZ qb_ vI K)=some (.v (.int .i64 (qf_ m 0 K)),[]):=fun K=>UB (ev:=vI) Mc m 0 false K;obtain⟨s2,es2⟩:∃s2,s2=vx_ m ws (K1,b):=⟨_,rfl⟩;rw[<-es2] at hp1;refine Z1 (Y3 (Bt K1) (B4 K1) hlk) ?_;refine CS ?_;refine DQ (α:={ t:Nat × List (AA × Int) × Bool × Nat // t.1<=ws.length/\tb<t.2.2.2/\vx_ m (ws.drop t.1) (t.2.1,t.2.2.1)=s2 })
   (fun t=>⟨upd 0 (.pt q 0) (upd 1 (.so oid over 0 ns.length) (upd 5 (.mo m4) (upd 8 (.v (.bool t.1.2.2.1)) (upd 10 (.pt tb 0) (upd 28 (.so oid over 0 ns.length) (upd 29 (.v (.int .i64 (ns.length:Int))) (upd 30 (.v (.int .i64 (i:Int))) (upd 36 (.d (.sl (ws.map AF)) false) (upd 37 (.v (.int .i64 (ws.length:Int))) (upd 38 (.v (.int .i64 (t.1.1:Int))) AK)))))))))),upd tb (some (.bx [.v (.string m.typ),.v (.string m.rel)])) (upd m3 (some (.mo (AZ qb_ vI t.1.2.1) false)) (upd m4 (some (.mo (AZ qb_ vW W) false)) hp)),t.1.2.2.2⟩) (fun t=>ws.length-t.1.1)
   ⟨(0,K1,b,nxi+1+4+5),Lg _,by dsimp only;omega,es2.symm⟩ ?_ ?_
  ·exact CT
  rintro⟨⟨j,K2,b2,nxj⟩,hj,htj,hst⟩;dsimp only at hj htj hst;refine AT (ZT 1 ?_);by_cases hjl:j<ws.length;rotate_left
  ·have c2:(decide ((j:Int)<(ws.length:Int)))=false:=C6;obtain rfl:j=ws.length:=(by omega);rw[Bg] at hst;unfold vx_ at hst;subst hst;refine Cw c2 ?_;refine Dt ?_;cases hb:decide ((ns.length:Int)<qf_ m 0 K2) with
   |true=>
    rw[hb,if_pos rfl] at hp1;dsimp only at hp1;subst hp1;refine Z1 (Y5 (Bq K2) (B3 K2) (Bt K2) (hkm K2) hb) ?_;refine DF (by rfl) ?_;refine Z0 ?_;refine ET (c:=true) rfl rfl ?_;refine Ay ?_;refine AP ?_;refine⟨_,upd m3 (some (.mo (AZ qb_ vI K2) false)) hp,rfl,⟨fun k=> ?_⟩,rfl,⟨K2,fun K' e=>(by cases e),rfl⟩,by dsimp only;omega⟩;grind [Ap,Ai,Aa]
   |false=>
    rw[hb,if_neg (by decide)] at hp1;refine Z1 (Y5 (Bq K2) (B3 K2) (Bt K2) (hkm K2) hb) ?_;refine DF (by rfl) ?_;refine Z0 ?_;refine DN (c:=false) rfl rfl ?_;refine AP ?_;refine ZT 1 ?_;refine Z1 (Al (n:=i)) ?_;refine⟨⟨(i+1,K2,b2,nxj+1+9+2),hlt,by dsimp only;omega,hp1⟩,.weak ⟨DE rfl DS,fun k=> ?_,by dsimp only;omega⟩,by dsimp only;omega⟩;grind [Ai]
  have c2:(decide ((j:Int)<(ws.length:Int)))=true:=Cp;have e3:ws[j]? =some ws[j]:=Le hjl;have ed2:ws.drop j=ws[j]::ws.drop (j+1):=Lm hjl;rw[ed2] at hst;generalize ws[j]=y at e3 hst;have e4:(ws.map AF)[j]? =some (AF y):=Cr AF e3;unfold vx_ at hst;have hky:En (true,[.string,.string]) (.agg #[.string y.to.typ,.string y.to.rel]) (.v (.int .i64 0)) false (AZ qb_ vI K2)=some (.v (.int .i64 (qf_ y.to 0 K2)),[]):=UB (ev:=vI) Mc y.to 0 false K2;refine Cw c2 ?_;refine Z0 ?_;refine AT ?_;refine D3 (α:={ t:List (AA × Int) × Bool × Nat // tb<t.2.2/\vx_ m (ws.drop (j+1)) (t.1,t.2.1)=s2 })
   (fun t=>⟨upd 0 (.pt q 0) (upd 1 (.so oid over 0 ns.length) (upd 5 (.mo m4) (upd 8 (.v (.bool t.1.2.1)) (upd 10 (.pt tb 0) (upd 28 (.so oid over 0 ns.length) (upd 29 (.v (.int .i64 (ns.length:Int))) (upd 30 (.v (.int .i64 (i:Int))) (upd 36 (.d (.sl (ws.map AF)) false) (upd 37 (.v (.int .i64 (ws.length:Int))) (upd 38 (.v (.int .i64 (j:Int))) AK)))))))))),upd tb (some (.bx [.v (.string m.typ),.v (.string m.rel)])) (upd m3 (some (.mo (AZ qb_ vI t.1.1) false)) (upd m4 (some (.mo (AZ qb_ vW W) false)) hp)),t.1.2.2⟩) ?_ ?_
  ·refine CS ?_;refine AT (ZT 1 ?_);have w2:=Y2 e4 (Y2 (A8 .i64 (show(0:Int)<=(j:Int) by omega)) (show((j:Int)).toNat=j from Lk _));refine Z1 w2 ?_;generalize eD:(upd (nxj+1+2) (some _) _:Hp)=hpD;have dq:hpD q=some (.bx [.mo m1,.mo m2,.mo m3]):=(by rw[<-eD,Aa,Aa];exact Bq K2);have d3:hpD m3=some (.mo (AZ qb_ vI K2) false):=(by rw[<-eD,Aa,Aa];exact B3 K2);have dt:hpD tb=some (.bx [.v (.string m.typ),.v (.string m.rel)]):=(by rw[<-eD,Aa,Aa];exact Bt K2);have dw:hpD (nxj+1+2)=some (.bx [.v (.string y.to.typ),.v (.string y.to.rel),.v (.int .i64 y.taken)]):=(by rw[<-eD,Ap]);have da:∀k,k≠nxj+1+2->hpD k=upd tb (some (.bx [.v (.string m.typ),.v (.string m.rel)])) (upd m3 (some (.mo (AZ qb_ vI K2) false)) (upd m4 (some (.mo (AZ qb_ vW W) false)) hp)) k:=fun k h1=>(by rw[<-eD,Ai _ _ h1,Ai _ _ h1]);have df:∀k,nxj+1+3<=k->hpD k=none:=fun k hk=>(by grind);refine AT (ZT 1 ?_);refine Z1 (Y4 dq d3 dw hky) ?_;refine DF (by rfl) ?_;refine Z0 ?_;obtain⟨kw,ekw⟩:∃kw,kw=i64.wrap (qf_ y.to 0 K2+y.taken):=⟨_,rfl⟩;rw[<-ekw] at hst⊢;refine AT (ZT 1 ?_);cases hb:decide (qf_ m 0 K2<kw) with
   |false=>
    rw[hb,if_neg (by decide)] at hst;refine Z1 (Y5 dq d3 dt (hkm K2) hb) ?_;refine DF (by rfl) ?_;refine Z0 ?_;refine DN (c:=false) rfl rfl ?_;refine AP ?_;refine⟨⟨(K2,b2,nxj+1+4+11+8),by dsimp only;omega,hst⟩,.weak ⟨DE rfl DS,fun k=> ?_,by dsimp only;omega⟩⟩;grind
   |true=>
    rw[hb,if_pos rfl] at hst;refine Z1 (Y5 dq d3 dt (hkm K2) hb) ?_;refine DF (by rfl) ?_;refine Z0 ?_;refine ZT 1 ?_;obtain⟨o,q1,q2,q3⟩:=Pu (ev:=vI) Mc m K2;cases hm:mget m K2 with
    |none=>
     obtain⟨rfl,qs⟩:=q3 hm;have E1:HB (true,[.string,.string]) (Value.agg #[.string m.typ,.string m.rel]) (.v (.int .i64 0)) m3 (AZ qb_ vI K2)=some (.tu [.v (.int .i64 0),.v (.int .i64 ((AZ qb_ vI K2).length:Int))],[(m3,.mo (AZ qb_ vI K2++[(Value.agg #[.string m.typ,.string m.rel],.v (.int .i64 0))]) false)]):=M3 q1 _ _;have E2:EI (.v (.int .i64 ((AZ qb_ vI K2).length:Int)))=some (AZ qb_ vI K2).length:=(by rw[A8 .i64 (by omega)];simp);have E3:(AZ qb_ vI K2++[(Value.agg #[.string m.typ,.string m.rel],AV.v (.int .i64 0))])[(AZ qb_ vI K2).length]? =some (Value.agg #[.string m.typ,.string m.rel],.v (.int .i64 0)):=lN _;have E4:(AZ qb_ vI K2++[(Value.agg #[.string m.typ,.string m.rel],AV.v (.int .i64 0))]).set (AZ qb_ vI K2).length (Value.agg #[.string m.typ,.string m.rel],.v (.int .i64 kw))=AZ qb_ vI (mset m kw K2):=(by rw[lO,qs];simp[AZ,qb_]);refine Z1 (Y2 (Y6 dq d3 dt E1 E2 E3) E4) ?_;have v1:Ci q m3 tb (nxj+1+2) q=1:=(by simp[Ci]);have v2:Ci q m3 tb (nxj+1+2) m3=2:=(by unfold Ci;rw[if_neg hd3.symm,if_pos rfl]);have v3:Ci q m3 tb (nxj+1+2) tb=3:=(by unfold Ci;rw[if_neg htq,if_neg ht3,if_pos rfl]);refine KH (Ci q m3 tb (nxj+1+2)) _ rfl (by rfl) (by rfl) ?_;refine Z0 ?_;refine⟨⟨(mset m kw K2,true,nxj+1+4+11+8+10),by dsimp only;omega,hst⟩,.weak ⟨DE rfl DS,fun k=> ?_,by dsimp only;omega⟩⟩;dsimp only;by_cases h3:k=m3
     ·exact .inr (by rw[h3,Ap,Ai _ _ ht3.symm,Ap])
     by_cases hk:k=nxj+1+2
     ·exact .inl (Bf _ k (by omega))
     refine .inr ?_;rw[Ai _ _ h3];try rw[Ai _ _ h3]
     rw[da k hk];by_cases h1:k=tb
     ·rw[h1,Ap,Ap]
     ·rw[Ai _ _ h1,Ai _ _ h1,Ai _ _ h3,Ai _ _ h3]
    |some v0=>
     obtain⟨j0,rfl,qs⟩:=q2 v0 hm;obtain⟨k0,hk0⟩:=rA q1;have E1:HB (true,[.string,.string]) (Value.agg #[.string m.typ,.string m.rel]) (.v (.int .i64 0)) m3 (AZ qb_ vI K2)=some (.tu [.v (.int .i64 v0),.v (.int .i64 (j0:Int))],[(m3,.mo ((AZ qb_ vI K2).set j0 (Value.agg #[.string m.typ,.string m.rel],.v (.int .i64 v0))) false)]):=M4 q1 _ _;have E2:EI (.v (.int .i64 (j0:Int)))=some j0:=(by rw[A8 .i64 (by omega)];simp);have E3:((AZ qb_ vI K2).set j0 (Value.agg #[.string m.typ,.string m.rel],AV.v (.int .i64 v0)))[j0]? =some (Value.agg #[.string m.typ,.string m.rel],.v (.int .i64 v0)):=M2 hk0 _;have E4:((AZ qb_ vI K2).set j0 (Value.agg #[.string m.typ,.string m.rel],AV.v (.int .i64 v0))).set j0 (Value.agg #[.string m.typ,.string m.rel],.v (.int .i64 kw))=AZ qb_ vI (mset m kw K2):=(by rw[List.set_set];exact qs kw);refine Z1 (Y2 (Y6 dq d3 dt E1 E2 E3) E4) ?_;have v1:Ci q m3 tb (nxj+1+2) q=1:=(by simp[Ci]);have v2:Ci q m3 tb (nxj+1+2) m3=2:=(by unfold Ci;rw[if_neg hd3.symm,if_pos rfl]);have v3:Ci q m3 tb (nxj+1+2) tb=3:=(by unfold Ci;rw[if_neg htq,if_neg ht3,if_pos rfl]);refine KH (Ci q m3 tb (nxj+1+2)) _ rfl (by rfl) (by rfl) ?_;refine Z0 ?_;refine⟨⟨(mset m kw K2,true,nxj+1+4+11+8+10),by dsimp only;omega,hst⟩,.weak ⟨DE rfl DS,fun k=> ?_,by dsimp only;omega⟩⟩;dsimp only;by_cases h3:k=m3
     ·exact .inr (by rw[h3,Ap,Ai _ _ ht3.symm,Ap])
     by_cases hk:k=nxj+1+2
     ·exact .inl (Bf _ k (by omega))
     refine .inr ?_;rw[Ai _ _ h3];try rw[Ai _ _ h3]
     rw[da k hk];by_cases h1:k=tb
     ·rw[h1,Ap,Ap]
     rw[Ai _ _ h1,Ai _ _ h1,Ai _ _ h3,Ai _ _ h3]
  rintro⟨⟨K3,b3,nxk⟩,htk,hst3⟩;refine ZT 1 ?_;refine Z1 (Al (n:=j)) ?_;exact⟨⟨(j+1,K3,b3,nxk+2),hjl,LF htk (N6 _ _),hst3⟩,CT,by dsimp only;omega⟩
end
end Go.Proofs.YtnmkbmefohakmaaGreat.Ab
