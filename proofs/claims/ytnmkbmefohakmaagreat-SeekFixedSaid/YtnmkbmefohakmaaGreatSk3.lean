/-
 Whether the subject is in what a step names.
-/
import Derived.Test.YtnmkbmefohakmaaGreatA9a
import Derived.Test.YtnmkbmefohakmaaGreatA9b
import Derived.Test.YtnmkbmefohakmaaGreatA9c
import Derived.Test.YtnmkbmefohakmaaGreatA9d
set_option linter.all false
namespace Go.Proofs.YtnmkbmefohakmaaGreat.Ab
open Go.RowKit

theorem TC:AI Tryz.prog 14 [] (.v (.bool true)) true:=by
 refine VP (tab:=tab) Ep EN Tryz.func14 rfl (by kernel_rfl) (by kernel_rfl) (by simp[Tryz.f14]) ?_;simp -implicitDefEqProofs only[go_sem,Int.reduceToNat,Int.reduceLT,Int.reduceLE,NI,NO,GD,NB,Int.reduceBEq,Int.reduceBNe,beq_self_eq_true,bne_self_eq_false,decide_true,decide_false,Nat.reduceLT,Nat.reduceBEq,Int.reduceEq,Nat.reduceEqDiff,Nat.reduceAdd,Nat.reduceSub,Nat.reduceMul,Nat.reduceLeDiff,reduceCtorEq, ↓reduceIte];refine Mt (by simp -implicitDefEqProofs only[go_sem,Int.reduceToNat,Int.reduceLT,Int.reduceLE,NI,NO,GD,NB,Int.reduceBEq,Int.reduceBNe,beq_self_eq_true,bne_self_eq_false,decide_true,decide_false,Nat.reduceLT,Nat.reduceBEq,Int.reduceEq,Nat.reduceEqDiff,Nat.reduceAdd,Nat.reduceSub,Nat.reduceMul,Nat.reduceLeDiff,reduceCtorEq, ↓reduceIte]<;>rfl) Q4 (.inr rfl) ?_;simp -implicitDefEqProofs only[go_sem,Int.reduceToNat,Int.reduceLT,Int.reduceLE,NI,NO,GD,NB,Int.reduceBEq,Int.reduceBNe,beq_self_eq_true,bne_self_eq_false,decide_true,decide_false,Nat.reduceLT,Nat.reduceBEq,Int.reduceEq,Nat.reduceEqDiff,Nat.reduceAdd,Nat.reduceSub,Nat.reduceMul,Nat.reduceLeDiff,reduceCtorEq, ↓reduceIte];refine Mt (by simp -implicitDefEqProofs only[go_sem,Int.reduceToNat,Int.reduceLT,Int.reduceLE,NI,NO,GD,NB,Int.reduceBEq,Int.reduceBNe,beq_self_eq_true,bne_self_eq_false,decide_true,decide_false,Nat.reduceLT,Nat.reduceBEq,Int.reduceEq,Nat.reduceEqDiff,Nat.reduceAdd,Nat.reduceSub,Nat.reduceMul,Nat.reduceLeDiff,reduceCtorEq, ↓reduceIte]<;>rfl) U3 (.inr rfl) ?_;simp -implicitDefEqProofs only[go_sem,Int.reduceToNat,Int.reduceLT,Int.reduceLE,NI,NO,GD,NB,Int.reduceBEq,Int.reduceBNe,beq_self_eq_true,bne_self_eq_false,decide_true,decide_false,Nat.reduceLT,Nat.reduceBEq,Int.reduceEq,Nat.reduceEqDiff,Nat.reduceAdd,Nat.reduceSub,Nat.reduceMul,Nat.reduceLeDiff,reduceCtorEq, ↓reduceIte];refine Mt (by simp -implicitDefEqProofs only[go_sem,Int.reduceToNat,Int.reduceLT,Int.reduceLE,NI,NO,GD,NB,Int.reduceBEq,Int.reduceBNe,beq_self_eq_true,bne_self_eq_false,decide_true,decide_false,Nat.reduceLT,Nat.reduceBEq,Int.reduceEq,Nat.reduceEqDiff,Nat.reduceAdd,Nat.reduceSub,Nat.reduceMul,Nat.reduceLeDiff,reduceCtorEq, ↓reduceIte]<;>rfl) am (.inr rfl) ?_;simp -implicitDefEqProofs only[go_sem,Int.reduceToNat,Int.reduceLT,Int.reduceLE,NI,NO,GD,NB,Int.reduceBEq,Int.reduceBNe,beq_self_eq_true,bne_self_eq_false,decide_true,decide_false,Nat.reduceLT,Nat.reduceBEq,Int.reduceEq,Nat.reduceEqDiff,Nat.reduceAdd,Nat.reduceSub,Nat.reduceMul,Nat.reduceLeDiff,reduceCtorEq, ↓reduceIte];refine Mt (by simp -implicitDefEqProofs only[go_sem,Int.reduceToNat,Int.reduceLT,Int.reduceLE,NI,NO,GD,NB,Int.reduceBEq,Int.reduceBNe,beq_self_eq_true,bne_self_eq_false,decide_true,decide_false,Nat.reduceLT,Nat.reduceBEq,Int.reduceEq,Nat.reduceEqDiff,Nat.reduceAdd,Nat.reduceSub,Nat.reduceMul,Nat.reduceLeDiff,reduceCtorEq, ↓reduceIte]<;>rfl) au (.inr rfl) ?_;simp -implicitDefEqProofs only[go_sem,Int.reduceToNat,Int.reduceLT,Int.reduceLE,NI,NO,GD,NB,Int.reduceBEq,Int.reduceBNe,beq_self_eq_true,bne_self_eq_false,decide_true,decide_false,Nat.reduceLT,Nat.reduceBEq,Int.reduceEq,Nat.reduceEqDiff,Nat.reduceAdd,Nat.reduceSub,Nat.reduceMul,Nat.reduceLeDiff,reduceCtorEq, ↓reduceIte];refine Mt (by simp -implicitDefEqProofs only[go_sem,Int.reduceToNat,Int.reduceLT,Int.reduceLE,NI,NO,GD,NB,Int.reduceBEq,Int.reduceBNe,beq_self_eq_true,bne_self_eq_false,decide_true,decide_false,Nat.reduceLT,Nat.reduceBEq,Int.reduceEq,Nat.reduceEqDiff,Nat.reduceAdd,Nat.reduceSub,Nat.reduceMul,Nat.reduceLeDiff,reduceCtorEq, ↓reduceIte]<;>rfl) aw (.inr rfl) ?_;simp -implicitDefEqProofs only[go_sem,Int.reduceToNat,Int.reduceLT,Int.reduceLE,NI,NO,GD,NB,Int.reduceBEq,Int.reduceBNe,beq_self_eq_true,bne_self_eq_false,decide_true,decide_false,Nat.reduceLT,Nat.reduceBEq,Int.reduceEq,Nat.reduceEqDiff,Nat.reduceAdd,Nat.reduceSub,Nat.reduceMul,Nat.reduceLeDiff,reduceCtorEq, ↓reduceIte];refine Mt (by simp -implicitDefEqProofs only[go_sem,Int.reduceToNat,Int.reduceLT,Int.reduceLE,NI,NO,GD,NB,Int.reduceBEq,Int.reduceBNe,beq_self_eq_true,bne_self_eq_false,decide_true,decide_false,Nat.reduceLT,Nat.reduceBEq,Int.reduceEq,Nat.reduceEqDiff,Nat.reduceAdd,Nat.reduceSub,Nat.reduceMul,Nat.reduceLeDiff,reduceCtorEq, ↓reduceIte]<;>rfl) ax (.inr rfl) ?_;simp -implicitDefEqProofs only[go_sem,Int.reduceToNat,Int.reduceLT,Int.reduceLE,NI,NO,GD,NB,Int.reduceBEq,Int.reduceBNe,beq_self_eq_true,bne_self_eq_false,decide_true,decide_false,Nat.reduceLT,Nat.reduceBEq,Int.reduceEq,Nat.reduceEqDiff,Nat.reduceAdd,Nat.reduceSub,Nat.reduceMul,Nat.reduceLeDiff,reduceCtorEq, ↓reduceIte];exact IU (by simp -implicitDefEqProofs only[go_sem,Int.reduceToNat,Int.reduceLT,Int.reduceLE,NI,NO,GD,NB,Int.reduceBEq,Int.reduceBNe,beq_self_eq_true,bne_self_eq_false,decide_true,decide_false,Nat.reduceLT,Nat.reduceBEq,Int.reduceEq,Nat.reduceEqDiff,Nat.reduceAdd,Nat.reduceSub,Nat.reduceMul,Nat.reduceLeDiff,reduceCtorEq, ↓reduceIte,Tryz.f14]<;>rfl) rfl (by simp[ay]) (fun _=>rfl)
def dM (_:Nat):Option Bool:=some true
theorem lv {n:Nat}{r:Bool}(H:dM n=some r):AI Tryz.prog 14 [] (D.v (.bool r)) true:=by
 cases H;exact TC
structure AJ where
 to:AA
 taken:Int
 deriving DecidableEq,Inhabited
abbrev AF (x:AJ):List D:=[D.v (.string x.to.typ),D.v (.string x.to.rel),D.v (.int .i64 x.taken)]
def cn (T E I B F V:TypeId):Code:=
  (Go.Code.seq (Go.Code.region 0 #[{ dst:=(some 4),op:=(Go.Op.assign (Go.Operand.const (Go.Value.int Go.IntKind.i64 0))),type:=I,pos:= "slices.go:107",after:= #[],guard:=none }] false) (Go.Code.seq (Go.Code.seq (Go.Code.region 1 #[{ dst:=(some 6),op:=(Go.Op.move (Go.Operand.tmp 0)),type:=T,pos:= "slices.go:108",after:= #[],guard:=none },{ dst:=(some 7),op:=(Go.Op.call { callee:=(Go.Callee.builtin Go.Builtin.len),args:= #[(Go.Operand.tmp 6)],argTypes:= #[T] }),type:=I,pos:= "slices.go:108",after:= #[{ on:=0,ground:=Go.Ground.data }],guard:=none },{ dst:=(some 8),op:=(Go.Op.move (Go.Operand.const (Go.Value.int Go.IntKind.i64 0))),type:=I,pos:= "slices.go:108",after:= #[],guard:=none }] false) (Go.Code.block 0 (Go.Code.loop (Go.Code.seq (Go.Code.region 2 #[{ dst:=(some 9),op:=(Go.Op.binOp Go.BinOp.lss I (Go.Operand.tmp 8) (Go.Operand.tmp 7) I),type:=B,pos:= "slices.go:108",after:= #[],guard:=none }] false) (Go.Code.seq (Go.Code.cond (Go.Operand.tmp 9) Go.Code.skip (Go.Code.exit 0)) (Go.Code.seq (Go.Code.block 1 (Go.Code.seq (Go.Code.region 3 #[{ dst:=(some 10),op:=(Go.Op.move (Go.Operand.tmp 8)),type:=I,pos:= "slices.go:108",after:= #[],guard:=none },{ dst:=(some 5),op:=(Go.Op.assign (Go.Operand.tmp 10)),type:=I,pos:= "slices.go:108",after:= #[{ on:=0,ground:=Go.Ground.data },{ on:=0,ground:=Go.Ground.phase }],guard:=none }] false) (Go.Code.seq (Go.Code.region 4 #[{ dst:=(some 11),op:=(Go.Op.move (Go.Operand.tmp 1)),type:=F,pos:= "slices.go:109",after:= #[],guard:=none },{ dst:=(some 12),op:=(Go.Op.move (Go.Operand.tmp 0)),type:=T,pos:= "slices.go:109",after:= #[],guard:=none },{ dst:=(some 13),op:=(Go.Op.move (Go.Operand.tmp 5)),type:=I,pos:= "slices.go:109",after:= #[],guard:=none },{ dst:=(some 14),op:=(Go.Op.indexAddr T (Go.Operand.tmp 12) (Go.Operand.tmp 13)),type:=B,pos:= "slices.go:109",after:= #[{ on:=1,ground:=Go.Ground.data },{ on:=2,ground:=Go.Ground.data }],guard:=none },{ dst:=(some 15),op:=(Go.Op.load E (Go.Operand.tmp 14)),type:=E,pos:= "slices.go:109",after:= #[{ on:=3,ground:=Go.Ground.data }],guard:=none },{ dst:=(some 16),op:=(Go.Op.call { callee:=(Go.Callee.value (Go.Operand.tmp 11)),args:= #[(Go.Operand.tmp 15)],argTypes:= #[E] }),type:=V,pos:= "slices.go:109",after:= #[{ on:=0,ground:=Go.Ground.data },{ on:=4,ground:=Go.Ground.data }],guard:=none }] false) (Go.Code.cond (Go.Operand.tmp 16) (Go.Code.seq (Go.Code.region 5 #[{ dst:=(some 17),op:=(Go.Op.move (Go.Operand.tmp 5)),type:=I,pos:= "slices.go:110",after:= #[],guard:=none },{ dst:=(some 4),op:=(Go.Op.assign (Go.Operand.tmp 17)),type:=I,pos:= "slices.go:110",after:= #[{ on:=0,ground:=Go.Ground.data },{ on:=0,ground:=Go.Ground.phase }],guard:=none }] false) Go.Code.ret) Go.Code.skip)))) (Go.Code.region 6 #[{ dst:=(some 18),op:=(Go.Op.binOp Go.BinOp.add I (Go.Operand.tmp 8) (Go.Operand.const (Go.Value.int Go.IntKind.i64 1)) I),type:=I,pos:= "slices.go:108",after:= #[],guard:=none },{ dst:=(some 8),op:=(Go.Op.move (Go.Operand.tmp 18)),type:=I,pos:= "slices.go:108",after:= #[{ on:=0,ground:=Go.Ground.data }],guard:=none }] false))))))) (Go.Code.seq (Go.Code.region 7 #[{ dst:=(some 4),op:=(Go.Op.assign (Go.Operand.const (Go.Value.int Go.IntKind.i64 (-1)))),type:=I,pos:= "slices.go:113",after:= #[],guard:=none }] false) Go.Code.ret)))
def co (T _ I _ F V:TypeId)(g:FuncId):Code:=
  (Go.Code.seq (Go.Code.region 0 #[{ dst:=(some 4),op:=(Go.Op.assign (Go.Operand.const (Go.Value.bool false))),type:=V,pos:= "slices.go:124",after:= #[],guard:=none }] false) (Go.Code.seq (Go.Code.region 1 #[{ dst:=(some 5),op:=(Go.Op.move (Go.Operand.tmp 0)),type:=T,pos:= "slices.go:125",after:= #[],guard:=none },{ dst:=(some 6),op:=(Go.Op.move (Go.Operand.tmp 1)),type:=F,pos:= "slices.go:125",after:= #[],guard:=none },{ dst:=(some 7),op:=(Go.Op.call { callee:=(Go.Callee.value (Go.Operand.func g)),args:= #[(Go.Operand.tmp 5),(Go.Operand.tmp 6)],argTypes:= #[T,F] }),type:=I,pos:= "slices.go:125",after:= #[{ on:=0,ground:=Go.Ground.data },{ on:=1,ground:=Go.Ground.data }],guard:=none },{ dst:=(some 8),op:=(Go.Op.binOp Go.BinOp.geq I (Go.Operand.tmp 7) (Go.Operand.const (Go.Value.int Go.IntKind.i64 0)) I),type:=V,pos:= "slices.go:125",after:= #[{ on:=2,ground:=Go.Ground.data }],guard:=none },{ dst:=(some 4),op:=(Go.Op.assign (Go.Operand.tmp 8)),type:=V,pos:= "slices.go:125",after:= #[{ on:=3,ground:=Go.Ground.data },{ on:=2,ground:=Go.Ground.chain },{ on:=0,ground:=Go.Ground.phase },{ on:=1,ground:=Go.Ground.phase },{ on:=2,ground:=Go.Ground.phase },{ on:=3,ground:=Go.Ground.phase }],guard:=none }] false) Go.Code.ret))
structure V9 (tab:Nat->TI) (T E:Nat) (n:Nat):Prop where
 sl:(tab T).kind= .slice
 el:(tab T).elem=E
 ok:(tab E).ok=true
 size:(tab E).size=n
 agg:(tab E).agg=true\/((tab E).agg=false/\n=1)
def EK {α:Type}(P:Program)(f:FuncId)(caps:List AV)(c:α->AV)(S:α->Prop)(pr:α->Bool)(ids:List Nat)(hp0:Hp):Prop:=∀(x:α),S x->∀(a:Nat),∃b,a<=b/\∀hp:Hp,(∀i∈ids,hp i=hp0 i)->AU P f ([c x]++caps) hp a fun d e h=>d= .v (.bool (pr x))/\e=hp/\h=b
open Classical in
noncomputable def EK.nx {α:Type} {P:Program} {f:FuncId} {caps:List AV} {a:α->AV} {S:α->Prop} {pr:α->Bool} {ids:List Nat} {hp0:Hp} (h:EK P f caps a S pr ids hp0) (x:α) (n:Nat):Nat:=if b:S x then(h x b n).choose else n
variable {caps:List AV}{f:FuncId}{hp0:Hp}{ids:List Nat}{α:Type}
theorem EK.le {P:Program}{a:α->AV}{S:α->Prop}{pr:α->Bool}(h:EK P f caps a S pr ids hp0)(x:α)(n:Nat):n<=h.nx x n:=by
 unfold EK.nx;split
 ·rename_i b;exact(h x b n).choose_spec.1
 exact Lc _
theorem EK.inl {P:Program}{a:α->AV}{S:α->Prop}{pr:α->Bool}(h:EK P f caps a S pr ids hp0)(x:α)(b:S x)(n:Nat){hp:Hp}(c:∀i∈ids,hp i=hp0 i):AU P f ([a x]++caps) hp n fun d e j=>d= .v (.bool (pr x))/\e=hp/\j=h.nx x n:=by
 have:=(h x b n).choose_spec.2 hp c;unfold EK.nx;rw[dif_pos b];exact this
def Gn {α:Type}(pr:α->Bool):List α->Nat->Int
 |[],_=> -1
 |x::r,k=>if pr x then k else Gn pr r (k+1)
theorem lG {α:Type}(pr:α->Bool):∀(l:List α) (k:Nat),decide (Gn pr l k>=0)=l.any pr
 |[],_=>rfl
 |x::r,k=>by
  have a:=lG pr r (k+1);by_cases e:pr x=true
  ·simp[Gn,e]
  simpa [Gn,e] using a
noncomputable def Gp {α:Type} (pr:α->Bool) (a:α->Nat->Nat):List α->Nat->Nat
 |[],n=>n+2
 |x::r,n=>if pr x then a x (n+9)+2 else Gp pr a r (a x (n+9)+2)
section
variable {P:Program}{tab:Nat->TI}
theorem lH {α:Type}{pr:α->Bool}{a:α->Nat->Nat}(h:∀x n,n<=a x n):∀(l:List α) (n:Nat),n<=Gp pr a l n
 |[],n=>by simp[Gp]
 |x::r,n=>by
  unfold Gp;have b:=h x (n+9);split
  ·omega
  have:=lH (pr:=pr) h r (a x (n+9)+2);omega
theorem vU (z:Ad P tab)(A:P.follows .mixedOrders=true){fn:Func}{T E I B F V n:Nat}(C:P.funcs[f]? =some fn)(G:fn.body=some (cn T E I B F V))(H:(fn.name== "runtime.NumGoroutine")=false)(J:D2 fn.ntmps (cn T E I B F V)=true)(K:2<=fn.ntmps)(L:fn.results= #[.tmp 4])
  (e:V9 tab T E n) (M:(tab E).kind= .struct)  (enc:α->List D) (r:∀x,(enc x).length=n) (pr:α->Bool) {g:FuncId}    {b:Bool} (S:α->Prop) (a:EK P g caps (fun x=>.d (.ag (enc x)) b) S pr ids hp0) (xs:List α) (N:∀x∈xs,S x) (hx:xs.length<4611686018427387904) (nx:Nat):
  ∃s,nx<=s/\∀hp:Hp,(∀i∈ids,hp i=hp0 i)->AU P f [.d (.sl (xs.map enc)) b,.fn g caps] hp nx fun v t u=>v= .v (.int .i64 (Gn pr xs 0))/\t=hp/\u=s:=by
 refine⟨Gp pr a.nx xs (nx+4),Lv (by omega) (lH a.le xs (nx+4)),fun hp O=> ?_⟩;refine AU.up (Mu z A C G H J (by simpa using K) ?_);rw[L];unfold cn;have w:=e.sl;have Q:=e.el;have R:=e.ok;have U:=e.size;simp -implicitDefEqProofs only[go_sem,Nat.reduceAdd,reduceCtorEq, ↓reduceIte,w];refine uk (α:={ p:Nat × Nat // p.1<=xs.length/\Gn pr (xs.drop p.1) p.1=Gn pr xs 0/\Gp pr a.nx (xs.drop p.1) (nx+4+p.2)=Gp pr a.nx xs (nx+4) }) [(4,5),(8,18)] (fun p fr=>upd 8 (.v (.int .i64 (p.1.1:Int))) fr) (fun p=>p.1.2) (fun p=>xs.length-p.1.1) ⟨(0,0),by simp⟩ ⟨DE (by first |rfl |simp[IT,cY]) (uh _ _),kK _,by simp⟩ ?_;rintro⟨⟨k,m⟩,y⟩;simp only at y;have⟨X,c,d⟩:=y;by_cases j:k<xs.length
 ·have l:=Yp j;rw[Lm j] at c d;simp only[Gn,Gp] at c d;have tk:(enc xs[k]).take n=enc xs[k]:=ND (by rw[r];exact Lc _);simp -implicitDefEqProofs only[go_sem,Nat.reduceEqDiff,Nat.reduceAdd,Nat.reduceLeDiff,reduceCtorEq, ↓reduceIte,l,w,Q,R,U,M,Ra j,r,tk,Lc];refine CR ?_;refine(a.inl xs[k] (N _ (LZ _)) _ O).mono fun v2 t u hq=> ?_;obtain⟨rfl,rfl,rfl⟩:=hq;simp -implicitDefEqProofs only[go_sem, ↓reduceIte];refine YP (fun h=> ?_) (fun h=> ?_)
  ·rw[if_pos h] at c d;simp -implicitDefEqProofs only[go_sem,Nat.reduceEqDiff,Nat.reduceAdd, ↓reduceIte];exact KY (by simp -implicitDefEqProofs only[go_sem, ↓reduceIte]<;>rfl) ⟨_,by rw[<-d,show nx+1+3+m+1+2+6=nx+4+m+9 by omega];exact Lc _,by rw[c],rfl,rfl⟩
  rw[if_neg (by simp[h])] at c d;have Y:=a.le xs[k] (nx+4+m+9);have w1:IntKind.i64.wrap ((k:Int)+1)=((k+1:Nat):Int):=T3 (by omega);have e6:nx+1+3+m+1+2+6=nx+4+m+9:=by omega
  simp -implicitDefEqProofs only[go_sem,Nat.reduceEqDiff,Nat.reduceAdd, ↓reduceIte,h,w1,e6];exact⟨⟨(k+1,a.nx xs[k] (nx+4+m+9)+2-(nx+4)),⟨by omega,c,by simp only;rw[show nx+4+(a.nx xs[k] (nx+4+m+9)+2-(nx+4))=a.nx xs[k] (nx+4+m+9)+2 by omega];exact d⟩⟩,⟨DE (by first |rfl |simp[IT,cY]) ((by repeat first |exact ui _ _ |refine uj rfl ?_)),kK _,by simp only;omega⟩,by simp only;omega⟩
 have l:=cZ (OI j);rw[Nt (by omega)] at c d;simp only[Gn,Gp] at c d;simp -implicitDefEqProofs only[go_sem,Nat.reduceEqDiff,Nat.reduceLeDiff, ↓reduceIte,l];exact KY (by simp -implicitDefEqProofs only[go_sem, ↓reduceIte]<;>rfl) ⟨_,Nat.le_of_eq d,by rw[c],rfl,rfl⟩
theorem Rh (h:Ad P tab)(j:P.follows .mixedOrders=true){e:FuncId}{fn:Func}{T E I B F V:Nat}(k:P.funcs[f]? =some fn)(l:fn.body=some (co T E I B F V e))(p:(fn.name== "runtime.NumGoroutine")=false)(r:D2 fn.ntmps (co T E I B F V e)=true)(s:2<=fn.ntmps)(t:fn.results= #[.tmp 4])
  {L:List (List D)} {b:Bool} {g:FuncId}    {z:Int} (u:∀nx,∃a,nx<=a/\∀hp:Hp,(∀i∈ids,hp i=hp0 i)->AU P e [.d (.sl L) b,.fn g caps] hp nx fun v c d=>v= .v (.int .i64 z)/\c=hp/\d=a) (nx:Nat):
  ∃a,nx<=a/\∀hp:Hp,(∀i∈ids,hp i=hp0 i)->AU P f [.d (.sl L) b,.fn g caps] hp nx fun v c d=>v= .v (.bool (decide (z>=0)))/\c=hp/\d=a:=by
 have⟨w,C,x⟩:=u (nx+1+5);refine⟨w,by omega,fun hp y=>Mu h j k l p r (by simpa using s) ?_⟩;rw[t];unfold co;simp -implicitDefEqProofs only[go_sem,Nat.reduceEqDiff,Nat.reduceAdd,reduceCtorEq, ↓reduceIte];refine CR ?_;refine(x _ y).mono fun G c d A=> ?_;obtain⟨rfl,rfl,rfl⟩:=A;simp -implicitDefEqProofs only[go_sem,Nat.reduceAdd, ↓reduceIte]
 exact KY (by simp -implicitDefEqProofs only[go_sem, ↓reduceIte]<;>rfl) ⟨rfl,rfl,rfl⟩
end
end Go.Proofs.YtnmkbmefohakmaaGreat.Ab
namespace Go.Proofs.YtnmkbmefohakmaaGreat.Ab
open Go.RowKit IntKind
def H0 (f:Nat->Nat)(a:Cx):Cx:=⟨a.ids.map f,a.ks.map f,a.g⟩
variable {dl:Bool}{es:List (Value × AV)}{f:Nat->Nat}{g o s1 s2 s3:AV}{hp:Hp}{i m n q:Nat}{rel:ByteArray}
theorem aJ {xs a:List Nat}(h:De xs a=true):De (xs.map f) (a.map f)=true:=by
 unfold De at h⊢;simp only[Nh,LO,Bu] at h⊢;have⟨i,b,c⟩:=h;exact⟨_,⟨i,b,rfl⟩,⟨i,c,rfl⟩⟩
theorem y7 {a b:Cx}(c:a.g=false)(d:b.g=false)(h:F1 a b=true):F1 (H0 f a) (H0 f b)=true:=by
 simp only[F1,Jb,Ff,c,d,LR,LT,Nr,or_false] at h;apply RJ;simp only[Jb,LR];rcases h with h |h
 ·have:=aJ (f:=f) h;rw[Nc] at this;exact .inl (.inl this)
 exact .inl (.inr (aJ h))
theorem y8 {ops:Array Oper}{rs:List Cx}(d:rs.all (fun a=> !a.g)=true)(h:HT ops (rs.map (H0 f))=true):HT ops rs=true:=by
 have d:∀a∈rs,a.g=false:=by simpa using d
 simp only[HT,TN,Ln,LP] at h⊢;refine⟨h.1,fun j l i p=> ?_⟩;have c:=h.2 j l i p;rw[Lp,Lp] at c;cases e:rs[i]? with
 |none=>
  rw[e] at c;exact c
 |some a=>
  cases k:rs[j]? with
  |none=>
   rw[e,k] at c;exact c
  |some b=>
   rw[e,k] at c;simp only[LQ] at c⊢;cases r:F1 a b with
   |false=>
    rw[LR] at c⊢;rcases c with c |c
    ·exact .inl c
    ·refine .inr ?_;rw[Ln] at c⊢;exact⟨c.1,rfl⟩
   |true=>
    rw[y7 (d a (Lz e)) (d b (Lz k)) r] at c;simpa using c
def nw (nx i:Nat):Nat:=i+1-nx
theorem pJ {nx:Nat}(h:i<nx):nw nx i=0:=by
 unfold nw;omega
theorem pK {nx:Nat}:nw nx nx=1:=by
 unfold nw;omega
theorem KH {P:Program}{tab:Nat->TI}{ops:Array Oper}{c nx:Nat}{k:List It}{Q:Ex->St->Prop}{b:List Cx}{fr:Fr}(f:Nat->Nat)(rs:List Cx)(d:b.reverse.map (H0 f)=rs)(e:RN ops rs=true)(h:b.reverse.all (fun a=> !a.g)=true)(j:run P tab k Q ⟨fr,hp,nx⟩):Rd P tab ops c nx k Q i [] b fr hp:=
 ⟨y8 h (VK (d▸e)),j⟩
abbrev Du (es:List (Value × AV))(r:AB)(id:Nat):Prop:=En (true,[.string,.string,.string]) (.agg #[.string r.obj.type_,.string r.obj.id_,.string r.rel]) (.v (.pointer none)) false es=some (.pt id 0,[])
theorem Fp {nx:Nat}{o:AO}(a:∀j,nx<=j->hp j=none)(h:hp i=some o):(i=nx)=False:=eq_false fun e=>by
 have:=a i (by omega);rw[h] at this;cases this
theorem fh {nx:Nat}{x:Option AO}(a:∀j,nx<=j->hp j=none):Gi hp (upd nx x hp):=⟨fun i=>by
 by_cases h:i=nx
 ·subst h;exact .inl (a i (Lc _))
 exact .inr (by simp[upd,h])⟩
theorem fj {nx c id:Nat}{r:AB}{b:Bool}{rk k l:AV}{is:Bool}
  (d:hp c=some (.bx [.pt q 0])) (e:hp q=some (.bx [g,s1,s2,s3,.mo m,o])) (h:hp m=some (.mo es dl)) (p:Du es r id)
  (j:hp id=some (.bx [rk,k,l,.v (.bool is)])):
  AU Tryz.prog 149 [.d (.ag (AH r)) b,.pt c 0] hp nx fun v s t=>v= .v (.bool is)/\s=hp/\t=nx+12:=by
 refine AU.fresh (fun a=> ?_) ⟨Tryz.f149,Tryz.func149,by kernel_rfl,by kernel_rfl⟩;refine AU.up (Mu Ep EN Tryz.func149 (by rfl) (by kernel_rfl) (by kernel_rfl) (by exact NM rfl) ?_);have w:=Y2 (Fp a d) (Y2 (Y6 (Fp a e) (Fp a h) (Fp a j) d e h) (Y2 p j));refine Ds w ?_;exact⟨_,hp,rfl,fh a,nx+12,Lc _,rfl,rfl,rfl⟩
theorem y9 {c:Nat}{b:Bool}{is:AB->Bool}{ids:List Nat}
  (j:hp c=some (.bx [.pt q 0])) (k:hp q=some (.bx [g,s1,s2,s3,.mo m,o])) (l:hp m=some (.mo es dl)):
  EK Tryz.prog 149 [.pt c 0] (fun r:AB=>.d (.ag (AH r)) b) (fun r=>∃id d e h,Du es r id/\hp id=some (.bx [d,e,h,.v (.bool (is r))])/\id∈ids) is (c::q::m::ids) hp:=by
 rintro r ⟨id,d,e,h,p,s,t⟩ u;refine⟨u+12,by omega,fun v a=> ?_⟩;exact fj (by rw[a c (by simp)];exact j) (by rw[a q (by simp)];exact k) (by rw[a m (by simp)];exact l) p (by rw[a id (by simp[t])];exact s)
theorem Sl:V9 tab 81 120 3:=⟨by simp only[go_sem],by simp only[go_sem],by simp only[go_sem],by simp only[go_sem],.inl (by simp only[go_sem])⟩
theorem zA {S:AB->Prop}{pr:AB->Bool}{g:FuncId}{caps:List AV}{ids:List Nat}{hp0:Hp}(b:Bool)(c:EK Tryz.prog g caps (fun x=>.d (.ag (AH x)) b) S pr ids hp0)(xs:List AB)(d:∀x∈xs,S x)(e:xs.length<4611686018427387904)(nx:Nat):
  ∃a,nx<=a/\∀hp:Hp,(∀i∈ids,hp i=hp0 i)->AU Tryz.prog 148 [.d (.sl (xs.map AH)) b,.fn g caps] hp nx fun v h j=>v= .v (.bool (xs.any pr))/\h=hp/\j=a:=by
 rw[<-lG pr xs 0];exact Rh Ep EN (T:=81) (E:=120) (I:=3) (B:=0) (F:=150) (V:=4) Tryz.func148 rfl (by kernel_rfl) (by kernel_rfl) (by decide) rfl
  (fun nx=>vU Ep EN (T:=81) (E:=120) (I:=3) (B:=0) (F:=150) (V:=4) (n:=3) Tryz.func102 rfl (by kernel_rfl) (by kernel_rfl) (by decide) rfl Sl (by simp only[go_sem]) AH (fun _=>rfl) pr S c xs d e nx) nx
theorem Cd {nx:Nat}{o:AO}(b:∀j,nx<=j->hp j=none)(h:hp i=some o):i<nx:=by
 rcases LY i nx with a |a
 ·exact a
 have:=b i a;rw[h] at this;cases this
theorem pL {nx:Nat}{l:List AB}{b:Bool}{is:AB->Bool}(c:∀j,nx<=j->hp j=none)
  (w:hp q=some (.bx [g,s1,s2,s3,.mo m,o])) (y:hp m=some (.mo es dl)) (z:∀r∈l,∃id d e k,Du es r id/\hp id=some (.bx [d,e,k,.v (.bool (is r))])) (A:l.length<4611686018427387904):
  ∃a,nx<=a/\AU Tryz.prog 127 [.pt q 0,.d (.sl (l.map AH)) b] hp nx fun v s t=>v= .v (.bool (l.any is))/\s=hp/\t=a:=by
 have p:∀ {i:Nat} {o:AO} (x:Option AO),hp i=some o->upd nx x hp i=some o:=fun{i o} x h=>by
  rw[Ai _ _ (by have:=Cd c h;omega)];exact h
 have⟨a,F,B⟩:=zA b (y9 (hp:=upd nx (some (.bx [.pt q 0])) hp) (is:=is) (b:=b) (ids:=List.range nx) (Ap ..) (p _ w) (p _ y)) l (fun r C=>by
  have⟨id,d,e,k,E,u⟩:=z r C;exact⟨id,d,e,k,E,p _ u,N9.2 (Cd c u)⟩) A (nx+2+4)
 refine⟨a,by omega,?_⟩;refine zr Tryz.func127 ?_;refine Z0 ?_;refine CR (AU.mono (B _ fun _ _=>rfl) fun v s t h=> ?_);obtain⟨rfl,rfl,rfl⟩:=h;refine Z0 ?_;exact⟨_,hp,rfl,fh c,rfl,rfl,rfl⟩
def HK (_:Nat)(s:AC)(a:ByteArray)(rel:ByteArray):Option (AW × Bool):=some ((⟨(qf_ (⟨a,rel⟩:AA) (⟨ByteArray.empty,[],[]⟩:AW) s.rels).name,(qf_ (⟨a,rel⟩:AA) (⟨ByteArray.empty,[],[]⟩:AW) s.rels).subs,(qf_ (⟨a,rel⟩:AA) (⟨ByteArray.empty,[],[]⟩:AW) s.rels).expr⟩:AW),(Av (⟨a,rel⟩:AA) s.rels))
theorem Ma {s:AC}{a:ByteArray}{r:AW × Bool}(H:HK n s a rel=some r):AI Tryz.prog 65 [D.pt (Az s) 0,D.v (.string a),D.v (.string rel)] (D.tu [D.ag (Ah r.1),D.v (.bool r.2)]) false:=by
 unfold HK at H;refine zP #[.cell 6 52,.tmp 7] Tryz.func65 ?_;refine ZT 1 ?_;have c:En (true,[.string,.string]) (.agg #[.string a,.string rel]) (.d (.ag [.v (.string ByteArray.empty),.sl [],.sl []]) true) true (Fe true (Cb qb_ true Ah s.rels))=some (.tu [.d (.ag [.v (.string (qf_ (⟨a,rel⟩:AA) (⟨ByteArray.empty,[],[]⟩:AW) s.rels).name),.sl (List.map AR (qf_ (⟨a,rel⟩:AA) (⟨ByteArray.empty,[],[]⟩:AW) s.rels).subs),.sl (List.map AX (qf_ (⟨a,rel⟩:AA) (⟨ByteArray.empty,[],[]⟩:AW) s.rels).expr)]) true,.v (.bool (Av (⟨a,rel⟩:AA) s.rels))],[]):=IW (b:=true) (ag:=true) (enc:=Ah) Mc (⟨a,rel⟩:AA) ((⟨ByteArray.empty,[],[]⟩:AW):AW) true s.rels;refine Z1 c ?_;cases H;exact Ax
theorem yp (xs:List AN)(h:decide (xs.length=0)=true):AI Tryz.prog 145 [.sl (List.map AR xs)] (.sl []) true:=by
 rw[LV (of_decide_eq_true h)];exact Tz Ep EN Tryz.func145 (T:=49) (B:=4) rfl (by kernel_rfl) (by kernel_rfl) (by decide) rfl (by simp only[go_sem]) (by simp only[go_sem]) (by simp only[go_sem];decide) (by simp only[go_sem];decide)
theorem yr (xs:List AN)(a:0<xs.length)(c:xs.length<=4294967296){b:Bool}{nx:Nat}:AU Tryz.prog 145 [.d (.sl (List.map AR xs)) b] hp nx fun v d j=>v= .so (nx+3) 1 0 xs.length/\d=upd (nx+3) (some (.rw (List.map AR xs) 3 1 false false)) hp/\j=nx+7:=by
 have h:=cr (e:=AR) (k:=3) (b:=b) (hp:=hp) (nx:=nx) Ep EN Tryz.func145 (T:=49) (B:=4) rfl (by kernel_rfl) (by kernel_rfl) (by decide) rfl (by simp only[go_sem]) (by simp only[go_sem]) (by simp only[go_sem]) (by decide) (by simp only[go_sem];decide) (fun _=>rfl) xs a c;rw[T9 (f:=AR) (fun _=>rfl),BI,NH] at h;exact h
theorem yt {nx:Nat}:AU Tryz.prog 145 [.v (.slice none 0 0)] hp nx fun v a b=>v= .v (.slice none 0 0)/\a=hp/\b=nx+4:=by
 refine zr Tryz.func145 ?_;refine Z0 ?_;exact KY (v:=.v (.slice none 0 0)) (by simp -implicitDefEqProofs only[go_sem, ↓reduceIte,Tryz.f145]<;>rfl) ⟨rfl,rfl,rfl⟩
def Qj (_:Nat)(x:Dh)(o:Ak)(rel:ByteArray):Option (List AN):=(if (Av (⟨o,rel⟩:AB) x.subs) then (if (decide ((qf_ (⟨o,rel⟩:AB) [] x.subs).length=0)) then some [] else DM (decide ((qf_ (⟨o,rel⟩:AB) [] x.subs).length<=4294967296))<| some (qf_ (⟨o,rel⟩:AB) [] x.subs)) else some [])
theorem fY {x:Dh}{o:Ak}{r:List AN}(H:Qj n x o rel=some r):AI Tryz.prog 123 [D.pt (EP x) 0,D.ag (C3 o),D.v (.string rel)] (D.sl (List.map AR r)) true:=by
 unfold Qj at H;refine zP #[.tmp 6] Tryz.func123 ?_;refine AP ?_;obtain⟨a,d⟩ |⟨a,d⟩:=As H
 ·have u:En (true,[.string,.string,.string]) (.agg #[.string o.type_,.string o.id_,.string rel]) (.v (.slice none 0 0)) false (Fe true (Cb GU false (eL AR) x.subs))=some (.d (.sl (List.map AR (qf_ (⟨o,rel⟩:AB) [] x.subs))) true,[]):=wM (b:=true) (ag:=false) (enc:=(eL AR)) Sj (⟨o,rel⟩:AB) ([]:List AN) x.subs _ a;have h:=Y2 a u;refine Z1 h ?_;obtain⟨c,j⟩ |⟨c,j⟩:=As d
  ·have k:=Y2 h c;refine Z1 k ?_;refine EB (yp (qf_ (⟨o,rel⟩:AB) [] x.subs) c) ?_;refine Ds k ?_;cases j;exact Ax
  have⟨w,y⟩:=FC j;have l:(qf_ (⟨o,rel⟩:AB) [] x.subs).length<=4294967296:=of_decide_eq_true w;have z:0<(qf_ (⟨o,rel⟩:AB) [] x.subs).length:=by have:=of_decide_eq_false c;omega
  have p:=Y2 h c;refine Z1 p ?_;refine RR (ids':=[]) (v:=.so 15 1 0 (qf_ (⟨o,rel⟩:AB) [] x.subs).length) (δ:=[(15,.rw (List.map AR (qf_ (⟨o,rel⟩:AB) [] x.subs)) 3 1 false false)]) (nx':=19) (fun A _=>AU.mono (yr (qf_ (⟨o,rel⟩:AB) [] x.subs) z l) fun B C E e=>e) ?_;have s:=Y2 p l;refine Ds s ?_;cases y;exact XW s
 have F:En (true,[.string,.string,.string]) (.agg #[.string o.type_,.string o.id_,.string rel]) (.v (.slice none 0 0)) false (Fe true (Cb GU false (eL AR) x.subs))=some (.v (.slice none 0 0),[]):=wN (b:=true) (ag:=false) (enc:=(eL AR)) Sj (⟨o,rel⟩:AB) x.subs _ a;have t:=Y2 a F;refine Z1 t ?_;refine RR (ids':=[]) (v:=.v (.slice none 0 0)) (δ:=[]) (nx':=16) (fun A _=>AU.mono yt fun B C E e=>e) ?_;refine Ds t ?_;cases d;exact Ax
def XT (n:Nat)(x:AS)(a:List AN):Nat->(List AB × Int)->Option (List AB)
 |0,_=>none
 |c+1,(d,b)=>(if decide (b<(a.length:Int)) then (CD a b).bind fun e=>(DG d [(⟨(⟨e.type_,e.id_⟩:Ak),x.b⟩:AB)]).bind fun l=>XT n x a c (l,(i64.wrap (b+1))) else some d)
def fZ (_:Nat)(x:AS)(_:List AN)(b:List AB)(a:AN)(k:List AB->Option (List AB)):Option (List AB):=
 match b with
 |out=>
  (DG out [(⟨(⟨a.type_,a.id_⟩:Ak),x.b⟩:AB)]).bind fun l=>
  k l
def fc (_:Nat)(_:AS)(_:List AN)(a:List AB):Option (List AB):=
 match a with
 |out=>some out
theorem yu (n:Nat)(x:AS)(a:List AN)(e:a.length<4611686018427387904)(c:Nat)(d:List AB)(b:Nat)(h:b<=a.length)(j:a.length-b<c):XT n x a c (match d,(b:Int) with |out,b=>(out,b))=Dl (fZ n x a) (fc n x a) (a.drop b) d:=
 Ka (fun c d b=>XT n x a c (match d,b with |out,b=>(out,b))) a (fZ n x a) (fc n x a) (fun _ _ _=>rfl) e c d b h j
def Uk (n:Nat)(g:AY)(o:Ak)(x:AS):Option (List AB):=(Qj n g.index.left o x.a).bind fun a=>(XT n x a n ([],0):Option (List AB)).bind fun b=>some b
theorem pD {g:AY}{o:Ak}{x:AS}{r:List AB}(H:Uk n g o x=some r):AI Tryz.prog 122 [D.pt (A7 g) 0,D.ag (C3 o),D.ag (AX x)] (D.sl (List.map AH r)) true:=by
 unfold Uk at H;refine zP #[.tmp 6] Tryz.func122 ?_;refine EE ?_;refine AT (AT ?_);refine ZT 1 ?_;obtain⟨G,v,w⟩:=AL H;refine Z0 ?_;refine Y0 (b:=true) [] (fun I J=>by exact(PW.cons (Dq.d (Ck.one (Cy.rbE 2 (Cy.one (b':=true) (is:=[]) rfl (fun _=>rfl)) (by rfl)) rfl)) (PW.cons (Dq.d (Ck.agP (PW.cons (Cy.one (b':=false) (is:=[]) rfl (fun _=>rfl)) (PW.cons (Cy.one (b':=false) (is:=[]) rfl (fun _=>rfl)) PW.nil)))) (PW.cons (Dq.d (Ck.one (Cy.one (b':=false) (is:=[]) rfl (fun _=>rfl)) rfl)) PW.nil)))) (CO.of_pure (fY v)) ?_;refine Qk ?_;refine F7 w (fun _ _ e h=>⟨upd 7 (Ac 0 h (List.map AH e)) AK,upd 0 (A6 3 h false (List.map AH e)) AM,1⟩) (fun K y p=> ?_) fun e h p=> ?_
 ·refine Ej y (fun f _ (a,s) d=>⟨kp [19,20] f (upd 5 (.pt 0 0) (upd 7 (Ac 1 d (List.map AH a)) (upd 21 (.v (.int .i64 s)) AK))),upd 0 (some (.bx [.v (.int .i64 x.kind),.v (.string x.a),.v (.string x.b)])) (upd 1 (A6 3 d false (List.map AH a)) AM),2⟩) 0 (ZR [(0,1)]) fun c ⟨a,s⟩ d z=> ?_
  refine AP ?_;obtain⟨j,H15⟩ |⟨j,H15⟩:=As z
  ·obtain⟨t,L,M,A,H17⟩:=zI AR H15;obtain⟨l,B,H23⟩:=AL H17;obtain⟨k,u⟩:=Ee B;have k:a.length+1<=4294967296:=k;have C:List.map AH a++[[.v (.string t.type_),.v (.string t.id_),.v (.string x.b)]]=List.map AH l:=ER AH u;have E:a.length+1=l.length:=ES u;have F:l.length<=4294967296:=(by omega);have N:0<l.length:=(by omega);refine Z1 (Y6 j A k C E F) ?_;rcases a with _ |⟨O,Q⟩
   ·try simp only[Lw,CW,CZ]
    exact⟨_,0,H23,ZR [(0,0),(1,17)]⟩
   try simp only[Li,CW,CZ]
   exact⟨_,(d+1),H23,ZR [(0,0),(1,1)]⟩
  refine Z1 j ?_;cases H15;exact⟨d,ZR [(0,1)]⟩
 refine AP ?_;cases p;exact Ax
def Mb (n:Nat)(a:AY)(b:AB)(d:AW × Bool):Nat->(List AB × Int)->Option (List AB)
 |0,_=>none
 |c+1,(h,e)=>(if decide (e<(d.1.expr.length:Int)) then (CD d.1.expr e).bind fun j=>(if (j.kind==1) then (DG h [(⟨b.obj,j.a⟩:AB)]).bind fun l=>Mb n a b d c (l,(i64.wrap (e+1))) else (if (j.kind==2) then (Uk n (⟨a.schema,a.index,a.rows_⟩:AY) b.obj j).bind fun k=>(if decide (h.length=0) then (DG [] k).bind fun _=>Mb n a b d c (k,(i64.wrap (e+1))) else (DG h k).bind fun p=>Mb n a b d c (p,(i64.wrap (e+1)))) else Mb n a b d c (h,(i64.wrap (e+1))))) else some h)
def Ul (n:Nat)(a:List AN):Nat->(List AB × Int)->Option (List AB)
 |0,_=>none
 |c+1,(e,b)=>(if decide (b<(a.length:Int)) then (CD a b).bind fun d=>(if (d.rel.toList==({ data:= #[] }:ByteArray).toList) then Ul n a c (e,(i64.wrap (b+1))) else (DG e [(⟨(⟨d.type_,d.id_⟩:Ak),d.rel⟩:AB)]).bind fun h=>Ul n a c (h,(i64.wrap (b+1)))) else some e)
def XU (_:Nat)(_:List AN)(b:List AB)(a:AN)(k:List AB->Option (List AB)):Option (List AB):=
 match b with
 |t74=>
  (if (a.rel.toList==({ data:= #[] }:ByteArray).toList) then
   k t74
  else
   (DG t74 [(⟨(⟨a.type_,a.id_⟩:Ak),a.rel⟩:AB)]).bind fun c=>
   k c)
def fd (_:Nat)(_:List AN)(a:List AB):Option (List AB):=
 match a with
 |t74=>some t74
theorem yv (n:Nat)(a:List AN)(e:a.length<4611686018427387904)(c:Nat)(d:List AB)(b:Nat)(h:b<=a.length)(j:a.length-b<c):Ul n a c (match d,(b:Int) with |t74,b=>(t74,b))=Dl (XU n a) (fd n a) (a.drop b) d:=
 Ka (fun c d b=>Ul n a c (match d,b with |t74,b=>(t74,b))) a (XU n a) (fd n a) (fun _ _ _=>rfl) e c d b h j
def Sh (n:Nat)(b:AY)(a:AB):Option (List AB):=(HK n b.schema a.obj.type_ a.rel).bind fun c=>(Mb n b a c n ([],0):Option (List AB)).bind fun d=>(if decide (0<(c.1.expr.length:Int)) then some d else (Qj n b.index.left a.obj a.rel).bind fun e=>(Ul n e n (d,0):Option (List AB)).bind fun h=>some h)
set_option maxHeartbeats 8000000 in
theorem yw {d:AY}{h:AB}{r:List AB}(H:Sh n d h=some r):AI Tryz.prog 96 [D.pt (A7 d) 0,D.ag (AH h)] (D.sl (List.map AH r)) true:=by
 unfold Sh at H;refine zP #[.tmp 4] Tryz.func96 ?_;refine Ay ?_;refine AT (ZT 1 ?_);obtain⟨l,b1,H2⟩:=AL H;refine Z0 ?_;refine EB (Ma b1) ?_;refine Qk ?_;refine KF ?_;refine F7 H2 (fun _ _ A u=>⟨upd 0 (.d (.pt [.pt [.mp (Cb Value.string false eI d.schema.types),.mp (Cb qb_ true Ah d.schema.rels),.mp (Cb qb_ false eI d.schema.ranks)] 0,.pt [.mp (Cb GU false (eL AR) d.index.left.subs),.mp (Cb Value.string false (eL eS) d.index.left.objs),.mp (Cb G8 false (eL AH) d.index.right.refs),.mp (Cb Value.string false (eL eS) d.index.right.users)] 0,.sl (List.map AE d.rows_)] 0) true) (upd 3 (.pt 0 0) (upd 5 (.pt 1 0) (upd 7 (Ac 2 u (List.map AH A)) AK))),upd 0 (some (.bx [.v (.string h.obj.type_),.v (.string h.obj.id_),.v (.string h.rel)])) (upd 1 (some (.bx [.v (.string l.1.name),.d (.sl (List.map AR l.1.subs)) true,.d (.sl (List.map AX l.1.expr)) true])) (upd 2 (A6 3 u false (List.map AH A)) AM)),3⟩) (fun e_ E3 U=> ?_) fun A u U=> ?_
 ·refine Ej E3 (fun f _ (e,V) g=>⟨kp [26,27] f (upd 0 (.d (.pt [.pt [.mp (Cb Value.string false eI d.schema.types),.mp (Cb qb_ true Ah d.schema.rels),.mp (Cb qb_ false eI d.schema.ranks)] 0,.pt [.mp (Cb GU false (eL AR) d.index.left.subs),.mp (Cb Value.string false (eL eS) d.index.left.objs),.mp (Cb G8 false (eL AH) d.index.right.refs),.mp (Cb Value.string false (eL eS) d.index.right.users)] 0,.sl (List.map AE d.rows_)] 0) true) (upd 3 (.pt 0 0) (upd 5 (.pt 1 0) (upd 7 (Ac 2 g (List.map AH e)) (upd 28 (.v (.int .i64 V)) AK))))),upd 0 (some (.bx [.v (.string h.obj.type_),.v (.string h.obj.id_),.v (.string h.rel)])) (upd 1 (some (.bx [.v (.string l.1.name),.d (.sl (List.map AR l.1.subs)) true,.d (.sl (List.map AX l.1.expr)) true])) (upd 2 (A6 3 g false (List.map AH e)) AM)),3⟩) 0 (ZR [(0,0),(1,15)]) fun c ⟨e,V⟩ g L5=> ?_
  refine AP ?_;obtain⟨B,H25⟩ |⟨B,H25⟩:=As L5;rotate_left
  ·refine Z1 B ?_;cases H25;exact⟨g,ZR [(0,0),(1,1),(2,2)]⟩
  obtain⟨x2,bb,bd,ad,H27⟩:=zI AX H25;have C:=Y2 B ad;refine Z1 C ?_;obtain⟨E,H33⟩ |⟨E,H33⟩:=As H27
  ·obtain⟨v,ag,H35⟩:=AL H33;obtain⟨F,X⟩:=Ee ag;have F:e.length+1<=4294967296:=F;have ak:List.map AH e++[[.v (.string h.obj.type_),.v (.string h.obj.id_),.v (.string x2.a)]]=List.map AH v:=ER AH X;have ao:e.length+1=v.length:=ES X;have ap:v.length<=4294967296:=(by omega);have be:0<v.length:=(by omega);refine Z1 (Y6 C E F ak ao ap) ?_;rcases e with _ |⟨q0,q1⟩
   ·try simp only[Lw,CW,CZ]
    exact⟨_,0,H35,ZR [(0,0),(1,1),(2,19)]⟩
   try simp only[Li,CW,CZ]
   exact⟨_,(g+1),H35,ZR [(0,0),(1,1),(2,2)]⟩
  have Y:=Y2 C E;refine Z1 Y ?_;obtain⟨w,H43⟩ |⟨w,H43⟩:=Cg Y H33
  ·obtain⟨p,aq,H45⟩:=AL H43;refine Z1 w ?_;refine Cn (pD aq) ?_;have G:=Y2 w (Hk (n:=3) (f:=AH) (fun _=>rfl) p);refine Z1 G ?_;obtain⟨x,H47⟩ |⟨x,H47⟩:=As H45
   ·have ar:e= []:=LV (of_decide_eq_true x);subst ar;simp only[Lw,Rb,T4];try simp only[FE,FD]
    obtain⟨l3,av,H50⟩:=AL H47;obtain⟨I,J⟩:=Ee av;have J:p=l3:=J;subst J;have I:p.length<=4294967296:=(by have:=I;simpa using this);refine Z1 (Y2 G I) ?_;exact⟨_,0,H50,ZR [(0,0),(1,1),(2,20)]⟩
   have j:0<e.length:=(by have:=of_decide_eq_false x;omega);have aE:∀i,FE i (List.map AH e)= [i]:=fun i=>(by cases K:e with |nil=>(rw[K] at j;simp at j) |cons a r=>rfl);have a0:∀b,FD b (List.map AH e)=b:=fun b=>(by cases K:e with |nil=>(rw[K] at j;simp at j) |cons a r=>rfl);obtain⟨y,a1,H57⟩:=AL H47;obtain⟨L,Z⟩:=Ee a1;have L:e.length+p.length<=4294967296:=L;have a2:List.map AH e++List.map AH p=List.map AH y:=ER AH Z;have a3:e.length+p.length=y.length:=ES Z;have a4:y.length<=4294967296:=(by omega);have bg:0<y.length:=(by omega);refine Z1 (Y2 (Y6 G x aE a0 j (YV (f:=AH) j)) (Y5 (YO (f:=AH) j) L a2 a3 a4)) ?_;exact⟨_,(g+1),H57,ZR [(0,0),(1,1),(2,2)]⟩
  refine Z1 w ?_;exact⟨_,g,H43,ZR [(0,0),(1,1),(2,2)]⟩
 refine Ay ?_;obtain⟨s,H65⟩ |⟨s,H65⟩:=As U
 ·refine Z1 s ?_;cases H65;exact XW s
 refine Z1 s ?_;refine AT (AT ?_);refine ZT 1 ?_;obtain⟨bl,a5,H67⟩:=AL H65;refine Z1 s ?_;refine Y0 (b:=true) [] (fun bo h1=>by exact(PW.cons (Dq.d (Ck.one (Cy.rbE 2 (Cy.one (b':=true) (is:=[]) rfl (fun _=>rfl)) (by rfl)) rfl)) (PW.cons (Dq.d (Ck.agP (PW.cons (Cy.one (b':=false) (is:=[]) rfl (fun _=>rfl)) (PW.cons (Cy.one (b':=false) (is:=[]) rfl (fun _=>rfl)) PW.nil)))) (PW.cons (Dq.d (Ck.one (Cy.one (b':=false) (is:=[]) rfl (fun _=>rfl)) rfl)) PW.nil)))) (CO.of_pure (fY a5)) ?_;refine Ds s ?_;refine F7 H67 (fun _ _ M N=>⟨upd 7 (Ac 0 N (List.map AH M)) AK,upd 0 (A6 3 N false (List.map AH M)) AM,1⟩) (fun br E68 H69=> ?_) fun M N H69=> ?_;rotate_left
 ·refine AP ?_;cases H69;exact Ax
 refine Ej E68 (fun f _ (k,aa) t=>⟨kp [69,70] f (upd 7 (Ac 0 t (List.map AH k)) (upd 71 (.v (.int .i64 aa)) AK)),upd 0 (A6 3 t false (List.map AH k)) AM,1⟩) u (ZR [(0,2)]) fun c ⟨k,aa⟩ t L70=> ?_
 refine AP ?_;obtain⟨O,H90⟩ |⟨O,H90⟩:=As L70
 ·obtain⟨Q,bs,bx,a6,H92⟩:=zI AR H90;have R:=Y2 O a6;refine Z1 R ?_;obtain⟨S,H98⟩ |⟨S,H98⟩:=As H92
  ·refine Z1 (Y2 R S) ?_;exact⟨_,t,H98,ZR [(0,0)]⟩
  obtain⟨z,a7,H100⟩:=AL H98;obtain⟨T,ab⟩:=Ee a7;have T:k.length+1<=4294967296:=T;have a8:List.map AH k++[[.v (.string Q.type_),.v (.string Q.id_),.v (.string Q.rel)]]=List.map AH z:=ER AH ab;have a9:k.length+1=z.length:=ES ab;have ba:z.length<=4294967296:=by omega
  have b0:0<z.length:=by omega
  refine Z1 (Y6 R S T a8 a9 ba) ?_;rcases k with _ |⟨q0,q1⟩
  ·try simp only[Lw,CW,CZ]
   exact⟨_,0,H100,ZR [(0,19)]⟩
  try simp only[Li,CW,CZ]
  exact⟨_,(t+1),H100,ZR [(0,0)]⟩
 refine Z1 O ?_;cases H90;exact⟨t,ZR [(0,0)]⟩
def fe (_:Nat)(s:AC)(a:ByteArray)(rel:ByteArray):Option Int:=some (qf_ (⟨a,rel⟩:AA) 0 s.ranks)
theorem yx {s:AC}{a:ByteArray}{r:Int}(H:fe n s a rel=some r):AI Tryz.prog 95 [D.pt (Az s) 0,D.v (.string a),D.v (.string rel)] (D.v (.int .i64 r)) true:=by
 unfold fe at H;refine zP #[.tmp 6] Tryz.func95 ?_;refine ZT 1 ?_;have c:En (true,[.string,.string]) (.agg #[.string a,.string rel]) (.v (.int .i64 0)) false (Fe true (Cb qb_ false eI s.ranks))=some (.v (.int .i64 (qf_ (⟨a,rel⟩:AA) 0 s.ranks)),[]):=IW (b:=true) (ag:=false) (enc:=eI) Mc (⟨a,rel⟩:AA) (0:Int) false s.ranks;refine Z1 c ?_;cases H;exact Ax
abbrev Fx (hp:Hp)(es:List (Value × AV))(is:AB->Bool)(l:List AB):Prop:=∀r∈l,∃id rk dp ab,Du es r id/\hp id=some (.bx [rk,dp,ab,.v (.bool (is r))])
def Sm (n:Nat)(G:AY)(ob:Ak)(x:AS):Option (List AB):=if x.kind==1 then some [⟨ob,x.a⟩] else Uk n G ob x
theorem Md {nx:Nat}{o:AO}(a:∀j,nx<=j->hp j=none)(h:hp i=some o):(i=nx+1)=False:=eq_false fun e=>by
 have:=Cd a h;omega
theorem fk {nx:Nat}{x y:Option AO}(a:∀j,nx<=j->hp j=none):Gi hp (upd (nx+1) x (upd nx y hp)):=⟨fun i=>by
 by_cases h:i<nx
 ·exact .inr (by simp[upd,show i≠nx by omega,show i≠nx+1 by omega])
 exact .inl (a i (by omega))⟩
theorem aK {nx:Nat}{H:Bool}{vo vx:AV}{G:AY}{ob:Ak}{x:AS}{l:List AB}{is:AB->Bool}(a:∀j,nx<=j->hp j=none)
  (c:hp q=some (.bx [.d (.pt (A7 G) 0) H,s1,s2,s3,.mo m,o])) (d:hp m=some (.mo es dl)) (k:Sm n G ob x=some l) (z:Fx hp es is l) (I:l.length<4611686018427387904) (A:Dv vo=some [.v (.string ob.type_),.v (.string ob.id_)]) (B:Dv vx=some [.v (.int .i64 x.kind),.v (.string x.a),.v (.string x.b)]):
  ∃p,nx<=p/\AU Tryz.prog 147 [.pt q 0,vo,vx] hp nx fun v J K=>v= .v (.bool (l.any is))/\J=hp/\K=p:=by
 unfold Sm at k;rcases s:(x.kind==1) with _ |_
 ·rw[s,if_neg (by simp)] at k;obtain⟨t,e⟩:∃t,t=upd (nx+1) (some (.bx [.v (.int .i64 x.kind),.v (.string x.a),.v (.string x.b)])) (upd nx (some (.bx [.v (.string ob.type_),.v (.string ob.id_)])) hp):=⟨_,rfl⟩;have u:∀ {i:Nat} {o:AO},hp i=some o->t i=some o:=fun{i o} h=>by
   have:=Cd a h;rw[e,Aa,Aa];exact h
  have⟨p,Q,L⟩:=pL (nx:=nx+3+3+10) (b:=false) (is:=is) (l:=l) (fun j R=>by rw[e,Aa,Aa];exact a j (by omega)) (u c) (u d) (fun r M=>by
   have⟨id,C,E,F,N,O⟩:=z r M;exact⟨id,C,E,F,N,u O⟩) I
  refine⟨p,by omega,Mu Ep EN Tryz.func147 (by rfl) (by kernel_rfl) (by kernel_rfl) (by exact NM rfl) ?_⟩;have w:=And.intro A <|And.intro B <|And.intro (show(nx=nx+1)=False from Ey)<|And.intro (Fp a c) (Y6 (Fp a d) (Md a c) (Md a d) c d s);refine Z1 w ?_;refine EB (pD k) ?_;refine Z1 w ?_;rw[<-e];refine Pv (δ:=[]) L ?_;refine Qk ?_;exact⟨_,hp,rfl,by rw[e];exact fk a,rfl,rfl,rfl⟩
 rw[s,if_pos rfl] at k;cases k;have⟨id,C,E,F,e,y⟩:=z _ (Lo ..);refine⟨nx+3+3+13,by omega,Mu Ep EN Tryz.func147 (by rfl) (by kernel_rfl) (by kernel_rfl) (by exact NM rfl) ?_⟩;have w:=And.intro A <|And.intro B <|And.intro (show(nx=nx+1)=False from Ey)<|And.intro (Fp a c) (Y2 (Y6 (Fp a d) (Fp a y) (Md a c) (Md a d) (Md a y) c) (Y4 d e y s));refine Ds w ?_;exact⟨_,hp,rfl,fk a,by simp[Ap],rfl,rfl⟩
end Go.Proofs.YtnmkbmefohakmaaGreat.Ab
