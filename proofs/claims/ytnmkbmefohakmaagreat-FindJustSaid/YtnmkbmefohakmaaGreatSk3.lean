/-
 Whether the subject is in what a step names.
-/
import Derived.Test.YtnmkbmefohakmaaGreatOlo
set_option linter.all false
namespace Go.Proofs.YtnmkbmefohakmaaGreat.Ab
open Go.Shelf Go.RowKit Go.Sort
variable {hp:Hp}{n:Nat}{r:List ByteArray}{t:ByteArray}{x:A9}
theorem xF {P:Program}{f:FuncId}{x y:Value}(b:JK P f)(d:y.oneCell'=true)(h:∀w,Calls P f #[x] w fun e a=>e= .returned y/\a=w){nx:Nat}:AT P f [.v x] hp nx fun v k l=>v= .v y/\k=hp/\l=nx:=by
 refine⟨b,fun g c p s K z A B=> ?_⟩;have⟨u,C,E⟩:=B 0 _ rfl;cases(show RA g c (.v x) u from E);have F:p= #[x]:=by
  apply OJ
  ·simpa using A
  intro j G H;have I:j=0:=by simp at H;omega
  subst I;simpa [G] using C
 subst F;refine(h c.w).mono ?_;rintro e a ⟨rfl,rfl⟩;exact⟨y,.v y,c,nx,rfl,⟨rfl,s,rfl⟩,rfl,CR.refl c,z,RA.v y d,Lc _,fun i J=>.inl J⟩
theorem clone_nilv {nx:Nat}:AT Tryz.prog 47 [.v (.slice none 0 0)] hp nx fun v a b=>v= .v (.slice none 0 0)/\a=hp/\b=nx+4:=by
 refine zr Tryz.func47 ?_;refine Z0 ?_;exact GM (v:=.v (.slice none 0 0)) (by simp -implicitDefEqProofs only[go_sem, ↓reduceIte,Tryz.f47]<;>rfl) ⟨rfl,rfl,rfl⟩
theorem compact_nilv {nx:Nat}:AT Tryz.prog 109 [.v (.slice none 0 0)] hp nx fun v a b=>v= .v (.slice none 0 0)/\a=hp/\b=nx:=
 xF mZ rfl fun w=>Calls.mono (calls_of_every_depth fun D=>AnyS.slices_Compact_string_empty_in Tryz.laysCompact D none 0 w) fun _ _ h=>h
theorem once_nilv {nx:Nat}:AT Tryz.prog 79 [.v (.slice none 0 0)] hp nx fun v a b=>v= .v (.slice none 0 0)/\a=hp/\b=nx+13:=by
 refine zr Tryz.func79 ?_;refine Z0 ?_;refine CO (clone_nilv.mono ?_);rintro v a b ⟨rfl,rfl,rfl⟩;refine Z0 ?_;refine UP zz xC (.inr rfl) ?_;refine Z0 ?_;refine CO (compact_nilv.mono ?_);rintro v a b ⟨rfl,rfl,rfl⟩;refine Z0 ?_;exact GM (v:=.v (.slice none 0 0)) (by simp -implicitDefEqProofs only[go_sem, ↓reduceIte,Tryz.f79]<;>rfl) ⟨rfl,rfl,rfl⟩
def PT (n:Nat)(m:List (ByteArray × List ByteArray))(t:ByteArray):Option (List ByteArray):=if Ay t m then(if decide ((qf_ t [] m).length=0) then none else(Vr n (qf_ t [] m)).bind fun r=>if decide (r.length=0) then none else some r) else some []
theorem mb {m:List (ByteArray × List ByteArray)}(H:PT n m t=some r)(h:0<r.length):Ay t m=true/\0<(qf_ t [] m).length/\Vr n (qf_ t [] m)=some r:=by
 unfold PT at H;cases b:Ay t m with
 |false=>rw[b,if_neg NY] at H;cases H;simp at h
 |true=>
  rw[b,if_pos rfl] at H;rcases Ah H with⟨_,a⟩ |⟨c,H⟩
  ·cases a
  have⟨q,d,H⟩:=AP H;rcases Ah H with⟨_,a⟩ |⟨_,H⟩
  ·cases a
  cases H;exact⟨rfl,by have:=of_decide_eq_false c;omega,d⟩
theorem mc {m:List (ByteArray × List ByteArray)}(H:PT n m t=some r)(h:decide (r.length=0)=true):Ay t m=false:=by
 unfold PT at H;cases c:Ay t m with
 |false=>rfl
 |true=>
  rw[c,if_pos rfl] at H;rcases Ah H with⟨_,a⟩ |⟨_,H⟩
  ·cases a
  have⟨q,_,H⟩:=AP H;rcases Ah H with⟨_,a⟩ |⟨b,H⟩
  ·cases a
  cases H;rw[h] at b;cases b
def TN (n:Nat)(x:A9)(t:ByteArray):Option (List ByteArray):=PT n x.left.objs t
def TO (n:Nat)(x:A9)(t:ByteArray):Option (List ByteArray):=PT n x.right.users t
theorem xG (H:TN n x t=some r)(d:0<r.length){b:Bool}{nx:Nat}:
  AT Tryz.prog 45 [.d (D.pt (A8 x) 0) b,.v (.string t)] hp nx fun v a c=>v= .so (nx+16) 2 0 r.length/\a=upd (nx+16) (some (.rw (List.map eS r) 1 2 false false)) hp/\c=nx+25:=by
 have⟨e,h,j⟩:=mb H d;have k:EV (false,[.string]) (.string t) (.v (.slice none 0 0)) false (Eo b (A7 Value.string false (eL eS) x.left.objs))=some (.d (.sl (List.map eS (qf_ t [] x.left.objs))) b,[]):=bO (b:=b) (ag:=false) (enc:=(eL eS)) K6 t ([]:List ByteArray) x.left.objs _ e;refine zr Tryz.func45 ?_;simp -implicitDefEqProofs only[go_sem,Nat.reduceEqDiff,Nat.reduceAdd,reduceCtorEq, ↓reduceIte,A8,k];refine CO ((ma j h).mono ?_);rintro v a c ⟨rfl,rfl,rfl⟩;refine Z0 ?_;exact GM (v:=.so (nx+16) 2 0 r.length) (by simp -implicitDefEqProofs only[go_sem, ↓reduceIte,Tryz.f45]<;>rfl) ⟨rfl,rfl,rfl⟩
theorem xH (H:TN n x t=some r)(d:decide (r.length=0)=true){b:Bool}{nx:Nat}:
  AT Tryz.prog 45 [.d (D.pt (A8 x) 0) b,.v (.string t)] hp nx fun v a c=>v= .v (.slice none 0 0)/\a=hp/\c=nx+22:=by
 have e:=mc H d;have h:EV (false,[.string]) (.string t) (.v (.slice none 0 0)) false (Eo b (A7 Value.string false (eL eS) x.left.objs))=some (.v (.slice none 0 0),[]):=bP (b:=b) (ag:=false) (enc:=(eL eS)) K6 t x.left.objs _ e;refine zr Tryz.func45 ?_;simp -implicitDefEqProofs only[go_sem,Nat.reduceEqDiff,Nat.reduceAdd,reduceCtorEq, ↓reduceIte,A8,h];refine CO (once_nilv.mono ?_);rintro v a c ⟨rfl,rfl,rfl⟩;refine Z0 ?_;exact GM (v:=.v (.slice none 0 0)) (by simp -implicitDefEqProofs only[go_sem, ↓reduceIte,Tryz.f45]<;>rfl) ⟨rfl,rfl,rfl⟩
theorem xI (H:TO n x t=some r)(d:0<r.length){b:Bool}{nx:Nat}:
  AT Tryz.prog 48 [.d (D.pt (A8 x) 2) b,.v (.string t)] hp nx fun v a c=>v= .so (nx+16) 2 0 r.length/\a=upd (nx+16) (some (.rw (List.map eS r) 1 2 false false)) hp/\c=nx+25:=by
 have⟨e,h,j⟩:=mb H d;have k:EV (false,[.string]) (.string t) (.v (.slice none 0 0)) false (Eo b (A7 Value.string false (eL eS) x.right.users))=some (.d (.sl (List.map eS (qf_ t [] x.right.users))) b,[]):=bO (b:=b) (ag:=false) (enc:=(eL eS)) K6 t ([]:List ByteArray) x.right.users _ e;refine zr Tryz.func48 ?_;simp -implicitDefEqProofs only[go_sem,Nat.reduceEqDiff,Nat.reduceAdd,reduceCtorEq, ↓reduceIte,A8,k];refine CO ((ma j h).mono ?_);rintro v a c ⟨rfl,rfl,rfl⟩;refine Z0 ?_;exact GM (v:=.so (nx+16) 2 0 r.length) (by simp -implicitDefEqProofs only[go_sem, ↓reduceIte,Tryz.f48]<;>rfl) ⟨rfl,rfl,rfl⟩
theorem xJ (H:TO n x t=some r)(d:decide (r.length=0)=true){b:Bool}{nx:Nat}:
  AT Tryz.prog 48 [.d (D.pt (A8 x) 2) b,.v (.string t)] hp nx fun v a c=>v= .v (.slice none 0 0)/\a=hp/\c=nx+22:=by
 have e:=mc H d;have h:EV (false,[.string]) (.string t) (.v (.slice none 0 0)) false (Eo b (A7 Value.string false (eL eS) x.right.users))=some (.v (.slice none 0 0),[]):=bP (b:=b) (ag:=false) (enc:=(eL eS)) K6 t x.right.users _ e;refine zr Tryz.func48 ?_;simp -implicitDefEqProofs only[go_sem,Nat.reduceEqDiff,Nat.reduceAdd,reduceCtorEq, ↓reduceIte,A8,h];refine CO (once_nilv.mono ?_);rintro v a c ⟨rfl,rfl,rfl⟩;refine Z0 ?_;exact GM (v:=.v (.slice none 0 0)) (by simp -implicitDefEqProofs only[go_sem, ↓reduceIte,Tryz.f48]<;>rfl) ⟨rfl,rfl,rfl⟩
end Go.Proofs.YtnmkbmefohakmaaGreat.Ab
namespace Go.Proofs.YtnmkbmefohakmaaGreat.Ab
open Go.RowKit
def bI (T E I B F V:TypeId):Code:=
  (Go.Code.seq (Go.Code.region 0 #[{ dst:=(some 4),op:=(Go.Op.assign (Go.Operand.const (Go.Value.int Go.IntKind.i64 0))),type:=I,pos:= "slices.go:107",after:= #[],guard:=none }] false) (Go.Code.seq (Go.Code.seq (Go.Code.region 1 #[{ dst:=(some 6),op:=(Go.Op.move (Go.Operand.tmp 0)),type:=T,pos:= "slices.go:108",after:= #[],guard:=none },{ dst:=(some 7),op:=(Go.Op.call { callee:=(Go.Callee.builtin Go.Builtin.len),args:= #[(Go.Operand.tmp 6)],argTypes:= #[T] }),type:=I,pos:= "slices.go:108",after:= #[{ on:=0,ground:=Go.Ground.data }],guard:=none },{ dst:=(some 8),op:=(Go.Op.move (Go.Operand.const (Go.Value.int Go.IntKind.i64 0))),type:=I,pos:= "slices.go:108",after:= #[],guard:=none }] false) (Go.Code.block 0 (Go.Code.loop (Go.Code.seq (Go.Code.region 2 #[{ dst:=(some 9),op:=(Go.Op.binOp Go.BinOp.lss I (Go.Operand.tmp 8) (Go.Operand.tmp 7) I),type:=B,pos:= "slices.go:108",after:= #[],guard:=none }] false) (Go.Code.seq (Go.Code.cond (Go.Operand.tmp 9) Go.Code.skip (Go.Code.exit 0)) (Go.Code.seq (Go.Code.block 1 (Go.Code.seq (Go.Code.region 3 #[{ dst:=(some 10),op:=(Go.Op.move (Go.Operand.tmp 8)),type:=I,pos:= "slices.go:108",after:= #[],guard:=none },{ dst:=(some 5),op:=(Go.Op.assign (Go.Operand.tmp 10)),type:=I,pos:= "slices.go:108",after:= #[{ on:=0,ground:=Go.Ground.data },{ on:=0,ground:=Go.Ground.phase }],guard:=none }] false) (Go.Code.seq (Go.Code.region 4 #[{ dst:=(some 11),op:=(Go.Op.move (Go.Operand.tmp 1)),type:=F,pos:= "slices.go:109",after:= #[],guard:=none },{ dst:=(some 12),op:=(Go.Op.move (Go.Operand.tmp 0)),type:=T,pos:= "slices.go:109",after:= #[],guard:=none },{ dst:=(some 13),op:=(Go.Op.move (Go.Operand.tmp 5)),type:=I,pos:= "slices.go:109",after:= #[],guard:=none },{ dst:=(some 14),op:=(Go.Op.indexAddr T (Go.Operand.tmp 12) (Go.Operand.tmp 13)),type:=B,pos:= "slices.go:109",after:= #[{ on:=1,ground:=Go.Ground.data },{ on:=2,ground:=Go.Ground.data }],guard:=none },{ dst:=(some 15),op:=(Go.Op.load E (Go.Operand.tmp 14)),type:=E,pos:= "slices.go:109",after:= #[{ on:=3,ground:=Go.Ground.data }],guard:=none },{ dst:=(some 16),op:=(Go.Op.call { callee:=(Go.Callee.value (Go.Operand.tmp 11)),args:= #[(Go.Operand.tmp 15)],argTypes:= #[E] }),type:=V,pos:= "slices.go:109",after:= #[{ on:=0,ground:=Go.Ground.data },{ on:=4,ground:=Go.Ground.data }],guard:=none }] false) (Go.Code.cond (Go.Operand.tmp 16) (Go.Code.seq (Go.Code.region 5 #[{ dst:=(some 17),op:=(Go.Op.move (Go.Operand.tmp 5)),type:=I,pos:= "slices.go:110",after:= #[],guard:=none },{ dst:=(some 4),op:=(Go.Op.assign (Go.Operand.tmp 17)),type:=I,pos:= "slices.go:110",after:= #[{ on:=0,ground:=Go.Ground.data },{ on:=0,ground:=Go.Ground.phase }],guard:=none }] false) Go.Code.ret) Go.Code.skip)))) (Go.Code.region 6 #[{ dst:=(some 18),op:=(Go.Op.binOp Go.BinOp.add I (Go.Operand.tmp 8) (Go.Operand.const (Go.Value.int Go.IntKind.i64 1)) I),type:=I,pos:= "slices.go:108",after:= #[],guard:=none },{ dst:=(some 8),op:=(Go.Op.move (Go.Operand.tmp 18)),type:=I,pos:= "slices.go:108",after:= #[{ on:=0,ground:=Go.Ground.data }],guard:=none }] false))))))) (Go.Code.seq (Go.Code.region 7 #[{ dst:=(some 4),op:=(Go.Op.assign (Go.Operand.const (Go.Value.int Go.IntKind.i64 (-1)))),type:=I,pos:= "slices.go:113",after:= #[],guard:=none }] false) Go.Code.ret)))
def bJ (T _ I _ F V:TypeId)(g:FuncId):Code:=
  (Go.Code.seq (Go.Code.region 0 #[{ dst:=(some 4),op:=(Go.Op.assign (Go.Operand.const (Go.Value.bool false))),type:=V,pos:= "slices.go:124",after:= #[],guard:=none }] false) (Go.Code.seq (Go.Code.region 1 #[{ dst:=(some 5),op:=(Go.Op.move (Go.Operand.tmp 0)),type:=T,pos:= "slices.go:125",after:= #[],guard:=none },{ dst:=(some 6),op:=(Go.Op.move (Go.Operand.tmp 1)),type:=F,pos:= "slices.go:125",after:= #[],guard:=none },{ dst:=(some 7),op:=(Go.Op.call { callee:=(Go.Callee.value (Go.Operand.func g)),args:= #[(Go.Operand.tmp 5),(Go.Operand.tmp 6)],argTypes:= #[T,F] }),type:=I,pos:= "slices.go:125",after:= #[{ on:=0,ground:=Go.Ground.data },{ on:=1,ground:=Go.Ground.data }],guard:=none },{ dst:=(some 8),op:=(Go.Op.binOp Go.BinOp.geq I (Go.Operand.tmp 7) (Go.Operand.const (Go.Value.int Go.IntKind.i64 0)) I),type:=V,pos:= "slices.go:125",after:= #[{ on:=2,ground:=Go.Ground.data }],guard:=none },{ dst:=(some 4),op:=(Go.Op.assign (Go.Operand.tmp 8)),type:=V,pos:= "slices.go:125",after:= #[{ on:=3,ground:=Go.Ground.data },{ on:=2,ground:=Go.Ground.chain },{ on:=0,ground:=Go.Ground.phase },{ on:=1,ground:=Go.Ground.phase },{ on:=2,ground:=Go.Ground.phase },{ on:=3,ground:=Go.Ground.phase }],guard:=none }] false) Go.Code.ret))
structure VB (tab:Nat->TI) (T E:Nat) (n:Nat):Prop where
 sl:(tab T).kind= .slice
 el:(tab T).elem=E
 ok:(tab E).ok=true
 size:(tab E).size=n
 agg:(tab E).agg=true\/((tab E).agg=false/\n=1)
def EQ {α:Type}(P:Program)(f:FuncId)(caps:List AV)(c:α->AV)(S:α->Prop)(pr:α->Bool)(ids:List Nat)(hp0:Hp):Prop:=∀(x:α),S x->∀(a:Nat),∃b,a<=b/\∀hp:Hp,(∀i∈ids,hp i=hp0 i)->AT P f ([c x]++caps) hp a fun d e h=>d= .v (.bool (pr x))/\e=hp/\h=b
open Classical in
noncomputable def EQ.nx {α:Type} {P:Program} {f:FuncId} {caps:List AV} {a:α->AV} {S:α->Prop} {pr:α->Bool} {ids:List Nat} {hp0:Hp} (h:EQ P f caps a S pr ids hp0) (x:α) (n:Nat):Nat:=if b:S x then(h x b n).choose else n
variable {caps:List AV}{f:FuncId}{hp0:Hp}{ids:List Nat}{α:Type}
theorem EQ.le {P:Program}{a:α->AV}{S:α->Prop}{pr:α->Bool}(h:EQ P f caps a S pr ids hp0)(x:α)(n:Nat):n<=h.nx x n:=by
 unfold EQ.nx;split
 ·rename_i b;exact(h x b n).choose_spec.1
 exact Lc _
theorem EQ.inl {P:Program}{a:α->AV}{S:α->Prop}{pr:α->Bool}(h:EQ P f caps a S pr ids hp0)(x:α)(b:S x)(n:Nat){hp:Hp}(c:∀i∈ids,hp i=hp0 i):AT P f ([a x]++caps) hp n fun d e j=>d= .v (.bool (pr x))/\e=hp/\j=h.nx x n:=by
 have:=(h x b n).choose_spec.2 hp c;unfold EQ.nx;rw[dif_pos b];exact this
def GQ {α:Type}(pr:α->Bool):List α->Nat->Int
 |[],_=> -1
 |x::r,k=>if pr x then k else GQ pr r (k+1)
theorem jU {α:Type}(pr:α->Bool):∀(l:List α) (k:Nat),decide (GQ pr l k>=0)=l.any pr
 |[],_=>rfl
 |x::r,k=>by
  have a:=jU pr r (k+1);by_cases e:pr x=true
  ·simp[GQ,e]
  simpa [GQ,e] using a
noncomputable def GR {α:Type} (pr:α->Bool) (a:α->Nat->Nat):List α->Nat->Nat
 |[],n=>n+2
 |x::r,n=>if pr x then a x (n+9)+2 else GR pr a r (a x (n+9)+2)
section
variable {P:Program}{tab:Nat->TI}
theorem jV {α:Type}{pr:α->Bool}{a:α->Nat->Nat}(h:∀x n,n<=a x n):∀(l:List α) (n:Nat),n<=GR pr a l n
 |[],n=>by simp[GR]
 |x::r,n=>by
  unfold GR;have b:=h x (n+9);split
  ·omega
  have:=jV (pr:=pr) h r (a x (n+9)+2);omega
theorem uU (C:Ad P tab)(G:P.follows .mixedOrders=true){fn:Func}{T E I B F V n:Nat}(H:P.funcs[f]? =some fn)(J:fn.body=some (bI T E I B F V))(K:(fn.name== "runtime.NumGoroutine")=false)(L:Du fn.ntmps (bI T E I B F V)=true)(M:2<=fn.ntmps)(N:fn.results= #[.tmp 4])
  (e:VB tab T E n) (O:(tab E).kind= .struct)  (enc:α->List D) (s:∀x,(enc x).length=n) (pr:α->Bool) {g:FuncId}    {b:Bool} (S:α->Prop) (a:EQ P g caps (fun x=>.d (.ag (enc x)) b) S pr ids hp0) (xs:List α) (Q:∀x∈xs,S x) (hx:xs.length<4611686018427387904) (nx:Nat):
  ∃u,nx<=u/\∀hp:Hp,(∀i∈ids,hp i=hp0 i)->AT P f [.d (.sl (xs.map enc)) b,.fn g caps] hp nx fun v w y=>v= .v (.int .i64 (GQ pr xs 0))/\w=hp/\y=u:=by
 refine⟨GR pr a.nx xs (nx+4),Lq (by omega) (jV a.le xs (nx+4)),fun hp R=> ?_⟩;refine AT.up (KL C G H J K L (by simpa using M) ?_);rw[N];unfold bI;have z:=e.sl;have U:=e.el;have X:=e.ok;have e4:=e.size;simp -implicitDefEqProofs only[go_sem,Nat.reduceAdd,reduceCtorEq, ↓reduceIte,z];refine ta (α:={ p:Nat × Nat // p.1<=xs.length/\GQ pr (xs.drop p.1) p.1=GQ pr xs 0/\GR pr a.nx (xs.drop p.1) (nx+4+p.2)=GR pr a.nx xs (nx+4) }) [(4,5),(8,18)] (fun p fr=>upd 8 (.v (.int .i64 (p.1.1:Int))) fr) (fun p=>p.1.2) (fun p=>xs.length-p.1.1) ⟨(0,0),by simp⟩ ⟨DO (by first |rfl |simp[HW,ay]) (tX _ _),ip _,by simp⟩ ?_;rintro⟨⟨k,m⟩,A⟩;simp only at A;have⟨Y,c,d⟩:=A;by_cases j:k<xs.length
 ·have l:=Xn j;rw[Lj j] at c d;simp only[GQ,GR] at c d;have tk:(enc xs[k]).take n=enc xs[k]:=Nu (by rw[s];exact Lc _);simp -implicitDefEqProofs only[go_sem,Nat.reduceEqDiff,Nat.reduceAdd,Nat.reduceLeDiff,reduceCtorEq, ↓reduceIte,l,z,U,X,e4,O,QP j,s,tk,Lc];refine CO ?_;refine(a.inl xs[k] (Q _ (LN _)) _ R).mono fun v2 w y hq=> ?_;obtain⟨rfl,rfl,rfl⟩:=hq;simp -implicitDefEqProofs only[go_sem, ↓reduceIte];refine XM (fun h=> ?_) (fun h=> ?_)
  ·rw[if_pos h] at c d;simp -implicitDefEqProofs only[go_sem,Nat.reduceEqDiff,Nat.reduceAdd, ↓reduceIte];exact GM (by simp -implicitDefEqProofs only[go_sem, ↓reduceIte]<;>rfl) ⟨_,by rw[<-d,show nx+1+3+m+1+2+6=nx+4+m+9 by omega];exact Lc _,by rw[c],rfl,rfl⟩
  rw[if_neg (by simp[h])] at c d;have Z:=a.le xs[k] (nx+4+m+9);have w1:IntKind.i64.wrap ((k:Int)+1)=((k+1:Nat):Int):=Su (by omega);have e6:nx+1+3+m+1+2+6=nx+4+m+9:=by omega
  simp -implicitDefEqProofs only[go_sem,Nat.reduceEqDiff,Nat.reduceAdd, ↓reduceIte,h,w1,e6];exact⟨⟨(k+1,a.nx xs[k] (nx+4+m+9)+2-(nx+4)),⟨by omega,c,by simp only;rw[show nx+4+(a.nx xs[k] (nx+4+m+9)+2-(nx+4))=a.nx xs[k] (nx+4+m+9)+2 by omega];exact d⟩⟩,⟨DO (by first |rfl |simp[HW,ay]) ((by repeat first |exact tY _ _ |refine tZ rfl ?_)),ip _,by simp only;omega⟩,by simp only;omega⟩
 have l:=az (OE j);rw[Nf (by omega)] at c d;simp only[GQ,GR] at c d;simp -implicitDefEqProofs only[go_sem,Nat.reduceEqDiff,Nat.reduceLeDiff, ↓reduceIte,l];exact GM (by simp -implicitDefEqProofs only[go_sem, ↓reduceIte]<;>rfl) ⟨_,Nat.le_of_eq d,by rw[c],rfl,rfl⟩
theorem QU (h:Ad P tab)(j:P.follows .mixedOrders=true){e:FuncId}{fn:Func}{T E I B F V:Nat}(k:P.funcs[f]? =some fn)(l:fn.body=some (bJ T E I B F V e))(p:(fn.name== "runtime.NumGoroutine")=false)(s:Du fn.ntmps (bJ T E I B F V e)=true)(u:2<=fn.ntmps)(w:fn.results= #[.tmp 4])
  {L:List (List D)} {b:Bool} {g:FuncId}    {z:Int} (y:∀nx,∃a,nx<=a/\∀hp:Hp,(∀i∈ids,hp i=hp0 i)->AT P e [.d (.sl L) b,.fn g caps] hp nx fun v c d=>v= .v (.int .i64 z)/\c=hp/\d=a) (nx:Nat):
  ∃a,nx<=a/\∀hp:Hp,(∀i∈ids,hp i=hp0 i)->AT P f [.d (.sl L) b,.fn g caps] hp nx fun v c d=>v= .v (.bool (decide (z>=0)))/\c=hp/\d=a:=by
 have⟨A,J,C⟩:=y (nx+1+5);refine⟨A,by omega,fun hp G=>KL h j k l p s (by simpa using u) ?_⟩;rw[w];unfold bJ;simp -implicitDefEqProofs only[go_sem,Nat.reduceEqDiff,Nat.reduceAdd,reduceCtorEq, ↓reduceIte];refine CO ?_;refine(C _ G).mono fun K c d H=> ?_;obtain⟨rfl,rfl,rfl⟩:=H;simp -implicitDefEqProofs only[go_sem,Nat.reduceAdd, ↓reduceIte]
 exact GM (by simp -implicitDefEqProofs only[go_sem, ↓reduceIte]<;>rfl) ⟨rfl,rfl,rfl⟩
end
end Go.Proofs.YtnmkbmefohakmaaGreat.Ab
namespace Go.Proofs.YtnmkbmefohakmaaGreat.Ab
open Go.RowKit IntKind
def HL (f:Nat->Nat)(a:C7):C7:=⟨a.ids.map f,a.ks.map f,a.g⟩
variable {dl:Bool}{es:List (Value × AV)}{f:Nat->Nat}{g o s1 s2 s3:AV}{hp:Hp}{i m n q:Nat}{is:AB->Bool}{rel:ByteArray}
theorem ZE {xs a:List Nat}(h:De xs a=true):De (xs.map f) (a.map f)=true:=by
 unfold De at h⊢;simp only[Nq,LL,Bn] at h⊢;have⟨i,b,c⟩:=h;exact⟨_,⟨i,b,rfl⟩,⟨i,c,rfl⟩⟩
theorem yZ {a b:C7}(c:a.g=false)(d:b.g=false)(h:Fl a b=true):Fl (HL f a) (HL f b)=true:=by
 simp only[Fl,IN,FQ,c,d,LQ,Ng,Nb,or_false] at h;apply QD;simp only[IN,LQ];rcases h with h |h
 ·have:=ZE (f:=f) h;rw[LX] at this;exact .inl (.inl this)
 exact .inl (.inr (ZE h))
theorem ya {ops:Array Oper}{rs:List C7}(d:rs.all (fun a=> !a.g)=true)(h:Gz ops (rs.map (HL f))=true):Gz ops rs=true:=by
 have d:∀a∈rs,a.g=false:=by simpa using d
 simp only[Gz,SJ,Lm,LP] at h⊢;refine⟨h.1,fun j l i p=> ?_⟩;have c:=h.2 j l i p;rw[Ln,Ln] at c;cases e:rs[i]? with
 |none=>
  rw[e] at c;exact c
 |some a=>
  cases k:rs[j]? with
  |none=>
   rw[e,k] at c;exact c
  |some b=>
   rw[e,k] at c;simp only[LT] at c⊢;cases s:Fl a b with
   |false=>
    rw[LQ] at c⊢;rcases c with c |c
    ·exact .inl c
    ·refine .inr ?_;rw[Lm] at c⊢;exact⟨c.1,rfl⟩
   |true=>
    rw[yZ (d a (Ly e)) (d b (Ly k)) s] at c;simpa using c
def nw (nx i:Nat):Nat:=i+1-nx
theorem nz {nx:Nat}(h:i<nx):nw nx i=0:=by
 unfold nw;omega
theorem n7 {nx:Nat}:nw nx nx=1:=by
 unfold nw;omega
theorem JW {P:Program}{tab:Nat->TI}{ops:Array Oper}{d nx:Nat}{k:List It}{Q:Ex->St->Prop}{b:List C7}{c:Fr}(f:Nat->Nat)(rs:List C7)(e:b.reverse.map (HL f)=rs)(h:SO ops rs=true)(j:b.reverse.all (fun a=> !a.g)=true)(l:run P tab k Q ⟨c,hp,nx⟩):Rd P tab ops d nx k Q i [] b c hp:=
 ⟨ya j (XL (e▸h)),l⟩
abbrev Dt (es:List (Value × AV))(r:AB)(id:Nat):Prop:=EV (true,[.string,.string,.string]) (.agg #[.string r.obj.type_,.string r.obj.id_,.string r.rel]) (.v (.pointer none)) false es=some (.pt id 0,[])
theorem FX {nx:Nat}{o:AO}(a:∀j,nx<=j->hp j=none)(h:hp i=some o):(i=nx)=False:=eq_false fun e=>by
 have:=a i (by omega);rw[h] at this;cases this
theorem dR {nx:Nat}{x:Option AO}(a:∀j,nx<=j->hp j=none):GJ hp (upd nx x hp):=⟨fun i=>by
 by_cases h:i=nx
 ·subst h;exact .inl (a i (Lc _))
 exact .inr (by simp[upd,h])⟩
theorem dT {nx c id:Nat}{r:AB}{b:Bool}{rk k l:AV}{is:Bool}
  (d:hp c=some (.bx [.pt q 0])) (e:hp q=some (.bx [g,s1,s2,s3,.mo m,o])) (h:hp m=some (.mo es dl)) (p:Dt es r id)
  (j:hp id=some (.bx [rk,k,l,.v (.bool is)])):
  AT Tryz.prog 149 [.d (.ag (AF r)) b,.pt c 0] hp nx fun v s u=>v= .v (.bool is)/\s=hp/\u=nx+12:=by
 refine AT.fresh (fun a=> ?_) ⟨Tryz.f149,Tryz.func149,by kernel_rfl,by kernel_rfl⟩;refine AT.up (KL Ev FI Tryz.func149 (by rfl) (by kernel_rfl) (by kernel_rfl) (by exact NI rfl) ?_);have w:=Y2 (FX a d) (Y2 (Y6 (FX a e) (FX a h) (FX a j) d e h) (Y2 p j));refine Dj w ?_;exact⟨_,hp,rfl,dR a,nx+12,Lc _,rfl,rfl,rfl⟩
theorem yb {c:Nat}{b:Bool}{ids:List Nat}
  (j:hp c=some (.bx [.pt q 0])) (k:hp q=some (.bx [g,s1,s2,s3,.mo m,o])) (l:hp m=some (.mo es dl)):
  EQ Tryz.prog 149 [.pt c 0] (fun r:AB=>.d (.ag (AF r)) b) (fun r=>∃id d e h,Dt es r id/\hp id=some (.bx [d,e,h,.v (.bool (is r))])/\id∈ids) is (c::q::m::ids) hp:=by
 rintro r ⟨id,d,e,h,p,s,u⟩ v;refine⟨v+12,by omega,fun w a=> ?_⟩;exact dT (by rw[a c (by simp)];exact j) (by rw[a q (by simp)];exact k) (by rw[a m (by simp)];exact l) p (by rw[a id (by simp[u])];exact s)
theorem Rc:VB tab 81 120 3:=⟨by simp only[go_sem],by simp only[go_sem],by simp only[go_sem],by simp only[go_sem],.inl (by simp only[go_sem])⟩
theorem yc {S:AB->Prop}{pr:AB->Bool}{g:FuncId}{caps:List AV}{ids:List Nat}{hp0:Hp}(b:Bool)(c:EQ Tryz.prog g caps (fun x=>.d (.ag (AF x)) b) S pr ids hp0)(xs:List AB)(d:∀x∈xs,S x)(e:xs.length<4611686018427387904)(nx:Nat):
  ∃a,nx<=a/\∀hp:Hp,(∀i∈ids,hp i=hp0 i)->AT Tryz.prog 148 [.d (.sl (xs.map AF)) b,.fn g caps] hp nx fun v h j=>v= .v (.bool (xs.any pr))/\h=hp/\j=a:=by
 rw[<-jU pr xs 0];exact QU Ev FI (T:=81) (E:=120) (I:=3) (B:=0) (F:=150) (V:=4) Tryz.func148 rfl (by kernel_rfl) (by kernel_rfl) (by decide) rfl
  (fun nx=>uU Ev FI (T:=81) (E:=120) (I:=3) (B:=0) (F:=150) (V:=4) (n:=3) Tryz.func102 rfl (by kernel_rfl) (by kernel_rfl) (by decide) rfl Rc (by simp only[go_sem]) AF (fun _=>rfl) pr S c xs d e nx) nx
theorem Ch {nx:Nat}{o:AO}(b:∀j,nx<=j->hp j=none)(h:hp i=some o):i<nx:=by
 rcases Nt i nx with a |a
 ·exact a
 have:=b i a;rw[h] at this;cases this
theorem n8 {nx:Nat}{l:List AB}{b:Bool}(c:∀j,nx<=j->hp j=none)
  (y:hp q=some (.bx [g,s1,s2,s3,.mo m,o])) (z:hp m=some (.mo es dl)) (A:∀r∈l,∃id d e k,Dt es r id/\hp id=some (.bx [d,e,k,.v (.bool (is r))])) (B:l.length<4611686018427387904):
  ∃a,nx<=a/\AT Tryz.prog 127 [.pt q 0,.d (.sl (l.map AF)) b] hp nx fun v s u=>v= .v (.bool (l.any is))/\s=hp/\u=a:=by
 have p:∀ {i:Nat} {o:AO} (x:Option AO),hp i=some o->upd nx x hp i=some o:=fun{i o} x h=>by
  rw[Aj _ _ (by have:=Ch c h;omega)];exact h
 have⟨a,G,C⟩:=yc b (yb (hp:=upd nx (some (.bx [.pt q 0])) hp) (is:=is) (b:=b) (ids:=List.range nx) (At ..) (p _ y) (p _ z)) l (fun r E=>by
  have⟨id,d,e,k,F,w⟩:=A r E;exact⟨id,d,e,k,F,p _ w,N3.2 (Ch c w)⟩) B (nx+2+4)
 refine⟨a,by omega,?_⟩;refine zr Tryz.func127 ?_;refine Z0 ?_;refine CO (AT.mono (C _ fun _ _=>rfl) fun v s u h=> ?_);obtain⟨rfl,rfl,rfl⟩:=h;refine Z0 ?_;exact⟨_,hp,rfl,dR c,rfl,rfl,rfl⟩
def Gs (_:Nat)(s:AD)(typ:ByteArray)(rel:ByteArray):Option (AZ × Bool):=some ((⟨(qf_ (⟨typ,rel⟩:AA) (⟨ByteArray.empty,[],[]⟩:AZ) s.rels).name,(qf_ (⟨typ,rel⟩:AA) (⟨ByteArray.empty,[],[]⟩:AZ) s.rels).subs,(qf_ (⟨typ,rel⟩:AA) (⟨ByteArray.empty,[],[]⟩:AZ) s.rels).expr⟩:AZ),(Ay (⟨typ,rel⟩:AA) s.rels))
theorem Kf {s:AD}{typ:ByteArray}{r:AZ × Bool}(H:Gs n s typ rel=some r):AM Tryz.prog 65 [D.pt (Av s) 0,D.v (.string typ),D.v (.string rel)] (D.tu [D.ag (Al r.1),D.v (.bool r.2)]) false:=by
 unfold Gs at H;refine zP #[.cell 6 52,.tmp 7] Tryz.func65 ?_;refine ZT 1 ?_;have a:EV (true,[.string,.string]) (.agg #[.string typ,.string rel]) (.d (.ag [.v (.string ByteArray.empty),.sl [],.sl []]) true) true (Eo true (A7 qa_ true Al s.rels))=some (.tu [.d (.ag [.v (.string (qf_ (⟨typ,rel⟩:AA) (⟨ByteArray.empty,[],[]⟩:AZ) s.rels).name),.sl (List.map AR (qf_ (⟨typ,rel⟩:AA) (⟨ByteArray.empty,[],[]⟩:AZ) s.rels).subs),.sl (List.map AY (qf_ (⟨typ,rel⟩:AA) (⟨ByteArray.empty,[],[]⟩:AZ) s.rels).expr)]) true,.v (.bool (Ay (⟨typ,rel⟩:AA) s.rels))],[]):=HZ (b:=true) (ag:=true) (enc:=Al) Kh (⟨typ,rel⟩:AA) ((⟨ByteArray.empty,[],[]⟩:AZ):AZ) true s.rels;refine Z1 a ?_;cases H;exact As
theorem yN (xs:List AL)(h:decide (xs.length=0)=true):AM Tryz.prog 145 [.sl (List.map AR xs)] (.sl []) true:=by
 rw[LV (of_decide_eq_true h)];exact ax Ev FI Tryz.func145 (T:=49) (B:=4) rfl (by kernel_rfl) (by kernel_rfl) (by decide) rfl (by simp only[go_sem]) (by simp only[go_sem]) (by simp only[go_sem];decide) (by simp only[go_sem];decide)
theorem yO (xs:List AL)(a:0<xs.length)(c:xs.length<=4294967296){b:Bool}{nx:Nat}:AT Tryz.prog 145 [.d (.sl (List.map AR xs)) b] hp nx fun v d j=>v= .so (nx+3) 1 0 xs.length/\d=upd (nx+3) (some (.rw (List.map AR xs) 3 1 false false)) hp/\j=nx+7:=by
 have h:=bK (e:=AR) (k:=3) (b:=b) (hp:=hp) (nx:=nx) Ev FI Tryz.func145 (T:=49) (B:=4) rfl (by kernel_rfl) (by kernel_rfl) (by decide) rfl (by simp only[go_sem]) (by simp only[go_sem]) (by simp only[go_sem]) (by decide) (by simp only[go_sem];decide) (fun _=>rfl) xs a c;rw[QR (f:=AR) (fun _=>rfl),Og,OU] at h;exact h
theorem yP {nx:Nat}:AT Tryz.prog 145 [.v (.slice none 0 0)] hp nx fun v a b=>v= .v (.slice none 0 0)/\a=hp/\b=nx+4:=by
 refine zr Tryz.func145 ?_;refine Z0 ?_;exact GM (v:=.v (.slice none 0 0)) (by simp -implicitDefEqProofs only[go_sem, ↓reduceIte,Tryz.f145]<;>rfl) ⟨rfl,rfl,rfl⟩
def Pl (_:Nat)(x:Cj)(o:Ae)(rel:ByteArray):Option (List AL):=(if (Ay (⟨o,rel⟩:AB) x.subs) then (if (decide ((qf_ (⟨o,rel⟩:AB) [] x.subs).length=0)) then some [] else Cy (decide ((qf_ (⟨o,rel⟩:AB) [] x.subs).length<=4294967296))<| some (qf_ (⟨o,rel⟩:AB) [] x.subs)) else some [])
theorem dM {x:Cj}{o:Ae}{r:List AL}(H:Pl n x o rel=some r):AM Tryz.prog 123 [D.pt (EW x) 0,D.ag (DF o),D.v (.string rel)] (D.sl (List.map AR r)) true:=by
 unfold Pl at H;refine zP #[.tmp 6] Tryz.func123 ?_;refine AQ ?_;obtain⟨a,d⟩ |⟨a,d⟩:=Ah H
 ·have w:EV (true,[.string,.string,.string]) (.agg #[.string o.type_,.string o.id_,.string rel]) (.v (.slice none 0 0)) false (Eo true (A7 Em false (eL AR) x.subs))=some (.d (.sl (List.map AR (qf_ (⟨o,rel⟩:AB) [] x.subs))) true,[]):=bO (b:=true) (ag:=false) (enc:=(eL AR)) Ra (⟨o,rel⟩:AB) ([]:List AL) x.subs _ a;have h:=Y2 a w;refine Z1 h ?_;obtain⟨c,j⟩ |⟨c,j⟩:=Ah d
  ·have k:=Y2 h c;refine Z1 k ?_;refine Ds (yN (qf_ (⟨o,rel⟩:AB) [] x.subs) c) ?_;refine Dj k ?_;cases j;exact As
  have⟨y,z⟩:=Dv j;have l:(qf_ (⟨o,rel⟩:AB) [] x.subs).length<=4294967296:=of_decide_eq_true y;have A:0<(qf_ (⟨o,rel⟩:AB) [] x.subs).length:=by have:=of_decide_eq_false c;omega
  have p:=Y2 h c;refine Z1 p ?_;refine IP (ids':=[]) (v:=.so 15 1 0 (qf_ (⟨o,rel⟩:AB) [] x.subs).length) (δ:=[(15,.rw (List.map AR (qf_ (⟨o,rel⟩:AB) [] x.subs)) 3 1 false false)]) (nx':=19) (fun B _=>AT.mono (yO (qf_ (⟨o,rel⟩:AB) [] x.subs) A l) fun C E F e=>e) ?_;have s:=Y2 p l;refine Dj s ?_;cases z;exact Rb s
 have G:EV (true,[.string,.string,.string]) (.agg #[.string o.type_,.string o.id_,.string rel]) (.v (.slice none 0 0)) false (Eo true (A7 Em false (eL AR) x.subs))=some (.v (.slice none 0 0),[]):=bP (b:=true) (ag:=false) (enc:=(eL AR)) Ra (⟨o,rel⟩:AB) x.subs _ a;have u:=Y2 a G;refine Z1 u ?_;refine IP (ids':=[]) (v:=.v (.slice none 0 0)) (δ:=[]) (nx':=16) (fun B _=>AT.mono yP fun C E F e=>e) ?_;refine Dj u ?_;cases d;exact As
def WQ (n:Nat)(x:AX)(a:List AL):Nat->(List AB × Int)->Option (List AB)
 |0,_=>none
 |c+1,(d,b)=>(if decide (b<(a.length:Int)) then (idx a b).bind fun e=>(Cu d [(⟨(⟨e.type_,e.id_⟩:Ae),x.b⟩:AB)]).bind fun l=>WQ n x a c (l,(i64.wrap (b+1))) else some d)
def dN (_:Nat)(x:AX)(_:List AL)(b:List AB)(a:AL)(k:List AB->Option (List AB)):Option (List AB):=
 match b with
 |out=>
  (Cu out [(⟨(⟨a.type_,a.id_⟩:Ae),x.b⟩:AB)]).bind fun l=>
  k l
def dO (_:Nat)(_:AX)(_:List AL)(a:List AB):Option (List AB):=
 match a with
 |out=>some out
theorem yQ (n:Nat)(x:AX)(a:List AL)(e:a.length<4611686018427387904)(c:Nat)(d:List AB)(b:Nat)(h:b<=a.length)(j:a.length-b<c):WQ n x a c (match d,(b:Int) with |out,b=>(out,b))=DP (dN n x a) (dO n x a) (a.drop b) d:=
 Gl (fun c d b=>WQ n x a c (match d,b with |out,b=>(out,b))) a (dN n x a) (dO n x a) (fun _ _ _=>rfl) e c d b h j
def Ti (n:Nat)(g:AI)(o:Ae)(x:AX):Option (List AB):=(Pl n g.index.left o x.a).bind fun a=>(WQ n x a n ([],0):Option (List AB)).bind fun b=>some b
theorem nk {g:AI}{o:Ae}{x:AX}{r:List AB}(H:Ti n g o x=some r):AM Tryz.prog 122 [D.pt (Ak g) 0,D.ag (DF o),D.ag (AY x)] (D.sl (List.map AF r)) true:=by
 unfold Ti at H;refine zP #[.tmp 6] Tryz.func122 ?_;refine Dg ?_;refine AU (AU ?_);refine ZT 1 ?_;obtain⟨I,w,y⟩:=AP H;refine Z0 ?_;refine X5 (b:=true) [] (fun J K=>by exact(PW.cons (Dr.d (Cg.one (C3.rbE 2 (C3.one (b':=true) (is:=[]) rfl (fun _=>rfl)) (by rfl)) rfl)) (PW.cons (Dr.d (Cg.agP (PW.cons (C3.one (b':=false) (is:=[]) rfl (fun _=>rfl)) (PW.cons (C3.one (b':=false) (is:=[]) rfl (fun _=>rfl)) PW.nil)))) (PW.cons (Dr.d (Cg.one (C3.one (b':=false) (is:=[]) rfl (fun _=>rfl)) rfl)) PW.nil)))) (CP.of_pure (dM w)) ?_;refine Ki ?_;refine EJ y (fun _ _ e h=>⟨upd 7 (AW 0 h (List.map AF e)) AJ,upd 0 (Am 3 h false (List.map AF e)) AK,1⟩) (fun L z p=> ?_) fun e h p=> ?_
 ·refine DL z (fun f _ (a,s) d=>⟨kp [19,20] f (upd 5 (.pt 0 0) (upd 7 (AW 1 d (List.map AF a)) (upd 21 (.v (.int .i64 s)) AJ))),upd 0 (some (.bx [.v (.int .i64 x.kind),.v (.string x.a),.v (.string x.b)])) (upd 1 (Am 3 d false (List.map AF a)) AK),2⟩) 0 (ZR [(0,1)]) fun c ⟨a,s⟩ d A=> ?_
  refine AQ ?_;obtain⟨j,H15⟩ |⟨j,H15⟩:=Ah A
  ·obtain⟨u,M,N,B,H17⟩:=zI AR H15;obtain⟨l,C,H23⟩:=AP H17;obtain⟨k,v⟩:=Dp C;have k:a.length+1<=4294967296:=k;have E:List.map AF a++[[.v (.string u.type_),.v (.string u.id_),.v (.string x.b)]]=List.map AF l:=D6 AF v;have F:a.length+1=l.length:=D7 v;have G:l.length<=4294967296:=(by omega);have O:0<l.length:=(by omega);refine Z1 (Y6 j B k E F G) ?_;rcases a with _ |⟨Q,R⟩
   ·try simp only[Lu,CF,CG]
    exact⟨_,0,H23,ZR [(0,0),(1,17)]⟩
   try simp only[Lh,CF,CG]
   exact⟨_,(d+1),H23,ZR [(0,0),(1,1)]⟩
  refine Z1 j ?_;cases H15;exact⟨d,ZR [(0,1)]⟩
 refine AQ ?_;cases p;exact As
def Kg (n:Nat)(a:AI)(b:AB)(d:AZ × Bool):Nat->(List AB × Int)->Option (List AB)
 |0,_=>none
 |c+1,(h,e)=>(if decide (e<(d.1.expr.length:Int)) then (idx d.1.expr e).bind fun j=>(if (j.kind==1) then (Cu h [(⟨b.obj,j.a⟩:AB)]).bind fun l=>Kg n a b d c (l,(i64.wrap (e+1))) else (if (j.kind==2) then (Ti n (⟨a.schema,a.index,a.rows_⟩:AI) b.obj j).bind fun k=>(if decide (h.length=0) then (Cu [] k).bind fun _=>Kg n a b d c (k,(i64.wrap (e+1))) else (Cu h k).bind fun p=>Kg n a b d c (p,(i64.wrap (e+1)))) else Kg n a b d c (h,(i64.wrap (e+1))))) else some h)
def Tj (n:Nat)(a:List AL):Nat->(List AB × Int)->Option (List AB)
 |0,_=>none
 |c+1,(e,b)=>(if decide (b<(a.length:Int)) then (idx a b).bind fun d=>(if (d.rel.toList==({ data:= #[] }:ByteArray).toList) then Tj n a c (e,(i64.wrap (b+1))) else (Cu e [(⟨(⟨d.type_,d.id_⟩:Ae),d.rel⟩:AB)]).bind fun h=>Tj n a c (h,(i64.wrap (b+1)))) else some e)
def WR (_:Nat)(_:List AL)(b:List AB)(a:AL)(k:List AB->Option (List AB)):Option (List AB):=
 match b with
 |t74=>
  (if (a.rel.toList==({ data:= #[] }:ByteArray).toList) then
   k t74
  else
   (Cu t74 [(⟨(⟨a.type_,a.id_⟩:Ae),a.rel⟩:AB)]).bind fun c=>
   k c)
def dP (_:Nat)(_:List AL)(a:List AB):Option (List AB):=
 match a with
 |t74=>some t74
theorem yR (n:Nat)(a:List AL)(e:a.length<4611686018427387904)(c:Nat)(d:List AB)(b:Nat)(h:b<=a.length)(j:a.length-b<c):Tj n a c (match d,(b:Int) with |t74,b=>(t74,b))=DP (WR n a) (dP n a) (a.drop b) d:=
 Gl (fun c d b=>Tj n a c (match d,b with |t74,b=>(t74,b))) a (WR n a) (dP n a) (fun _ _ _=>rfl) e c d b h j
def RY (n:Nat)(b:AI)(a:AB):Option (List AB):=(Gs n b.schema a.obj.type_ a.rel).bind fun c=>(Kg n b a c n ([],0):Option (List AB)).bind fun d=>(if decide (0<(c.1.expr.length:Int)) then some d else (Pl n b.index.left a.obj a.rel).bind fun e=>(Tj n e n (d,0):Option (List AB)).bind fun h=>some h)
set_option maxHeartbeats 8000000 in
theorem yS {d:AI}{h:AB}{r:List AB}(H:RY n d h=some r):AM Tryz.prog 96 [D.pt (Ak d) 0,D.ag (AF h)] (D.sl (List.map AF r)) true:=by
 unfold RY at H;refine zP #[.tmp 4] Tryz.func96 ?_;refine Ax ?_;refine AU (ZT 1 ?_);obtain⟨l,b1,H2⟩:=AP H;refine Z0 ?_;refine Ds (Kf b1) ?_;refine Ki ?_;refine JA ?_;refine EJ H2 (fun _ _ C v=>⟨upd 0 (.d (.pt [.pt [.mp (A7 Value.string false eI d.schema.types),.mp (A7 qa_ true Al d.schema.rels),.mp (A7 qa_ false eI d.schema.ranks)] 0,.pt [.mp (A7 Em false (eL AR) d.index.left.subs),.mp (A7 Value.string false (eL eS) d.index.left.objs),.mp (A7 FD false (eL AF) d.index.right.refs),.mp (A7 Value.string false (eL eS) d.index.right.users)] 0,.sl (List.map AE d.rows_)] 0) true) (upd 3 (.pt 0 0) (upd 5 (.pt 1 0) (upd 7 (AW 2 v (List.map AF C)) AJ))),upd 0 (some (.bx [.v (.string h.obj.type_),.v (.string h.obj.id_),.v (.string h.rel)])) (upd 1 (some (.bx [.v (.string l.1.name),.d (.sl (List.map AR l.1.subs)) true,.d (.sl (List.map AY l.1.expr)) true])) (upd 2 (Am 3 v false (List.map AF C)) AK)),3⟩) (fun e_ E3 X=> ?_) fun C v X=> ?_
 ·refine DL E3 (fun f _ (e,Y) g=>⟨kp [26,27] f (upd 0 (.d (.pt [.pt [.mp (A7 Value.string false eI d.schema.types),.mp (A7 qa_ true Al d.schema.rels),.mp (A7 qa_ false eI d.schema.ranks)] 0,.pt [.mp (A7 Em false (eL AR) d.index.left.subs),.mp (A7 Value.string false (eL eS) d.index.left.objs),.mp (A7 FD false (eL AF) d.index.right.refs),.mp (A7 Value.string false (eL eS) d.index.right.users)] 0,.sl (List.map AE d.rows_)] 0) true) (upd 3 (.pt 0 0) (upd 5 (.pt 1 0) (upd 7 (AW 2 g (List.map AF e)) (upd 28 (.v (.int .i64 Y)) AJ))))),upd 0 (some (.bx [.v (.string h.obj.type_),.v (.string h.obj.id_),.v (.string h.rel)])) (upd 1 (some (.bx [.v (.string l.1.name),.d (.sl (List.map AR l.1.subs)) true,.d (.sl (List.map AY l.1.expr)) true])) (upd 2 (Am 3 g false (List.map AF e)) AK)),3⟩) 0 (ZR [(0,0),(1,15)]) fun c ⟨e,Y⟩ g L5=> ?_
  refine AQ ?_;obtain⟨E,H25⟩ |⟨E,H25⟩:=Ah L5;rotate_left
  ·refine Z1 E ?_;cases H25;exact⟨g,ZR [(0,0),(1,1),(2,2)]⟩
  obtain⟨x2,br,bs,ak,H27⟩:=zI AY H25;have F:=Y2 E ak;refine Z1 F ?_;obtain⟨G,H33⟩ |⟨G,H33⟩:=Ah H27
  ·obtain⟨w,ao,H35⟩:=AP H33;obtain⟨I,Z⟩:=Dp ao;have I:e.length+1<=4294967296:=I;have aq:List.map AF e++[[.v (.string h.obj.type_),.v (.string h.obj.id_),.v (.string x2.a)]]=List.map AF w:=D6 AF Z;have av:e.length+1=w.length:=D7 Z;have aE:w.length<=4294967296:=(by omega);have bx:0<w.length:=(by omega);refine Z1 (Y6 F G I aq av aE) ?_;rcases e with _ |⟨q0,q1⟩
   ·try simp only[Lu,CF,CG]
    exact⟨_,0,H35,ZR [(0,0),(1,1),(2,19)]⟩
   try simp only[Lh,CF,CG]
   exact⟨_,(g+1),H35,ZR [(0,0),(1,1),(2,2)]⟩
  have aa:=Y2 F G;refine Z1 aa ?_;obtain⟨y,H43⟩ |⟨y,H43⟩:=Cb aa H33
  ·obtain⟨p,a0,H45⟩:=AP H43;refine Z1 y ?_;refine CT (nk a0) ?_;have J:=Y2 y (Fm (n:=3) (f:=AF) (fun _=>rfl) p);refine Z1 J ?_;obtain⟨z,H47⟩ |⟨z,H47⟩:=Ah H45
   ·have a1:e= []:=LV (of_decide_eq_true z);subst a1;simp only[Lu,Ut,Xo];try simp only[GO,GN]
    obtain⟨l3,a2,H50⟩:=AP H47;obtain⟨K,L⟩:=Dp a2;have L:p=l3:=L;subst L;have K:p.length<=4294967296:=(by have:=K;simpa using this);refine Z1 (Y2 J K) ?_;exact⟨_,0,H50,ZR [(0,0),(1,1),(2,20)]⟩
   have j:0<e.length:=(by have:=of_decide_eq_false z;omega);have a3:∀i,GO i (List.map AF e)= [i]:=fun i=>(by cases M:e with |nil=>(rw[M] at j;simp at j) |cons a r=>rfl);have a4:∀b,GN b (List.map AF e)=b:=fun b=>(by cases M:e with |nil=>(rw[M] at j;simp at j) |cons a r=>rfl);obtain⟨A,a5,H57⟩:=AP H47;obtain⟨N,ab⟩:=Dp a5;have N:e.length+p.length<=4294967296:=N;have a6:List.map AF e++List.map AF p=List.map AF A:=D6 AF ab;have a9:e.length+p.length=A.length:=D7 ab;have ba:A.length<=4294967296:=(by omega);have b0:0<A.length:=(by omega);refine Z1 (Y2 (Y6 J z a3 a4 j (YV (f:=AF) j)) (Y5 (YO (f:=AF) j) N a6 a9 ba)) ?_;exact⟨_,(g+1),H57,ZR [(0,0),(1,1),(2,2)]⟩
  refine Z1 y ?_;exact⟨_,g,H43,ZR [(0,0),(1,1),(2,2)]⟩
 refine Ax ?_;obtain⟨s,H65⟩ |⟨s,H65⟩:=Ah X
 ·refine Z1 s ?_;cases H65;exact Rb s
 refine Z1 s ?_;refine AU (AU ?_);refine ZT 1 ?_;obtain⟨b2,bb,H67⟩:=AP H65;refine Z1 s ?_;refine X5 (b:=true) [] (fun b3 h1=>by exact(PW.cons (Dr.d (Cg.one (C3.rbE 2 (C3.one (b':=true) (is:=[]) rfl (fun _=>rfl)) (by rfl)) rfl)) (PW.cons (Dr.d (Cg.agP (PW.cons (C3.one (b':=false) (is:=[]) rfl (fun _=>rfl)) (PW.cons (C3.one (b':=false) (is:=[]) rfl (fun _=>rfl)) PW.nil)))) (PW.cons (Dr.d (Cg.one (C3.one (b':=false) (is:=[]) rfl (fun _=>rfl)) rfl)) PW.nil)))) (CP.of_pure (dM bb)) ?_;refine Dj s ?_;refine EJ H67 (fun _ _ O Q=>⟨upd 7 (AW 0 Q (List.map AF O)) AJ,upd 0 (Am 3 Q false (List.map AF O)) AK,1⟩) (fun b4 E68 H69=> ?_) fun O Q H69=> ?_;rotate_left
 ·refine AQ ?_;cases H69;exact As
 refine DL E68 (fun f _ (k,ad) u=>⟨kp [69,70] f (upd 7 (AW 0 u (List.map AF k)) (upd 71 (.v (.int .i64 ad)) AJ)),upd 0 (Am 3 u false (List.map AF k)) AK,1⟩) v (ZR [(0,2)]) fun c ⟨k,ad⟩ u L70=> ?_
 refine AQ ?_;obtain⟨R,H90⟩ |⟨R,H90⟩:=Ah L70
 ·obtain⟨S,b5,b6,bd,H92⟩:=zI AR H90;have T:=Y2 R bd;refine Z1 T ?_;obtain⟨U,H98⟩ |⟨U,H98⟩:=Ah H92
  ·refine Z1 (Y2 T U) ?_;exact⟨_,u,H98,ZR [(0,0)]⟩
  obtain⟨B,be,H100⟩:=AP H98;obtain⟨V,ag⟩:=Dp be;have V:k.length+1<=4294967296:=V;have bg:List.map AF k++[[.v (.string S.type_),.v (.string S.id_),.v (.string S.rel)]]=List.map AF B:=D6 AF ag;have bl:k.length+1=B.length:=D7 ag;have bo:B.length<=4294967296:=by omega
  have b7:0<B.length:=by omega
  refine Z1 (Y6 T U V bg bl bo) ?_;rcases k with _ |⟨q0,q1⟩
  ·try simp only[Lu,CF,CG]
   exact⟨_,0,H100,ZR [(0,19)]⟩
  try simp only[Lh,CF,CG]
  exact⟨_,(u+1),H100,ZR [(0,0)]⟩
 refine Z1 R ?_;cases H90;exact⟨u,ZR [(0,0)]⟩
def dQ (_:Nat)(s:AD)(typ:ByteArray)(rel:ByteArray):Option Int:=some (qf_ (⟨typ,rel⟩:AA) 0 s.ranks)
theorem yT {s:AD}{typ:ByteArray}{r:Int}(H:dQ n s typ rel=some r):AM Tryz.prog 95 [D.pt (Av s) 0,D.v (.string typ),D.v (.string rel)] (D.v (.int .i64 r)) true:=by
 unfold dQ at H;refine zP #[.tmp 6] Tryz.func95 ?_;refine ZT 1 ?_;have a:EV (true,[.string,.string]) (.agg #[.string typ,.string rel]) (.v (.int .i64 0)) false (Eo true (A7 qa_ false eI s.ranks))=some (.v (.int .i64 (qf_ (⟨typ,rel⟩:AA) 0 s.ranks)),[]):=HZ (b:=true) (ag:=false) (enc:=eI) Kh (⟨typ,rel⟩:AA) (0:Int) false s.ranks;refine Z1 a ?_;cases H;exact As
abbrev Ff (hp:Hp)(es:List (Value × AV))(is:AB->Bool)(l:List AB):Prop:=∀r∈l,∃id rk dp ab,Dt es r id/\hp id=some (.bx [rk,dp,ab,.v (.bool (is r))])
def Re (n:Nat)(G:AI)(ob:Ae)(x:AX):Option (List AB):=if x.kind==1 then some [⟨ob,x.a⟩] else Ti n G ob x
theorem Kj {nx:Nat}{o:AO}(a:∀j,nx<=j->hp j=none)(h:hp i=some o):(i=nx+1)=False:=eq_false fun e=>by
 have:=Ch a h;omega
theorem dU {nx:Nat}{x y:Option AO}(a:∀j,nx<=j->hp j=none):GJ hp (upd (nx+1) x (upd nx y hp)):=⟨fun i=>by
 by_cases h:i<nx
 ·exact .inr (by simp[upd,show i≠nx by omega,show i≠nx+1 by omega])
 exact .inl (a i (by omega))⟩
theorem ZG {nx:Nat}{I:Bool}{vo vx:AV}{G:AI}{ob:Ae}{x:AX}{l:List AB}(a:∀j,nx<=j->hp j=none)
  (c:hp q=some (.bx [.d (.pt (Ak G) 0) I,s1,s2,s3,.mo m,o])) (d:hp m=some (.mo es dl)) (k:Re n G ob x=some l) (A:Ff hp es is l) (J:l.length<4611686018427387904) (B:EB vo=some [.v (.string ob.type_),.v (.string ob.id_)]) (C:EB vx=some [.v (.int .i64 x.kind),.v (.string x.a),.v (.string x.b)]):
  ∃p,nx<=p/\AT Tryz.prog 147 [.pt q 0,vo,vx] hp nx fun v K L=>v= .v (.bool (l.any is))/\K=hp/\L=p:=by
 unfold Re at k;rcases s:(x.kind==1) with _ |_
 ·rw[s,if_neg (by simp)] at k;obtain⟨u,e⟩:∃u,u=upd (nx+1) (some (.bx [.v (.int .i64 x.kind),.v (.string x.a),.v (.string x.b)])) (upd nx (some (.bx [.v (.string ob.type_),.v (.string ob.id_)])) hp):=⟨_,rfl⟩;have y:∀ {i:Nat} {o:AO},hp i=some o->u i=some o:=fun{i o} h=>by
   have:=Ch a h;rw[e,Ac,Ac];exact h
  have⟨p,R,M⟩:=n8 (nx:=nx+3+3+10) (b:=false) (is:=is) (l:=l) (fun j S=>by rw[e,Ac,Ac];exact a j (by omega)) (y c) (y d) (fun r N=>by
   have⟨id,E,F,H,O,Q⟩:=A r N;exact⟨id,E,F,H,O,y Q⟩) J
  refine⟨p,by omega,KL Ev FI Tryz.func147 (by rfl) (by kernel_rfl) (by kernel_rfl) (by exact NI rfl) ?_⟩;have w:=And.intro B <|And.intro C <|And.intro (show(nx=nx+1)=False from Ep)<|And.intro (FX a c) (Y6 (FX a d) (Kj a c) (Kj a d) c d s);refine Z1 w ?_;refine Ds (nk k) ?_;refine Z1 w ?_;rw[<-e];refine K7 (δ:=[]) M ?_;refine Ki ?_;exact⟨_,hp,rfl,by rw[e];exact dU a,rfl,rfl,rfl⟩
 rw[s,if_pos rfl] at k;cases k;have⟨id,E,F,H,e,z⟩:=A _ (Lp ..);refine⟨nx+3+3+13,by omega,KL Ev FI Tryz.func147 (by rfl) (by kernel_rfl) (by kernel_rfl) (by exact NI rfl) ?_⟩;have w:=And.intro B <|And.intro C <|And.intro (show(nx=nx+1)=False from Ep)<|And.intro (FX a c) (Y2 (Y6 (FX a d) (FX a z) (Kj a c) (Kj a d) (Kj a z) c) (Y4 d e z s));refine Dj w ?_;exact⟨_,hp,rfl,dU a,by simp[At],rfl,rfl⟩
end Go.Proofs.YtnmkbmefohakmaaGreat.Ab
