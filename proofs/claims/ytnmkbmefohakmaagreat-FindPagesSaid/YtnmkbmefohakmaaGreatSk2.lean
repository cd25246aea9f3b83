/-
 Whether one of some relations is known to be so.
-/
import Derived.Test.YtnmkbmefohakmaaGreatOlo
namespace Go.Proofs.YtnmkbmefohakmaaGreat.Ab
open Go.Shelf Go.RowKit Go.Sort
theorem ps_ {P:Program}{f:FuncId}{x y:Value}(hE:vn_ P f)(hy:y.oneCell'=true)(h:∀w,Calls P f #[x] w fun e w'=>e= .returned y/\w'=w){hp:Hp}{nx:Nat}:InlOK P f [.v x] hp nx fun v hp2 nx2=>v= .v y/\hp2=hp/\nx2=nx:=by
 refine⟨hE,fun g c args hhp hkn hr hsz hall=> ?_⟩;obtain⟨u,h1,h2⟩:=hall 0 _ rfl;cases(show RA g c (.v x) u from h2);have ha:args= #[x]:=by
  apply Array.ext
  ·simpa using hsz
  ·intro j h3 h4
   have hj:j=0:=by simp at h4;omega
   subst hj;simpa [h3] using h1
 subst ha;refine(h c.w).mono ?_;rintro e w' ⟨rfl,rfl⟩;exact⟨y,.v y,c,nx,rfl,⟨rfl,hhp,rfl⟩,rfl,Ext.refl c,hr,RA.v y hy,Nat.le_refl _,fun i hi=>.inl hi⟩
theorem clone_nilv {hp:Hp}{nx:Nat}:InlOK Tryz.prog 47 [.v (.slice none 0 0)] hp nx fun v hp2 nx2=>v= .v (.slice none 0 0)/\hp2=hp/\nx2=nx+4:=by
 refine qN_ (tab:=tab) qf_ fol Tryz.func47 rfl (by kernel_rfl) (by kernel_rfl) (by simp[Tryz.f47]) ?_;simp -implicitDefEqProofs only[go_sem,Nat.reduceAdd,reduceCtorEq, ↓reduceIte];exact jM_ (v:=.v (.slice none 0 0)) (by simp -implicitDefEqProofs only[go_sem, ↓reduceIte,Tryz.f47]<;>rfl) ⟨rfl,rfl,rfl⟩
theorem compact_nilv {hp:Hp}{nx:Nat}:InlOK Tryz.prog 109 [.v (.slice none 0 0)] hp nx fun v hp2 nx2=>v= .v (.slice none 0 0)/\hp2=hp/\nx2=nx:=
 ps_ dk_ rfl fun w=>Calls.mono (calls_of_every_depth fun D=>AnyS.slices_Compact_string_empty_in Tryz.laysCompact D none 0 w) fun _ _ h=>h
theorem once_nilv {hp:Hp}{nx:Nat}:InlOK Tryz.prog 79 [.v (.slice none 0 0)] hp nx fun v hp2 nx2=>v= .v (.slice none 0 0)/\hp2=hp/\nx2=nx+13:=by
 refine qN_ (tab:=tab) qf_ fol Tryz.func79 rfl (by kernel_rfl) (by kernel_rfl) (by simp[Tryz.f79]) ?_;simp -implicitDefEqProofs only[go_sem,Nat.reduceAdd,reduceCtorEq, ↓reduceIte];refine qe_ (clone_nilv.mono ?_);rintro v hp2 nx2 ⟨rfl,rfl,rfl⟩;simp -implicitDefEqProofs only[go_sem,Nat.reduceAdd, ↓reduceIte];refine zl_ (by simp -implicitDefEqProofs only[go_sem]<;>rfl) si_ (.inr rfl) ?_
 simp -implicitDefEqProofs only[go_sem,Nat.reduceEqDiff,Nat.reduceAdd, ↓reduceIte];refine qe_ (compact_nilv.mono ?_);rintro v hp2 nx2 ⟨rfl,rfl,rfl⟩;simp -implicitDefEqProofs only[go_sem,Nat.reduceAdd, ↓reduceIte];exact jM_ (v:=.v (.slice none 0 0)) (by simp -implicitDefEqProofs only[go_sem, ↓reduceIte,Tryz.f79]<;>rfl) ⟨rfl,rfl,rfl⟩
def zF_ (n:Nat)(m:List (ByteArray × List ByteArray))(t:ByteArray):Option (List ByteArray):=
 if mhas t m then(if decide ((qk_ t [] m).length=0) then none else(vG_ n (qk_ t [] m)).bind fun r=>if decide (r.length=0) then none else some r) else some []
theorem kI_ {n:Nat}{m:List (ByteArray × List ByteArray)}{t:ByteArray}{r:List ByteArray}(H:zF_ n m t=some r)(h:0<r.length):mhas t m=true/\0<(qk_ t [] m).length/\vG_ n (qk_ t [] m)=some r:=by
 unfold zF_ at H;cases hm:mhas t m with
 |false=>rw[hm,if_neg Bool.false_ne_true] at H;cases H;simp at h
 |true=>
  rw[hm,if_pos rfl] at H;rcases zit H with⟨_,h2⟩ |⟨h1,H⟩
  ·cases h2
  ·obtain⟨q,hq,H⟩:=zbi H
   rcases zit H with⟨_,h2⟩ |⟨_,H⟩
   ·cases h2
   ·cases H
    exact⟨rfl,by have:=of_decide_eq_false h1;omega,hq⟩
theorem kJ_ {n:Nat}{m:List (ByteArray × List ByteArray)}{t:ByteArray}{r:List ByteArray}(H:zF_ n m t=some r)(h:decide (r.length=0)=true):mhas t m=false:=by
 unfold zF_ at H;cases hm:mhas t m with
 |false=>rfl
 |true=>
  rw[hm,if_pos rfl] at H;rcases zit H with⟨_,h2⟩ |⟨_,H⟩
  ·cases h2
  ·obtain⟨q,_,H⟩:=zbi H
   rcases zit H with⟨_,h2⟩ |⟨h1,H⟩
   ·cases h2
   ·cases H
    rw[h] at h1;cases h1
def ze_ (n:Nat)(x:LookIndex)(t:ByteArray):Option (List ByteArray):=zF_ n x.left.objs t
def zf_ (n:Nat)(x:LookIndex)(t:ByteArray):Option (List ByteArray):=zF_ n x.right.users t
theorem bb_ {n:Nat}{x:LookIndex}{t:ByteArray}{r:List ByteArray}(H:ze_ n x t=some r)(h0:0<r.length){b:Bool}{hp:Hp}{nx:Nat}:
  InlOK Tryz.prog 45 [.d (D.pt (eLookIndex x) 0) b,.v (.string t)] hp nx fun v hp2 nx2=>v= .so (nx+16) 2 0 r.length/\hp2=upd (nx+16) (some (.rw (List.map eS r) 1 2 false false)) hp/\nx2=nx+25:=by
 obtain⟨hm,hl,h2⟩:=kI_ H h0;have h1:j6_ (false,[.string]) (.string t) (.v (.slice none 0 0)) false (xt_ b (qi_ Value.string false (eL eS) x.left.objs))=some (.d (.sl (List.map eS (qk_ t [] x.left.objs))) b,[]):=y7_ (b:=b) (ag:=false) (enc:=(eL eS)) vf_ t ([]:List ByteArray) x.left.objs _ hm
 refine qN_ (tab:=tab) qf_ fol Tryz.func45 rfl (by kernel_rfl) (by kernel_rfl) (by simp[Tryz.f45]) ?_;simp -implicitDefEqProofs only[go_sem,Nat.reduceEqDiff,Nat.reduceAdd,reduceCtorEq, ↓reduceIte,eLookIndex,h1];refine qe_ ((kH_ h2 hl).mono ?_);rintro v hp2 nx2 ⟨rfl,rfl,rfl⟩;simp -implicitDefEqProofs only[go_sem,Nat.reduceAdd, ↓reduceIte]
 exact jM_ (v:=.so (nx+16) 2 0 r.length) (by simp -implicitDefEqProofs only[go_sem, ↓reduceIte,Tryz.f45]<;>rfl) ⟨rfl,rfl,rfl⟩
theorem uO_ {n:Nat}{x:LookIndex}{t:ByteArray}{r:List ByteArray}(H:ze_ n x t=some r)(h0:decide (r.length=0)=true){b:Bool}{hp:Hp}{nx:Nat}:
  InlOK Tryz.prog 45 [.d (D.pt (eLookIndex x) 0) b,.v (.string t)] hp nx fun v hp2 nx2=>v= .v (.slice none 0 0)/\hp2=hp/\nx2=nx+22:=by
 have hm:=kJ_ H h0;have h1:j6_ (false,[.string]) (.string t) (.v (.slice none 0 0)) false (xt_ b (qi_ Value.string false (eL eS) x.left.objs))=some (.v (.slice none 0 0),[]):=y8_ (b:=b) (ag:=false) (enc:=(eL eS)) vf_ t x.left.objs _ hm;refine qN_ (tab:=tab) qf_ fol Tryz.func45 rfl (by kernel_rfl) (by kernel_rfl) (by simp[Tryz.f45]) ?_
 simp -implicitDefEqProofs only[go_sem,Nat.reduceEqDiff,Nat.reduceAdd,reduceCtorEq, ↓reduceIte,eLookIndex,h1];refine qe_ (once_nilv.mono ?_);rintro v hp2 nx2 ⟨rfl,rfl,rfl⟩;simp -implicitDefEqProofs only[go_sem,Nat.reduceAdd, ↓reduceIte];exact jM_ (v:=.v (.slice none 0 0)) (by simp -implicitDefEqProofs only[go_sem, ↓reduceIte,Tryz.f45]<;>rfl) ⟨rfl,rfl,rfl⟩
theorem bc_ {n:Nat}{x:LookIndex}{t:ByteArray}{r:List ByteArray}(H:zf_ n x t=some r)(h0:0<r.length){b:Bool}{hp:Hp}{nx:Nat}:
  InlOK Tryz.prog 48 [.d (D.pt (eLookIndex x) 2) b,.v (.string t)] hp nx fun v hp2 nx2=>v= .so (nx+16) 2 0 r.length/\hp2=upd (nx+16) (some (.rw (List.map eS r) 1 2 false false)) hp/\nx2=nx+25:=by
 obtain⟨hm,hl,h2⟩:=kI_ H h0;have h1:j6_ (false,[.string]) (.string t) (.v (.slice none 0 0)) false (xt_ b (qi_ Value.string false (eL eS) x.right.users))=some (.d (.sl (List.map eS (qk_ t [] x.right.users))) b,[]):=y7_ (b:=b) (ag:=false) (enc:=(eL eS)) vf_ t ([]:List ByteArray) x.right.users _ hm
 refine qN_ (tab:=tab) qf_ fol Tryz.func48 rfl (by kernel_rfl) (by kernel_rfl) (by simp[Tryz.f48]) ?_;simp -implicitDefEqProofs only[go_sem,Nat.reduceEqDiff,Nat.reduceAdd,reduceCtorEq, ↓reduceIte,eLookIndex,h1];refine qe_ ((kH_ h2 hl).mono ?_);rintro v hp2 nx2 ⟨rfl,rfl,rfl⟩;simp -implicitDefEqProofs only[go_sem,Nat.reduceAdd, ↓reduceIte]
 exact jM_ (v:=.so (nx+16) 2 0 r.length) (by simp -implicitDefEqProofs only[go_sem, ↓reduceIte,Tryz.f48]<;>rfl) ⟨rfl,rfl,rfl⟩
theorem uP_ {n:Nat}{x:LookIndex}{t:ByteArray}{r:List ByteArray}(H:zf_ n x t=some r)(h0:decide (r.length=0)=true){b:Bool}{hp:Hp}{nx:Nat}:
  InlOK Tryz.prog 48 [.d (D.pt (eLookIndex x) 2) b,.v (.string t)] hp nx fun v hp2 nx2=>v= .v (.slice none 0 0)/\hp2=hp/\nx2=nx+22:=by
 have hm:=kJ_ H h0;have h1:j6_ (false,[.string]) (.string t) (.v (.slice none 0 0)) false (xt_ b (qi_ Value.string false (eL eS) x.right.users))=some (.v (.slice none 0 0),[]):=y8_ (b:=b) (ag:=false) (enc:=(eL eS)) vf_ t x.right.users _ hm;refine qN_ (tab:=tab) qf_ fol Tryz.func48 rfl (by kernel_rfl) (by kernel_rfl) (by simp[Tryz.f48]) ?_
 simp -implicitDefEqProofs only[go_sem,Nat.reduceEqDiff,Nat.reduceAdd,reduceCtorEq, ↓reduceIte,eLookIndex,h1];refine qe_ (once_nilv.mono ?_);rintro v hp2 nx2 ⟨rfl,rfl,rfl⟩;simp -implicitDefEqProofs only[go_sem,Nat.reduceAdd, ↓reduceIte];exact jM_ (v:=.v (.slice none 0 0)) (by simp -implicitDefEqProofs only[go_sem, ↓reduceIte,Tryz.f48]<;>rfl) ⟨rfl,rfl,rfl⟩
end Go.Proofs.YtnmkbmefohakmaaGreat.Ab
namespace Go.Proofs.YtnmkbmefohakmaaGreat.Ab
open Go.RowKit
def fi_ (T E I B F V:TypeId):Code:=
  (Go.Code.seq (Go.Code.region 0 #[{ dst:=(some 4),op:=(Go.Op.assign (Go.Operand.const (Go.Value.int Go.IntKind.i64 0))),type:=I,pos:= "slices.go:107",after:= #[],guard:=none }] false) (Go.Code.seq (Go.Code.seq (Go.Code.region 1 #[{ dst:=(some 6),op:=(Go.Op.move (Go.Operand.tmp 0)),type:=T,pos:= "slices.go:108",after:= #[],guard:=none },{ dst:=(some 7),op:=(Go.Op.call { callee:=(Go.Callee.builtin Go.Builtin.len),args:= #[(Go.Operand.tmp 6)],argTypes:= #[T] }),type:=I,pos:= "slices.go:108",after:= #[{ on:=0,ground:=Go.Ground.data }],guard:=none },{ dst:=(some 8),op:=(Go.Op.move (Go.Operand.const (Go.Value.int Go.IntKind.i64 0))),type:=I,pos:= "slices.go:108",after:= #[],guard:=none }] false) (Go.Code.block 0 (Go.Code.loop (Go.Code.seq (Go.Code.region 2 #[{ dst:=(some 9),op:=(Go.Op.binOp Go.BinOp.lss I (Go.Operand.tmp 8) (Go.Operand.tmp 7) I),type:=B,pos:= "slices.go:108",after:= #[],guard:=none }] false) (Go.Code.seq (Go.Code.cond (Go.Operand.tmp 9) Go.Code.skip (Go.Code.exit 0)) (Go.Code.seq (Go.Code.block 1 (Go.Code.seq (Go.Code.region 3 #[{ dst:=(some 10),op:=(Go.Op.move (Go.Operand.tmp 8)),type:=I,pos:= "slices.go:108",after:= #[],guard:=none },{ dst:=(some 5),op:=(Go.Op.assign (Go.Operand.tmp 10)),type:=I,pos:= "slices.go:108",after:= #[{ on:=0,ground:=Go.Ground.data },{ on:=0,ground:=Go.Ground.phase }],guard:=none }] false) (Go.Code.seq (Go.Code.region 4 #[{ dst:=(some 11),op:=(Go.Op.move (Go.Operand.tmp 1)),type:=F,pos:= "slices.go:109",after:= #[],guard:=none },{ dst:=(some 12),op:=(Go.Op.move (Go.Operand.tmp 0)),type:=T,pos:= "slices.go:109",after:= #[],guard:=none },{ dst:=(some 13),op:=(Go.Op.move (Go.Operand.tmp 5)),type:=I,pos:= "slices.go:109",after:= #[],guard:=none },{ dst:=(some 14),op:=(Go.Op.indexAddr T (Go.Operand.tmp 12) (Go.Operand.tmp 13)),type:=B,pos:= "slices.go:109",after:= #[{ on:=1,ground:=Go.Ground.data },{ on:=2,ground:=Go.Ground.data }],guard:=none },{ dst:=(some 15),op:=(Go.Op.load E (Go.Operand.tmp 14)),type:=E,pos:= "slices.go:109",after:= #[{ on:=3,ground:=Go.Ground.data }],guard:=none },{ dst:=(some 16),op:=(Go.Op.call { callee:=(Go.Callee.value (Go.Operand.tmp 11)),args:= #[(Go.Operand.tmp 15)],argTypes:= #[E] }),type:=V,pos:= "slices.go:109",after:= #[{ on:=0,ground:=Go.Ground.data },{ on:=4,ground:=Go.Ground.data }],guard:=none }] false) (Go.Code.cond (Go.Operand.tmp 16) (Go.Code.seq (Go.Code.region 5 #[{ dst:=(some 17),op:=(Go.Op.move (Go.Operand.tmp 5)),type:=I,pos:= "slices.go:110",after:= #[],guard:=none },{ dst:=(some 4),op:=(Go.Op.assign (Go.Operand.tmp 17)),type:=I,pos:= "slices.go:110",after:= #[{ on:=0,ground:=Go.Ground.data },{ on:=0,ground:=Go.Ground.phase }],guard:=none }] false) Go.Code.ret) Go.Code.skip)))) (Go.Code.region 6 #[{ dst:=(some 18),op:=(Go.Op.binOp Go.BinOp.add I (Go.Operand.tmp 8) (Go.Operand.const (Go.Value.int Go.IntKind.i64 1)) I),type:=I,pos:= "slices.go:108",after:= #[],guard:=none },{ dst:=(some 8),op:=(Go.Op.move (Go.Operand.tmp 18)),type:=I,pos:= "slices.go:108",after:= #[{ on:=0,ground:=Go.Ground.data }],guard:=none }] false))))))) (Go.Code.seq (Go.Code.region 7 #[{ dst:=(some 4),op:=(Go.Op.assign (Go.Operand.const (Go.Value.int Go.IntKind.i64 (-1)))),type:=I,pos:= "slices.go:113",after:= #[],guard:=none }] false) Go.Code.ret)))
def fj_ (T _ I _ F V:TypeId)(g:FuncId):Code:=
  (Go.Code.seq (Go.Code.region 0 #[{ dst:=(some 4),op:=(Go.Op.assign (Go.Operand.const (Go.Value.bool false))),type:=V,pos:= "slices.go:124",after:= #[],guard:=none }] false) (Go.Code.seq (Go.Code.region 1 #[{ dst:=(some 5),op:=(Go.Op.move (Go.Operand.tmp 0)),type:=T,pos:= "slices.go:125",after:= #[],guard:=none },{ dst:=(some 6),op:=(Go.Op.move (Go.Operand.tmp 1)),type:=F,pos:= "slices.go:125",after:= #[],guard:=none },{ dst:=(some 7),op:=(Go.Op.call { callee:=(Go.Callee.value (Go.Operand.func g)),args:= #[(Go.Operand.tmp 5),(Go.Operand.tmp 6)],argTypes:= #[T,F] }),type:=I,pos:= "slices.go:125",after:= #[{ on:=0,ground:=Go.Ground.data },{ on:=1,ground:=Go.Ground.data }],guard:=none },{ dst:=(some 8),op:=(Go.Op.binOp Go.BinOp.geq I (Go.Operand.tmp 7) (Go.Operand.const (Go.Value.int Go.IntKind.i64 0)) I),type:=V,pos:= "slices.go:125",after:= #[{ on:=2,ground:=Go.Ground.data }],guard:=none },{ dst:=(some 4),op:=(Go.Op.assign (Go.Operand.tmp 8)),type:=V,pos:= "slices.go:125",after:= #[{ on:=3,ground:=Go.Ground.data },{ on:=2,ground:=Go.Ground.chain },{ on:=0,ground:=Go.Ground.phase },{ on:=1,ground:=Go.Ground.phase },{ on:=2,ground:=Go.Ground.phase },{ on:=3,ground:=Go.Ground.phase }],guard:=none }] false) Go.Code.ret))
structure ElOK (tab:Nat->TI) (T E:Nat) (n:Nat):Prop where
 sl:(tab T).kind= .slice
 el:(tab T).elem=E
 ok:(tab E).ok=true
 size:(tab E).size=n
 agg:(tab E).agg=true\/((tab E).agg=false/\n=1)
def PrdOK {α:Type}(P:Program)(f:FuncId)(caps:List AV)(ld:α->AV)(S:α->Prop)(pr:α->Bool)(ids:List Nat)(hp0:Hp):Prop:=
 ∀(x:α),S x->∀(nx:Nat),∃nx',nx<=nx'/\∀hp:Hp,(∀i∈ids,hp i=hp0 i)->InlOK P f ([ld x]++caps) hp nx fun v2 hp2 nx2=>v2= .v (.bool (pr x))/\hp2=hp/\nx2=nx'
open Classical in
noncomputable def PrdOK.nx {α:Type} {P:Program} {f:FuncId} {caps:List AV} {ld:α->AV} {S:α->Prop} {pr:α->Bool} {ids:List Nat} {hp0:Hp} (h:PrdOK P f caps ld S pr ids hp0) (x:α) (n:Nat):Nat:=if hx:S x then(h x hx n).choose else n
theorem PrdOK.le {α:Type}{P:Program}{f:FuncId}{caps:List AV}{ld:α->AV}{S:α->Prop}{pr:α->Bool}{ids:List Nat}{hp0:Hp}(h:PrdOK P f caps ld S pr ids hp0)(x:α)(n:Nat):n<=h.nx x n:=by
 unfold PrdOK.nx;split
 ·rename_i hx
  exact(h x hx n).choose_spec.1
 ·exact Nat.le_refl _
theorem PrdOK.inl {α:Type}{P:Program}{f:FuncId}{caps:List AV}{ld:α->AV}{S:α->Prop}{pr:α->Bool}{ids:List Nat}{hp0:Hp}(h:PrdOK P f caps ld S pr ids hp0)(x:α)(hx:S x)(n:Nat){hp:Hp}(hh:∀i∈ids,hp i=hp0 i):InlOK P f ([ld x]++caps) hp n fun v2 hp2 nx2=>v2= .v (.bool (pr x))/\hp2=hp/\nx2=h.nx x n:=by
 have:=(h x hx n).choose_spec.2 hp hh
 unfold PrdOK.nx;rw[dif_pos hx];exact this
def idxB {α:Type}(pr:α->Bool):List α->Nat->Int
 |[],_=> -1
 |x::r,k=>if pr x then k else idxB pr r (k+1)
theorem hg_ {α:Type}(pr:α->Bool):∀(l:List α) (k:Nat),decide (idxB pr l k>=0)=l.any pr
 |[],_=>rfl
 |x::r,k=>by
  have ih:=hg_ pr r (k+1);by_cases e:pr x=true
  ·simp[idxB,e]
  ·simpa [idxB,e] using ih
noncomputable def ixNx {α:Type} (pr:α->Bool) (nxf:α->Nat->Nat):List α->Nat->Nat
 |[],n=>n+2
 |x::r,n=>if pr x then nxf x (n+9)+2 else ixNx pr nxf r (nxf x (n+9)+2)
section
variable {P:Program}{tab:Nat->TI}
theorem nO_ {α:Type}{pr:α->Bool}{nxf:α->Nat->Nat}(h:∀x n,n<=nxf x n):∀(l:List α) (n:Nat),n<=ixNx pr nxf l n
 |[],n=>by simp[ixNx]
 |x::r,n=>by
  unfold ixNx;have h1:=h x (n+9);split
  ·omega
  ·have:=nO_ (pr:=pr) h r (nxf x (n+9)+2)
   omega
theorem h7_ (ht:TabOk P tab)(hm:P.follows .mixedOrders=true){f:FuncId}{fn:Func}{T E I B F V n:Nat}(hf:P.funcs[f]? =some fn)(hb:fn.body=some (fi_ T E I B F V))(hname:(fn.name== "runtime.NumGoroutine")=false)(hd:jK_ fn.ntmps (fi_ T E I B F V)=true)(hl:2<=fn.ntmps)(hr:fn.results= #[.tmp 4])
  (hE:ElOK tab T E n) (hkE:(tab E).kind= .struct) {α:Type} (enc:α->List D) (hn:∀x,(enc x).length=n) (pr:α->Bool) {g:FuncId} {caps:List AV} {ids:List Nat} {hp0:Hp} {b:Bool} (S:α->Prop) (hP:PrdOK P g caps (fun x=>.d (.ag (enc x)) b) S pr ids hp0) (xs:List α) (hS:∀x∈xs,S x) (hx:xs.length<4611686018427387904) (nx:Nat):
  ∃nx',nx<=nx'/\∀hp:Hp,(∀i∈ids,hp i=hp0 i)->InlOK P f [.d (.sl (xs.map enc)) b,.fn g caps] hp nx fun v hp2 nx2=>v= .v (.int .i64 (idxB pr xs 0))/\hp2=hp/\nx2=nx':=by
 refine⟨ixNx pr hP.nx xs (nx+4),Nat.le_trans (by omega) (nO_ hP.le xs (nx+4)),fun hp hh=> ?_⟩;refine InlOK.up (qN_ ht hm hf hb hname hd (by simpa using hl) ?_);rw[hr];unfold fi_;have e1:=hE.sl;have e2:=hE.el;have e3:=hE.ok;have e4:=hE.size;simp -implicitDefEqProofs only[go_sem,Nat.reduceAdd,reduceCtorEq, ↓reduceIte,e1]
 refine nz_ (α:={ p:Nat × Nat // p.1<=xs.length/\idxB pr (xs.drop p.1) p.1=idxB pr xs 0/\ixNx pr hP.nx (xs.drop p.1) (nx+4+p.2)=ixNx pr hP.nx xs (nx+4) }) [(4,5),(8,18)] (fun p fr=>upd 8 (.v (.int .i64 (p.1.1:Int))) fr) (fun p=>p.1.2) (fun p=>xs.length-p.1.1) ⟨(0,0),by simp⟩ ⟨qa_ (by first |rfl |simp[zz_,yW_]) (cd_ _ _),nq_ _,by simp⟩ ?_
 rintro⟨⟨k,m⟩,hI⟩;simp only at hI;obtain⟨hk1,hk2,hk3⟩:=hI;by_cases hk:k<xs.length
 ·have c1:=ha_ hk
  rw[List.drop_eq_getElem_cons hk] at hk2 hk3;simp only[idxB,ixNx] at hk2 hk3;have tk:(enc xs[k]).take n=enc xs[k]:=List.take_of_length_le (by rw[hn];exact Nat.le_refl _);simp -implicitDefEqProofs only[go_sem,Nat.reduceEqDiff,Nat.reduceAdd,Nat.reduceLeDiff,reduceCtorEq, ↓reduceIte,c1,e1,e2,e3,e4,hkE,at_map hk,hn,tk,Nat.le_refl];refine qe_ ?_
  refine(hP.inl xs[k] (hS _ (List.getElem_mem _)) _ hh).mono fun v2 hp2 nx2 hq=> ?_;obtain⟨rfl,rfl,rfl⟩:=hq;simp -implicitDefEqProofs only[go_sem, ↓reduceIte];refine yP_ (fun h=> ?_) (fun h=> ?_)
  ·rw[if_pos h] at hk2 hk3
   simp -implicitDefEqProofs only[go_sem,Nat.reduceEqDiff,Nat.reduceAdd, ↓reduceIte];exact jM_ (by simp -implicitDefEqProofs only[go_sem, ↓reduceIte]<;>rfl) ⟨_,by rw[<-hk3,show nx+1+3+m+1+2+6=nx+4+m+9 by omega];exact Nat.le_refl _,by rw[hk2],rfl,rfl⟩
  ·rw[if_neg (by simp[h])] at hk2 hk3
   have hle:=hP.le xs[k] (nx+4+m+9);have w1:IntKind.i64.wrap ((k:Int)+1)=((k+1:Nat):Int):=v1_ (by omega);have e6:nx+1+3+m+1+2+6=nx+4+m+9:=by omega
   simp -implicitDefEqProofs only[go_sem,Nat.reduceEqDiff,Nat.reduceAdd, ↓reduceIte,h,w1,e6]
   exact⟨⟨(k+1,hP.nx xs[k] (nx+4+m+9)+2-(nx+4)),⟨by omega,hk2,by simp only;rw[show nx+4+(hP.nx xs[k] (nx+4+m+9)+2-(nx+4))=hP.nx xs[k] (nx+4+m+9)+2 by omega];exact hk3⟩⟩,⟨qa_ (by first |rfl |simp[zz_,yW_]) ((by repeat first |exact ce_ _ _ |refine cf_ rfl ?_)),nq_ _,by simp only;omega⟩,by simp only;omega⟩
 ·have c1:=fg_ (Nat.le_of_not_lt hk)
  rw[List.drop_eq_nil_of_le (by omega)] at hk2 hk3;simp only[idxB,ixNx] at hk2 hk3;simp -implicitDefEqProofs only[go_sem,Nat.reduceEqDiff,Nat.reduceLeDiff, ↓reduceIte,c1];exact jM_ (by simp -implicitDefEqProofs only[go_sem, ↓reduceIte]<;>rfl) ⟨_,Nat.le_of_eq hk3,by rw[hk2],rfl,rfl⟩
theorem ctf_ok (ht:TabOk P tab)(hm:P.follows .mixedOrders=true){f gi:FuncId}{fn:Func}{T E I B F V:Nat}(hf:P.funcs[f]? =some fn)(hb:fn.body=some (fj_ T E I B F V gi))(hname:(fn.name== "runtime.NumGoroutine")=false)(hd:jK_ fn.ntmps (fj_ T E I B F V gi)=true)(hl:2<=fn.ntmps)(hr:fn.results= #[.tmp 4])
  {L:List (List D)} {b:Bool} {g:FuncId} {caps:List AV} {ids:List Nat} {hp0:Hp} {z:Int} (hix:∀nx,∃nx',nx<=nx'/\∀hp:Hp,(∀i∈ids,hp i=hp0 i)->InlOK P gi [.d (.sl L) b,.fn g caps] hp nx fun v hp2 nx2=>v= .v (.int .i64 z)/\hp2=hp/\nx2=nx') (nx:Nat):
  ∃nx',nx<=nx'/\∀hp:Hp,(∀i∈ids,hp i=hp0 i)->InlOK P f [.d (.sl L) b,.fn g caps] hp nx fun v hp2 nx2=>v= .v (.bool (decide (z>=0)))/\hp2=hp/\nx2=nx':=by
 obtain⟨n2,h1,h2⟩:=hix (nx+1+5);refine⟨n2,by omega,fun hp hh=>qN_ ht hm hf hb hname hd (by simpa using hl) ?_⟩;rw[hr];unfold fj_;simp -implicitDefEqProofs only[go_sem,Nat.reduceEqDiff,Nat.reduceAdd,reduceCtorEq, ↓reduceIte];refine qe_ ?_;refine(h2 _ hh).mono fun v2 hp2 nx2 hq=> ?_;obtain⟨rfl,rfl,rfl⟩:=hq;simp -implicitDefEqProofs only[go_sem,Nat.reduceAdd, ↓reduceIte]
 exact jM_ (by simp -implicitDefEqProofs only[go_sem, ↓reduceIte]<;>rfl) ⟨rfl,rfl,rfl⟩
end
end Go.Proofs.YtnmkbmefohakmaaGreat.Ab
namespace Go.Proofs.YtnmkbmefohakmaaGreat.Ab
open Go.RowKit
def vL_ (f:Nat->Nat)(a:Rec):Rec:=⟨a.ids.map f,a.ks.map f,a.g⟩
theorem bj_ {f:Nat->Nat}{xs ys:List Nat}(h:meet xs ys=true):meet (xs.map f) (ys.map f)=true:=by
 unfold meet at h⊢;simp only[List.any_eq_true,List.mem_map,List.contains_iff_mem] at h⊢;obtain⟨i,hi,hk⟩:=h;exact⟨_,⟨i,hi,rfl⟩,⟨i,hk,rfl⟩⟩
theorem sx_ {f:Nat->Nat}{a b:Rec}(ha:a.g=false)(hb:b.g=false)(h:zj_ a b=true):zj_ (vL_ f a) (vL_ f b)=true:=by
 simp only[zj_,zZ_,wild,ha,hb,Bool.or_eq_true,Bool.false_and,Bool.false_eq_true,or_false] at h;apply zk_;simp only[zZ_,Bool.or_eq_true];rcases h with h |h
 ·have:=bj_ (f:=f) h
  rw[List.map_append] at this;exact .inl (.inl this)
 ·exact .inl (.inr (bj_ h))
theorem sy_ {f:Nat->Nat}{ops:Array Oper}{rs:List Rec}(hg:rs.all (fun a=> !a.g)=true)(h:wq_ ops (rs.map (vL_ f))=true):wq_ ops rs=true:=by
 have hg:∀a∈rs,a.g=false:=by simpa using hg
 simp only[wq_,ko_,Bool.and_eq_true,List.all_eq_true] at h⊢;refine⟨h.1,fun j hj i hi=> ?_⟩;have h1:=h.2 j hj i hi;rw[List.getElem?_map,List.getElem?_map] at h1;cases hx:rs[i]? with
 |none=>
  rw[hx] at h1;exact h1
 |some a=>
  cases hy:rs[j]? with
  |none=>
   rw[hx,hy] at h1;exact h1
  |some b=>
   rw[hx,hy] at h1;simp only[Option.map_some] at h1⊢;cases hc:zj_ a b with
   |false=>
    rw[Bool.or_eq_true] at h1⊢;rcases h1 with h1 |h1
    ·exact .inl h1
    ·refine .inr ?_
     rw[Bool.and_eq_true] at h1⊢;exact⟨h1.1,rfl⟩
   |true=>
    rw[sx_ (hg a (List.mem_of_getElem? hx)) (hg b (List.mem_of_getElem? hy)) hc] at h1;simpa using h1
def nw (nx i:Nat):Nat:=i+1-nx
theorem th_ {nx i:Nat}(h:i<nx):nw nx i=0:=by
 unfold nw;omega
theorem pJ_ {nx:Nat}:nw nx nx=1:=by
 unfold nw;omega
theorem x2_ {P:Program}{tab:Nat->TI}{ops:Array Oper}{nx0 nx i:Nat}{k:List It}{Q:Ex->St->Prop}{acc:List Rec}{fr:Fr}{hp:Hp}(f:Nat->Nat)(rs:List Rec)(hr:acc.reverse.map (vL_ f)=rs)(h1:yM_ ops rs=true)(hg:acc.reverse.all (fun a=> !a.g)=true)(h2:run P tab k Q ⟨fr,hp,nx⟩):Rd P tab ops nx0 nx k Q i [] acc fr hp:=
 ⟨sy_ hg (wM_ (hr▸h1)),h2⟩
abbrev NodeAt (es:List (Value × AV))(r:GRef)(id:Nat):Prop:=j6_ (true,[.string,.string,.string]) (.agg #[.string r.obj.type_,.string r.obj.id_,.string r.rel]) (.v (.pointer none)) false es=some (.pt id 0,[])
theorem jQ_ {hp:Hp}{nx i:Nat}{o:AO}(hf:∀j,nx<=j->hp j=none)(h:hp i=some o):(i=nx)=False:=eq_false fun e=>by
 have:=hf i (by omega)
 rw[h] at this;cases this
theorem bk_ {hp:Hp}{nx:Nat}{x:Option AO}(hf:∀j,nx<=j->hp j=none):Less hp (upd nx x hp):=⟨fun i=>by
 by_cases h:i=nx
 ·subst h
  exact .inl (hf i (Nat.le_refl _))
 ·exact .inr (by simp[upd,h])⟩
theorem any1 {hp:Hp}{nx q c m id:Nat}{r:GRef}{b:Bool}{g o rk dp ab:AV}{s1 s2 s3:AV}{es:List (Value × AV)}{dl is:Bool}
  (hc:hp c=some (.bx [.pt q 0])) (hq:hp q=some (.bx [g,s1,s2,s3,.mo m,o])) (hm:hp m=some (.mo es dl)) (hl:NodeAt es r id)
  (hn:hp id=some (.bx [rk,dp,ab,.v (.bool is)])):
  InlOK Tryz.prog 149 [.d (.ag (eGRef r)) b,.pt c 0] hp nx fun v hp2 nx2=>v= .v (.bool is)/\hp2=hp/\nx2=nx+12:=by
 refine InlOK.fresh (fun hf=> ?_) ⟨Tryz.f149,Tryz.func149,by kernel_rfl,by kernel_rfl⟩;refine InlOK.up (qN_ qf_ fol Tryz.func149 (by rfl) (by kernel_rfl) (by kernel_rfl) (by exact Nat.le_of_ble_eq_true rfl) ?_);have w:=And.intro (jQ_ hf hc) (And.intro (jQ_ hf hq) (And.intro (jQ_ hf hm) (And.intro (jQ_ hf hn) (And.intro hc (And.intro hq (And.intro hm (And.intro hl hn)))))));refine Z1 w ?_
 refine qj_ (by rfl) ?_;refine Z1 w ?_;exact⟨_,hp,rfl,bk_ hf,nx+12,Nat.le_refl _,rfl,rfl,rfl⟩
theorem sz_ {hp:Hp}{q c m:Nat}{g o:AV}{s1 s2 s3:AV}{es:List (Value × AV)}{dl b:Bool}{is:GRef->Bool}{ids:List Nat}
  (hc:hp c=some (.bx [.pt q 0])) (hq:hp q=some (.bx [g,s1,s2,s3,.mo m,o])) (hm:hp m=some (.mo es dl)):
  PrdOK Tryz.prog 149 [.pt c 0] (fun r:GRef=>.d (.ag (eGRef r)) b) (fun r=>∃id rk dp ab,NodeAt es r id/\hp id=some (.bx [rk,dp,ab,.v (.bool (is r))])/\id∈ids) is (c::q::m::ids) hp:=by
 rintro r ⟨id,rk,dp,ab,hl,hn,hi⟩ nx;refine⟨nx+12,by omega,fun hp1 h1=> ?_⟩;exact any1 (by rw[h1 c (by simp)];exact hc) (by rw[h1 q (by simp)];exact hq) (by rw[h1 m (by simp)];exact hm) hl (by rw[h1 id (by simp[hi])];exact hn)
theorem el_ref:ElOK tab 81 120 3:=⟨by simp only[go_sem],by simp only[go_sem],by simp only[go_sem],by simp only[go_sem],.inl (by simp only[go_sem])⟩
theorem cV_ {S:GRef->Prop}{pr:GRef->Bool}{g:FuncId}{caps:List AV}{ids:List Nat}{hp0:Hp}(b:Bool)(hP:PrdOK Tryz.prog g caps (fun x=>.d (.ag (eGRef x)) b) S pr ids hp0)(xs:List GRef)(hS:∀x∈xs,S x)(hx:xs.length<4611686018427387904)(nx:Nat):
  ∃nx',nx<=nx'/\∀hp:Hp,(∀i∈ids,hp i=hp0 i)->InlOK Tryz.prog 148 [.d (.sl (xs.map eGRef)) b,.fn g caps] hp nx fun v hp2 nx2=>v= .v (.bool (xs.any pr))/\hp2=hp/\nx2=nx':=by
 rw[<-hg_ pr xs 0];exact ctf_ok qf_ fol (T:=81) (E:=120) (I:=3) (B:=0) (F:=150) (V:=4) Tryz.func148 rfl (by kernel_rfl) (by kernel_rfl) (by decide) rfl
  (fun nx=>h7_ qf_ fol (T:=81) (E:=120) (I:=3) (B:=0) (F:=150) (V:=4) (n:=3) Tryz.func102 rfl (by kernel_rfl) (by kernel_rfl) (by decide) rfl el_ref (by simp only[go_sem]) eGRef (fun _=>rfl) pr S hP xs hS hx nx) nx
theorem qm_ {hp:Hp}{nx i:Nat}{o:AO}(hf:∀j,nx<=j->hp j=none)(h:hp i=some o):i<nx:=by
 rcases Nat.lt_or_ge i nx with h1 |h1
 ·exact h1
 ·have:=hf i h1
  rw[h] at this;cases this
theorem ti_ {hp:Hp}{nx q m:Nat}{l:List GRef}{b:Bool}{g o:AV}{s1 s2 s3:AV}{es:List (Value × AV)}{dl:Bool}{is:GRef->Bool}(hf:∀j,nx<=j->hp j=none)
  (hq:hp q=some (.bx [g,s1,s2,s3,.mo m,o])) (hm:hp m=some (.mo es dl)) (hN:∀r∈l,∃id rk dp ab,NodeAt es r id/\hp id=some (.bx [rk,dp,ab,.v (.bool (is r))])) (hx:l.length<4611686018427387904):
  ∃nx',nx<=nx'/\InlOK Tryz.prog 127 [.pt q 0,.d (.sl (l.map eGRef)) b] hp nx fun v hp2 nx2=>v= .v (.bool (l.any is))/\hp2=hp/\nx2=nx':=by
 have old:∀ {i:Nat} {o:AO} (x:Option AO),hp i=some o->upd nx x hp i=some o:=fun{i o} x h=>by
  rw[qb_ _ _ (by have:=qm_ hf h;omega)];exact h
 obtain⟨nx',h1,h2⟩:=cV_ b (sz_ (hp:=upd nx (some (.bx [.pt q 0])) hp) (is:=is) (b:=b) (ids:=List.range nx) (qd_ ..) (old _ hq) (old _ hm)) l (fun r hr=>by
  obtain⟨id,rk,dp,ab,e1,e2⟩:=hN r hr;exact⟨id,rk,dp,ab,e1,old _ e2,List.mem_range.2 (qm_ hf e2)⟩) hx (nx+2+4)
 refine⟨nx',by omega,?_⟩;refine qN_ qf_ fol Tryz.func127 (by rfl) (by kernel_rfl) (by kernel_rfl) (by exact Nat.le_of_ble_eq_true rfl) ?_;refine Z0 ?_;refine qe_ (InlOK.mono (h2 _ fun _ _=>rfl) fun v hp2 nx2 h=> ?_);obtain⟨rfl,rfl,rfl⟩:=h;refine Z0 ?_;exact⟨_,hp,rfl,bk_ hf,rfl,rfl,rfl⟩
end Go.Proofs.YtnmkbmefohakmaaGreat.Ab
