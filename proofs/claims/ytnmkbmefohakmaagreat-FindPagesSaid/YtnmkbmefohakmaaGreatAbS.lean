/-
 Sorts.
-/
import Derived.Test.YtnmkbmefohakmaaGreatSky
import Derived.Test.YtnmkbmefohakmaaGreatWlu
import Derived.Shelf.Small.Strs
import Derived.Shelf.SlSortCmp.NoneTotal
namespace Go.Proofs.YtnmkbmefohakmaaGreat.Ab
open Go.RowKit
theorem ur_ {nw:List PN->GRef->Option Bool}{P:List PN}(hnd:(P.map (·.k)).Nodup)(hP:∀p∈P,∀x∈p.above,x∈P.map (·.k))(hnw:∀S r,r∈P.map (·.k)->∃b,nw (x5_ S P) r=some b)(k:Int):
  ∀(f:Nat) (S:GRef->Bool) (w:List GRef),(∀r∈w,r∈P.map (·.k))->w.length+owed P S<f->w.length+owed P S<=4294967296->∃S',uU_ nw k f (x5_ S P) w=some (x5_ S' P)/\owed P S'<=owed P S
 |0,_,_,_,h,_=>absurd h (Nat.not_lt_zero _)
 |f+1,S,[],_,_,_=>⟨S,rfl,Nat.le_refl _⟩
 |f+1,S,r::w,hw,hf,hb=>by
  have hrK:=hw r (List.mem_cons_self ..);obtain⟨p,hp⟩:=xo_ hrK;obtain⟨hpm,hpk⟩:=zr_ hp;have hab:=hP p hpm;simp only[List.length_cons] at hf hb;have hw2:∀x∈w,x∈P.map (·.k):=fun x hx=>hw x (List.mem_cons_of_mem _ hx)
  have e0:jd_ r (x5_ S P)=some { p with is:=S p.k }:=by rw[yj_,hp];rfl
  have ih:=ur_ hnd hP hnw k f S w hw2 (by omega) (by omega);unfold uU_;rw[e0,Zo];split
  ·exact ih
  ·cases hs:S p.k with
   |true=>
    rw[if_pos rfl];exact ih
   |false=>
    obtain⟨b,hb1⟩:=hnw S r hrK;rw[if_neg (by simp),hb1,Zo];cases b with
    |false=>
     rw[if_neg (by simp)];exact ih
    |true=>
     rw[if_pos rfl];have ho:=sF_ hnd hpm hs;rw[if_pos (show w.length+p.above.length<=4294967296 by omega),sE_];rw[hpk] at ho;obtain⟨S',q1,q2⟩:=ur_ hnd hP hnw k f (fun x=>S x||r==x) (p.above.reverse++w) (fun x hx=>by
      rcases List.mem_append.1 hx with h |h
      ·exact hab x (List.mem_reverse.1 h)
      ·exact hw2 x h) (by rw[List.length_append,List.length_reverse];omega) (by rw[List.length_append,List.length_reverse];omega)
     exact⟨S',q1,by omega⟩
theorem dG_ {nw:List PN->GRef->Option Bool}{P:List PN}{f:Nat}(hnd:(P.map (·.k)).Nodup)(hP:∀p∈P,∀x∈p.above,x∈P.map (·.k))(hnw:∀S r,r∈P.map (·.k)->∃b,nw (x5_ S P) r=some b):
  ∀(l:List GRef) (S:GRef->Bool),(∀r∈l,r∈P.map (·.k))->1+owed P S<f->1+owed P S<=4294967296->∃S',dC_ nw f l (x5_ S P)=some (x5_ S' P)
 |[],S,_,_,_=>⟨S,rfl⟩
 |r::l,S,hl,hf,hb=>by
  obtain⟨p,hp⟩:=xo_ (hl r (List.mem_cons_self ..));have e0:jd_ r (x5_ S P)=some { p with is:=S p.k }:=by rw[yj_,hp];rfl
  unfold dC_;rw[e0,Zo];obtain⟨S1,q1,q2⟩:=ur_ hnd hP hnw p.rank f S [r] (fun x hx=>by rw[List.mem_singleton.1 hx];exact hl r (List.mem_cons_self ..)) (by simp only[List.length_singleton];omega) (by simp only[List.length_singleton];omega);rw[q1,Zo];exact dG_ hnd hP hnw l S1 (fun x hx=>hl x (List.mem_cons_of_mem _ hx)) (by omega) (by omega)
theorem pR_ {n:Nat}{G:SeekGraph}{o:GObj}{rel:ByteArray}{s:GSub}{U:List GRef}{D:GRef->List GRef}{rk:GRef->Int}(hU:U.Nodup)(hl:U.length<=1000000)(hr:(⟨o,rel⟩:GRef)∈U)(hnd:∀r∈U,bo_ n G r=some (rk r,D r))(hD:∀r∈U,∀d∈D r,d∈U)(ht:total D U<=1000000000)(hn:2000000000<n)
  (hnw:∀(K:List GRef) (S:GRef->Bool) (N:List PN),(∀r∈K,r∈U)->N.map (·.k)=K->(∀p∈N,p.deps=D p.k/\p.is=S p.k)->(∀r∈K,∀d∈D r,d∈K)->∀r∈K,∃b,nowM n G s N r=some b):
  ∃b,xA_ n G o rel s=some b:=by
 have hun:uu_ D U []<=total D U:=by
  unfold uu_ total;rw[show(U.filter fun r=>decide (r∉([]:List PN).map (·.k)))=U from List.filter_eq_self.2 fun _ _=>by simp]
  exact Nat.le_refl _
 obtain⟨K,k1,k2,k3,_,k5,k6,_⟩:=wA_ (nd:=bo_ n G) hU (by omega) hnd hD n [] [⟨o,rel⟩] List.nodup_nil (fun _ h=>nomatch h) (fun r h=>by rw[List.mem_singleton.1 h];exact hr) (by simp only[List.length_singleton,List.map_nil];omega) (by simp only[List.length_singleton,List.map_nil];omega);have k6:=k6 fun _ h=>nomatch h;have k5:=k5 _ (List.mem_singleton.2 rfl)
 have hkk:(K.map (mkP rk D)).map (·.k)=K:=by simp[mkP,Function.comp_def]
 have htK:=Nat.le_trans (dK_ (D:=D) k2 k3) ht;have e2:aboM K (K.map (mkP rk D))=some (addL (vs_ D K) (K.map (mkP rk D))):=dJ_ D K _ (by rw[hkk];exact fun _ h=>h) (fun p hp=>by
  obtain⟨r,hr,rfl⟩:=List.mem_map.1 hp;rw[hkk];exact⟨rfl,k6 r hr⟩) fun p hp=>by
  obtain⟨r,hr,rfl⟩:=List.mem_map.1 hp;simp only[mkP,List.length_nil];omega
 obtain⟨P,eP⟩:∃P,P=addL (vs_ D K) (K.map (mkP rk D)):=⟨_,rfl⟩;have hPk:P.map (·.k)=K:=by rw[eP,pS_,hkk]
 have hPm:∀p∈P,p.k∈K/\p=⟨p.k,rk p.k,D p.k,vs_ D K p.k,false⟩:=fun p hp=>by
  rw[eP] at hp;obtain⟨q,hq,rfl⟩:=List.mem_map.1 hp;obtain⟨r,hr,rfl⟩:=List.mem_map.1 hq;exact⟨hr,rfl⟩
 have hPis:P=x5_ (fun _=>false) P:=by
  unfold x5_;refine((List.map_congr_left fun p hp=> ?_).trans (List.map_id _)).symm
  have:=(hPm p hp).2
  rw[this];rfl
 have hKl:K.length<=1000000:=Nat.le_trans (uv_ k2 k3) hl;obtain⟨ord,o1,o2,o3⟩:=pZ_ (F:=n) (sG_ (pN_ P)) K (by omega) (by omega);have oK:∀r∈ord,r∈K:=fun r hr=>o2.mem_iff.1 hr;have how:owed P (fun _=>false)<=1000000000:=by
  unfold owed;rw[show(P.filter fun p=> !(fun _=>false) p.k)=P from List.filter_eq_self.2 fun p _=>rfl];have h1:(P.map fun p=>p.above.length)=K.map fun x=>(vs_ D K x).length:=by
   rw[<-hPk,List.map_map];refine List.map_congr_left fun p hp=> ?_
   have:=(hPm p hp).2
   simp only[Function.comp];rw[hPk];exact congrArg (fun q:PN=>q.above.length) this
  rw[h1];exact Nat.le_trans (uw_ k2) htK
 obtain⟨S,r1⟩:=dG_ (f:=n) (nw:=nowM n G s) (P:=P) (by rw[hPk];exact k2) (fun p hp x hx=>by
  obtain⟨h1,h2⟩:=hPm p hp;rw[h2] at hx;rw[hPk];exact(pU_.1 hx).1) (fun S r hr=>by
  rw[hPk] at hr;refine hnw K S _ k3 (by rw[x5_,List.map_map];exact hPk) (fun p hp=> ?_) k6 r hr;obtain⟨q,hq,rfl⟩:=List.mem_map.1 hp;refine⟨?_,rfl⟩
  have:=(hPm q hq).2
  exact congrArg PN.deps this) ord (fun _=>false) (fun r hr=>by rw[hPk];exact oK r hr) (by omega) (by omega)
 refine⟨S ⟨o,rel⟩,?_⟩;unfold xA_;rw[show([]:List PN)=([]:List GRef).map (mkP rk D) from rfl,k1,Zo,hkk,e2,Zo,<-eP];unfold sortG;rw[List.length_map,if_pos (by omega),hkk,o1,Zo];rw[hPis,r1,Zo,if_neg (by
  cases K with
  |nil=>cases k5
  |cons _ _=>simp),yj_]
 obtain⟨p,hp⟩:=xo_ (N:=P) (r:=⟨o,rel⟩) (by rw[hPk];exact k5);rw[hp];show some (S p.k)=_;rw[(zr_ hp).2]
theorem kb_ {n:Nat}{s:ByteArray}{r:List GType}(h:xI_ n s=some r):PureOK Tryz.prog 8 [D.v (.string s)] (D.sl (r.map eGType)) true:=by
 unfold xI_ at h;obtain⟨y,hy,rfl⟩:=Option.map_eq_some_iff.1 h;refine ZP qf_ fol (rs:= #[.tmp 2]) Tryz.func8 ?_;refine zsq (ZT 1 ?_);refine Z0 ?_;refine zsq (ZT 1 ?_);refine Z0 ?_;refine ZC0 (sk_ hy) ?_;refine Z0 ?_;refine ZT 1 ?_;refine Z0 ?_;exact ZE0
def bt_ (n:Nat)(l:List GType):Option (WellSchema × Int):=match ke_ n l with
 |some (.inl S)=>some (S,0)
 |_=>none
theorem mt_ {n:Nat}{l:List GType}{r:WellSchema × Int}(h:bt_ n l=some r):PureOK Tryz.prog 62 [D.sl (l.map eGType)] (D.tu [D.pt (eWellSchema r.1) 0,D.v (.int .i64 r.2)]) false:=by
 unfold bt_ at h;split at h
 ·rename_i S e
  cases h;exact PureOK.of_A (ds:=[.sl (l.map eGType)]) (dS_ e)
 ·cases h
theorem fz_ {n:Nat}{l:List GType}{rows:List GTuple}{e:Int}(h:ke_ n l=some (.inr e))(he:(e != 0)=true):PureOK Tryz.prog 32 [D.sl (l.map eGType),D.sl (rows.map eGTuple)] (D.tu [.v (.pointer none),D.v (.int .i64 e)]) false:=by
 have hw:PureOK Tryz.prog 62 [D.sl (l.map eGType)] (.tu [.v (.pointer none),.v (.int .i64 e)]) false:=PureOK.of_A (ds:=[.sl (l.map eGType)]) (dS_ h);refine ZP qf_ fol (rs:= #[.tmp 4,.tmp 5]) Tryz.func32 ?_;refine zsq (ZT 1 ?_);refine Z0 ?_;refine zsq (ZT 1 ?_);refine Z0 ?_;refine ZC0 hw ?_;refine Z0 ?_;refine zsq (ZT 1 ?_);refine Z1 he ?_;exact ZE0
end Go.Proofs.YtnmkbmefohakmaaGreat.Ab
namespace Go.Proofs.YtnmkbmefohakmaaGreat.Ab
open Go.Shelf Go.RowKit
def csRen:Go.Shelf.Ren:=⟨fun |213=>138 |265=>155 |n=>n,fun |9=>9 |3=>3 |n=>n,fun |n=>n⟩
theorem csLaid:Lays.n213 Tryz.prog csRen:={
 mixed:=by kernel_rfl
 f213:=Tryz.func138.trans (congrArg some (by kernel_rfl))
 f265:=Tryz.func155.trans (congrArg some (by kernel_rfl))
 t3:=Tryz.underlying3
 a3:=Tryz.isAgg3
 z3:=Tryz.sizeOf3
 v3:=Tryz.zeroValue3
 t9:=Tryz.underlying9
 a9:=Tryz.isAgg9
 z9:=Tryz.sizeOf9
 v9:=Tryz.zeroValue9 }
def cmS (a b:ByteArray):Int:=Lib.compareBytes a.data.toList b.data.toList
def bytealg_CompareString (_n:Nat)(a b:ByteArray):Option Int:=some (cmS a b)
theorem cJ_ {w:World}{I:Nat->Prop}{args:Array Value}{a b:ByteArray}(hs:args.size=2)(h:∀(j:Nat) (x:D),[D.v (.string a),D.v (.string b)][j]? =some x->∃u,args[j]? =some u/\RV1 w I x u):args= #[.string a,.string b]:=by
 obtain⟨u0,e0,r0⟩:=h 0 _ rfl;obtain⟨u1,e1,r1⟩:=h 1 _ rfl;cases(show RC w I (.v (.string a)) u0 from r0);cases(show RC w I (.v (.string b)) u1 from r1);apply Array.ext
 ·simpa using hs
 ·intro j h1 h2
  have:j=0\/j=1:=by
   have:j<2:=by simpa using h2
   omega
  rcases this with rfl |rfl
  ·simpa [h1] using e0
  ·simpa [h1] using e1
theorem z4_ {n:Nat}{a b:ByteArray}{r:Int}(h:bytealg_CompareString n a b=some r):PureOK Tryz.prog 138 [D.v (.string a),D.v (.string b)] (D.v (.int .i64 r)) true:=by
 obtain rfl:=Option.some.inj h;refine⟨⟨_,Tryz.func138,by kernel_rfl,by kernel_rfl⟩,fun w M0 args _ hs h=> ?_⟩;obtain rfl:=cJ_ hs h;refine(Any.bytealg_CompareString csLaid a b w).mono ?_;rintro e w' ⟨rfl,rfl⟩;exact⟨_,rfl,⟨Below.refl _ _,Nat.le_refl _⟩,(.v _ rfl:RC w' _ _ _)⟩
theorem mj_ (a b:ByteArray):decide (cmS a b<0)=tx.lt a b:=by
 have bl_cb:∀a b:List UInt8,Op.bytesLess a b=decide (Lib.compareBytes a b<0):=by
  intro a;induction a with
  |nil=>intro b;cases b<;>simp[Op.bytesLess,Lib.compareBytes]
  |cons a la ih=>
   intro b;cases b with
   |nil=>simp[Op.bytesLess,Lib.compareBytes]
   |cons b lb=>
    have ih:=ih lb;simp only[Op.bytesLess,Lib.compareBytes];by_cases h1:a<b
    ·simp[h1]
    ·by_cases h2:b<a
     ·have h3:a≠b:=by intro e;subst e;exact h1 h2
      simp[h1,h2,h3]
     ·have h3:a=b:=by
       rw[UInt8.lt_iff_toNat_lt] at *;exact UInt8.toNat_inj.1 (by omega)
      subst h3;simp[ih]
 show _=Op.bytesLess a.toList b.toList;rw[Lib.toList_data,Lib.toList_data,bl_cb];rfl
theorem s9_:∀a b:List UInt8,Lib.compareBytes a b= -Lib.compareBytes b a
 |[],[]=>rfl
 |[],_::_=>rfl
 |_::_,[]=>rfl
 |a::la,b::lb=>by
  have ih:=s9_ la lb;simp only[Lib.compareBytes];by_cases h1:a<b
  ·have h2:¬b<a:=by rw[UInt8.lt_iff_toNat_lt] at *;omega
   simp[h1,h2]
  ·by_cases h2:b<a
   ·simp[h1,h2]
   ·simp[h1,h2,ih]
theorem pi_ (a b:ByteArray):cmS a b= -cmS b a:=s9_ _ _
theorem g6_ (a b:ByteArray):cmS a b=0↔a=b:=by
 constructor
 ·intro h
  have h1:=mj_ a b;have h2:=mj_ b a;have h3:=pi_ a b;exact tx.total (h1.symm.trans (decide_eq_false (by omega))) (h2.symm.trans (decide_eq_false (by omega)))
 ·rintro rfl
  have h1:=mj_ a a;rw[tx.irrefl] at h1;have h2:=pi_ a a;have h3:=of_decide_eq_false h1;omega
theorem se_ {a b c:ByteArray}(h1:cmS a b<0)(h2:cmS b c<0):cmS a c<0:=by
 have k1:=mj_ a b;have k2:=mj_ b c;have k3:=mj_ a c;rw[decide_eq_true h1] at k1;rw[decide_eq_true h2] at k2;rw[tx.trans k1.symm k2.symm] at k3;exact of_decide_eq_true k3
def orI:List Int->Int
 |[]=>0
 |x::r=>if x=0 then orI r else x
def cfL (x y:List ByteArray):Int:=orI (List.zipWith cmS x y)
theorem pj_:∀x y,cfL x y= -cfL y x
 |[],[]=>rfl
 |[],_::_=>rfl
 |_::_,[]=>rfl
 |a::x,b::y=>by
  have ih:=pj_ x y;have h:=pi_ a b;unfold cfL at *;simp only[List.zipWith_cons_cons,orI];by_cases h1:cmS b a=0
  ·simp[h,h1,ih]
  ·simp[h,h1]
theorem g7_:∀x y:List ByteArray,x.length=y.length->(cfL x y=0↔x=y)
 |[],[],_=>by simp[cfL,orI]
 |[],_::_,h=>by simp at h
 |_::_,[],h=>by simp at h
 |a::x,b::y,h=>by
  have ih:=g7_ x y (by simpa using h);unfold cfL at *;simp only[List.zipWith_cons_cons,orI,List.cons.injEq];by_cases h1:cmS a b=0
  ·rw[if_pos h1,ih]
   have:=(g6_ a b).1 h1
   simp[this]
  ·have:a≠b:=fun e=>h1 ((g6_ a b).2 e)
   simp[h1,this]
theorem dh_:∀x y z:List ByteArray,x.length=y.length->y.length=z.length->cfL x y<0->cfL y z<0->cfL x z<0
 |[],[],[],_,_,h,_=>by simp[cfL,orI] at h
 |[],_::_,_,h,_,_,_=>by simp at h
 |_::_,[],_,h,_,_,_=>by simp at h
 |_,[],_::_,_,h,_,_=>by simp at h
 |_,_::_,[],_,h,_,_=>by simp at h
 |a::x,b::y,c::z,h1,h2,h3,h4=>by
  have ih:=dh_ x y z (by simpa using h1) (by simpa using h2);unfold cfL at *;simp only[List.zipWith_cons_cons,orI] at *;by_cases e1:cmS a b=0
  ·have e:=(g6_ a b).1 e1
   subst e;rw[if_pos e1] at h3;by_cases e2:cmS a c=0
   ·rw[if_pos e2] at h4⊢
    exact ih h3 h4
   ·rw[if_neg e2] at h4⊢
    exact h4
  ·rw[if_neg e1] at h3
   by_cases e2:cmS b c=0
   ·have e:=(g6_ b c).1 e2
    subst e;rw[if_neg e1];exact h3
   ·rw[if_neg e2] at h4
    have h5:=se_ h3 h4;rw[if_neg (by omega)];exact h5
def linL {α:Type}(f:α->List ByteArray)(hl:∀x y,(f x).length=(f y).length)(hi:∀x y,f x=f y->x=y):Lin α where
 lt x y:=decide (cfL (f x) (f y)<0)
 irrefl x:=decide_eq_false (by have:=(g7_ (f x) (f x) rfl).2 rfl;omega)
 trans h1 h2:=decide_eq_true (dh_ _ _ _ (hl _ _) (hl _ _) (of_decide_eq_true h1) (of_decide_eq_true h2))
 total {x y} h1 h2:=hi _ _ ((g7_ _ _ (hl _ _)).1 (by
  have k1:=of_decide_eq_false h1;have k2:=of_decide_eq_false h2;have k3:=pj_ (f x) (f y);omega))
end Go.Proofs.YtnmkbmefohakmaaGreat.Ab
namespace Go.Proofs.YtnmkbmefohakmaaGreat.Ab
open Go.RowKit
def zs_ (n:Nat)(vals:List Int):Nat->Int->Option ((Unit) ⊕ Int)
 |0,_=>none
 |c+1,t8=>
  (if (decide (t8<(vals.length:Int))) then
   (idx vals t8).bind fun x2=>
   (if (x2 != 0) then
    some (.inr x2)
   else
    zs_ n vals c (IntKind.i64.wrap (t8+1)))
  else
   some (.inl ()))
def dP_ (n:Nat)(vals:List Int):Option Int:=
 (
  zs_ n vals n 0:Option ((Unit) ⊕ Int)).bind fun
  | .inl _=>
   some 0
  | .inr r=>some r
theorem p0_ {n:Nat}{vals:List Int}{r:Int}(H:dP_ n vals=some r):PureOK Tryz.prog 105 [D.sl (List.map eI vals)] (D.v (.int .i64 r)) true:=by
 unfold dP_ at H;refine ZP qf_ fol (rs:= #[.tmp 2]) Tryz.func105 ?_;refine zsq (ZT 1 ?_);refine Z0 ?_;refine zsq (ZT 1 ?_);refine Z0 ?_;refine zsq (zsq ?_);refine ZT 1 ?_;refine Z0 ?_;obtain⟨e_,E1,H2⟩:=zbi H;refine zjn (α:={ y:Unit // e_= .inl y }) (fun |⟨_,_⟩=>⟨upd 3 (.v (.int .i64 0)) noFr,noHp,0⟩) ?_ ?_
 ·refine zbk ?_
  refine zlp (α:={ q:Nat × Int // zs_ n vals q.1 q.2=some e_ }) (fun |⟨⟨c,t8⟩,_⟩=>⟨upd 3 (.v (.int .i64 0)) (upd 6 (.d (.sl (List.map eI vals)) true) (upd 7 (.v (.int .i64 (vals.length:Int))) (upd 8 (.v (.int .i64 t8)) noFr))),noHp,0⟩) (fun q=>q.1.1) ⟨(n,0),E1⟩ ?_ ?_
  ·exact ZR []
  ·rintro⟨⟨c,t8⟩,L3⟩
   rcases c with _ |c
   ·exact Zx L3
   ·unfold zs_ at L3
    try dsimp only at L3
    refine ZT 1 ?_;refine Z0 ?_;rcases zit L3 with⟨c14,H15⟩ |⟨c14,H15⟩
    ·obtain⟨x2,b16,H17⟩:=zbi H15
     obtain⟨h18,h19⟩:=zix b16;try simp only[Int.reduceToNat,Int.toNat_natCast] at h19
     have h20:=qn_ eI h19;refine Z1 (Y3 c14 (zno .i64 h18) h20) ?_;rcases zit H17 with⟨c22,H23⟩ |⟨c22,H23⟩
     ·refine Z1 (Y4 c14 (zno .i64 h18) h20 c22) ?_
      obtain rfl:=Zi H23;obtain rfl:=Zi H2;exact ZE0
     ·refine Z1 (Y4 c14 (zno .i64 h18) h20 c22) ?_
      exact⟨⟨(c,(IntKind.i64.wrap (t8+1))),H23⟩,ZR [],Nat.lt_succ_self _⟩
    ·refine Z1 c14 ?_
     obtain rfl:=Zi H15;exact⟨⟨(),rfl⟩,ZR []⟩
 ·rintro⟨_,he24⟩
  obtain rfl:=he24.symm;try dsimp only at H2
  refine ZT 1 ?_;refine Z0 ?_;obtain rfl:=Zi H2;exact ZE0
def qS_ (n:Nat)(a:ByteArray)(b:ByteArray):Option Int:=
 (bytealg_CompareString n a b).bind fun t7=>
 some t7
theorem jg_ {n:Nat}{a:ByteArray}{b:ByteArray}{r:Int}(H:qS_ n a b=some r):PureOK Tryz.prog 106 [D.v (.string a),D.v (.string b)] (D.v (.int .i64 r)) true:=by
 unfold qS_ at H;refine ZP qf_ fol (rs:= #[.tmp 4]) Tryz.func106 ?_;refine ZT 1 ?_;obtain⟨t7,b1,H2⟩:=zbi H;refine Z0 ?_;refine ZC0 (z4_ b1) ?_;refine Z0 ?_;obtain rfl:=Zi H2;exact ZE0
def zH_ (n:Nat)(a:GTuple)(b:GTuple):Option Int:=
 (qS_ n a.obj.type_ b.obj.type_).bind fun t11=>
 (qS_ n a.obj.id_ b.obj.id_).bind fun t18=>
 (qS_ n a.rel b.rel).bind fun t23=>
 (qS_ n a.sub_.type_ b.sub_.type_).bind fun t30=>
 (qS_ n a.sub_.id_ b.sub_.id_).bind fun t37=>
 (qS_ n a.sub_.rel b.sub_.rel).bind fun t44=>
 (dP_ n [t11,t18,t23,t30,t37,t44]).bind fun t46=>
 some t46
theorem uz_ {n:Nat}{a:GTuple}{b:GTuple}{r:Int}(H:zH_ n a b=some r):PureOK Tryz.prog 120 [D.ag (eGTuple a),D.ag (eGTuple b)] (D.v (.int .i64 r)) true:=by
 unfold zH_ at H;refine ZP qf_ fol (rs:= #[.tmp 4]) Tryz.func120 ?_;refine ZT 1 ?_;obtain⟨t11,b1,H2⟩:=zbi H;refine Z0 ?_;refine ZD0 (jg_ b1) ?_;obtain⟨t18,b3,H4⟩:=zbi H2;refine Z0 ?_;refine ZD0 (jg_ b3) ?_;obtain⟨t23,b5,H6⟩:=zbi H4;refine Z0 ?_;refine ZD0 (jg_ b5) ?_;obtain⟨t30,b7,H8⟩:=zbi H6;refine Z0 ?_;refine ZD0 (jg_ b7) ?_;obtain⟨t37,b9,H10⟩:=zbi H8;refine Z0 ?_
 refine ZD0 (jg_ b9) ?_;obtain⟨t44,b11,H12⟩:=zbi H10;refine Z0 ?_;refine ZD0 (jg_ b11) ?_;obtain⟨t46,b13,H14⟩:=zbi H12;refine Z0 ?_;refine ZD0 (p0_ b13) ?_;refine Z0 ?_;refine qj_ (by kernel_rfl) ?_;refine Z0 ?_;obtain rfl:=Zi H14;exact ZE0
end Go.Proofs.YtnmkbmefohakmaaGreat.Ab

namespace Go.Proofs.YtnmkbmefohakmaaGreat.Ab
open Go.RowKit Lib
section
variable {α:Type}[Inhabited α][DecidableEq α]
def cq (xs:List α)(m:Nat):List α:=compactUpTo xs.toArray m
def yq (xs:List α)(m:Nat):List α:=cq xs m++xs.drop (cq xs m).length
theorem s4_ {xs:List α}(h:0<xs.length):cq xs 1=xs.take 1:=by
 obtain⟨x,r,rfl⟩:∃x r,xs=x::r:=by cases xs with |nil=>simp at h |cons x r=>exact⟨x,r,rfl⟩
 simp[cq,compactUpTo,keeps,List.range_succ]
omit [DecidableEq α] in
theorem tget {xs:List α}{k:Nat}(h:k<xs.length):xs.toArray[k]! =xs[k]:=by simp[h]
theorem cq_eq {xs:List α}{m:Nat}(h:m+1<xs.length)(he:xs[m+1]=xs[m]):cq xs (m+2)=cq xs (m+1):=by
 unfold cq;rw[compactUpTo_succ,keeps_neg (by omega) (by rw[Nat.add_sub_cancel,tget h,tget (by omega),he]),if_neg (by decide),List.append_nil]
theorem cq_ne {xs:List α}{m:Nat}(h:m+1<xs.length)(he:xs[m+1]≠xs[m]):cq xs (m+2)=cq xs (m+1)++[xs[m+1]]:=by
 unfold cq;rw[compactUpTo_succ,keeps_pos (by rw[Nat.add_sub_cancel,tget h,tget (by omega)];exact he),if_pos rfl,tget h]
theorem cq_le (xs:List α):∀m,(cq xs m).length<=m
 |0=>by simp[cq,compactUpTo]
 |m+1=>by
  have:=cq_le xs m
  unfold cq at *;rw[compactUpTo_succ,List.length_append];split<;>simp <;>omega
theorem yq_len {xs:List α}{m:Nat}(h:m<=xs.length):(yq xs m).length=xs.length:=by
 have:=cq_le xs m
 unfold yq;rw[List.length_append,List.length_drop];omega
theorem yq_at {xs:List α}{m j:Nat}(h1:(cq xs m).length<=j)(h2:j<xs.length):(yq xs m)[j]? =some xs[j]:=by
 unfold yq;rw[List.getElem?_append_right h1,List.getElem?_drop,show(cq xs m).length+(j-(cq xs m).length)=j by omega,List.getElem?_eq_getElem h2]
theorem cD_ {xs:List α}{k:Nat}(h:cq xs k=xs.take k)(hk:k<=xs.length):yq xs k=xs:=by
 unfold yq;rw[h,List.length_take,Nat.min_eq_left hk,List.take_append_drop]
theorem n2_ {xs:List α}{m:Nat}(h:cq xs (m+2)=cq xs (m+1)):yq xs (m+2)=yq xs (m+1):=by
 unfold yq;rw[h]
theorem yq_set {xs:List α}{m:Nat}(h:m+1<xs.length)(hl:(cq xs (m+1)).length<xs.length)(he:xs[m+1]≠xs[m]):(yq xs (m+1)).set (cq xs (m+1)).length xs[m+1]=yq xs (m+2):=by
 unfold yq;rw[cq_ne h he,List.set_append_right _ _ (Nat.le_refl _),Nat.sub_self,List.drop_eq_getElem_cons hl,List.set_cons_zero,List.append_assoc,List.length_append,List.length_singleton];rfl
theorem dd_ (xs:List α):cq xs xs.length=compact xs:=rfl
end
theorem bq (a b:ByteArray):(a==b)=decide (a=b):=by
 rw[beq_toListBytes,Bool.eq_iff_iff,beq_iff_eq,decide_eq_true_eq];exact⟨fun h=>uf_ (by simpa [Lib.toList_data] using h),fun h=>by rw[h]⟩
theorem hn_ (x y:GTuple):(x.obj.type_==y.obj.type_&&(x.obj.id_==y.obj.id_&&(x.rel==y.rel&&(x.sub_.type_==y.sub_.type_&&(x.sub_.id_==y.sub_.id_&&(x.sub_.rel==y.sub_.rel))))))=decide (x=y):=by
 obtain⟨⟨_,_⟩,_,⟨_,_,_⟩⟩:=x;obtain⟨⟨_,_⟩,_,⟨_,_,_⟩⟩:=y;simp only[bq,GTuple.mk.injEq,GObj.mk.injEq,GSub.mk.injEq,Bool.decide_and,Bool.and_assoc]
theorem cC_ {i ver:Nat}{br:Bool}(xs:List GTuple)(h0:0<xs.length)(hn:xs.length<=4294967296){hp:Hp}(nx:Nat):
  InlOK Tryz.prog 121 [.so i ver 0 xs.length] (upd i (some (.rw (xs.map eGTuple) 6 ver br false)) hp) nx fun v hp' _=>∃es,(compact xs).length<=es.length/\es.take (compact xs).length=(compact xs).map eGTuple/\v= .so i ver 0 (compact xs).length/\hp'=upd i (some (.rw es 6 ver br false)) hp:=by
 refine qN_ (tab:=tab) qf_ fol Tryz.func121 rfl (by kernel_rfl) (by kernel_rfl) (by simp[Tryz.f121]) ?_;by_cases h1:xs.length<2
 ·have c0:decide ((xs.length:Int)<2)=true:=by simp;omega
  simp -implicitDefEqProofs only[go_sem,Nat.reduceAdd,reduceCtorEq, ↓reduceIte,c0];have e1:compact xs=xs:=by
   have:xs.length=1:=by omega
   rw[<-dd_,this,s4_ h0,<-this,List.take_length]
  refine jM_ (v:=.so i ver 0 xs.length) (by simp -implicitDefEqProofs only[go_sem, ↓reduceIte,Tryz.f121]<;>rfl) ⟨xs.map eGTuple,?_⟩;rw[e1];exact⟨by simp,List.take_of_length_le (by simp),rfl,rfl⟩
 have c0:decide ((xs.length:Int)<2)=false:=by simp;omega
 simp -implicitDefEqProofs only[go_sem,Nat.reduceAdd,reduceCtorEq, ↓reduceIte,c0]
 refine gS_ (fun p:{ p:Nat × Nat // 1<=p.1/\p.1<=xs.length/\cq xs p.1=xs.take p.1 }=>⟨upd 0 (.so i ver 0 xs.length) (upd 3 (.v (.int .i64 (p.1.1:Int))) noFr),upd i (some (.rw (xs.map eGTuple) 6 ver br false)) (hp),p.1.2⟩) (fun p=>xs.length+1-p.1.1) ⟨(1,_),Nat.le_refl _,h0,s4_ h0⟩ ⟨qa_ rfl (qa_ rfl (qh_ _)),(WH.upd (by simp[zz_]<;>rfl) (WH.base fun t ht=>by simp_all [zz_])).all,Nat.le_refl _⟩ ?_
 rintro⟨⟨k,m⟩,hI⟩;simp only at hI;obtain⟨k1,k2,k3⟩:=hI;by_cases hk:k<xs.length
 ·obtain⟨q,rfl⟩:∃q,k=q+1:=⟨k-1,by omega⟩
  have c1:=ha_ hk;have w1:IntKind.i64.wrap (((q+1:Nat):Int)-1)=(q:Int):=by rw[IntWalk.i64_in _ (by omega)];omega
  have w2:IntKind.i64.wrap (((q+1:Nat):Int)+1)=((q+1+1:Nat):Int):=v1_ (by omega);have r1:(xs.map eGTuple)[q+1]? =some (eGTuple xs[q+1]):=by rw[List.getElem?_map,List.getElem?_eq_getElem hk];rfl
  have r2:(xs.map eGTuple)[q]? =some (eGTuple xs[q]):=by rw[List.getElem?_map,List.getElem?_eq_getElem (by omega)];rfl
  have l2:q<xs.length:=by omega
  simp -implicitDefEqProofs only[go_sem,Nat.reduceEqDiff,Nat.reduceAdd,reduceCtorEq, ↓reduceIte,c1,w1,r1,r2,hk,l2];refine qj_ (by rfl) ?_;simp -implicitDefEqProofs only[go_sem, ↓reduceIte];refine yP_ (fun h=> ?_) (fun h=> ?_)
  ·have hd:xs[q+1]=xs[q]:=of_decide_eq_true ((hn_ _ _).symm.trans h)
   have e1:cq xs (q+1+(0+1))=xs.take (q+1):=(cq_eq hk hd).trans k3;have hle:=Nat.le_of_lt hk;simp -implicitDefEqProofs only[go_sem,Nat.reduceEqDiff,Nat.reduceAdd,reduceCtorEq, ↓reduceIte,or_true,hle,hk]
   refine gS_ (fun p:{ p:Nat × Nat × List GTuple × Nat // q+1+(p.1+1)<=xs.length/\p.2.1=(cq xs (q+1+(p.1+1))).length/\p.2.2.1=yq xs (q+1+(p.1+1))/\p.2.1<=q+1+p.1 }=>⟨upd 0 (.so i ver 0 xs.length) (upd 3 (.v (.int .i64 (p.1.2.1:Int))) (upd 4 (.so i ver (q+1) (xs.length-(q+1))) (upd 5 (.v (.int .i64 ((p.1.1+1:Nat):Int))) noFr))),upd i (some (.rw (p.1.2.2.1.map eGTuple) 6 ver br false)) (hp),p.1.2.2.2⟩) (fun p=>xs.length-p.1.1) ⟨(0,q+1,xs,_),by omega,by show q+1=_;rw[e1,List.length_take];omega,((n2_ (cq_eq hk hd)).trans (cD_ k3 k2)).symm,Nat.le_refl _⟩ ⟨qa_ rfl (qa_ rfl (qa_ rfl (qa_ rfl (qh_ _)))),(WH.upd (by simp[zz_]<;>rfl) (WH.base fun t ht=>by simp_all [zz_])).all,Nat.le_refl _⟩ ?_
   rintro⟨⟨t,l,ys,m⟩,hI⟩;simp only at hI;obtain⟨t1,t2,t3,t4⟩:=hI;have hy:ys.length=xs.length:=by rw[t3];exact yq_len t1
   have n3:l<xs.length:=by omega
   by_cases hm:q+1+(t+1)<xs.length
   ·have c2:decide (((t+1:Nat):Int)<((xs.length-(q+1):Nat):Int))=true:=ha_ (by omega)
    have w3:IntKind.i64.wrap (((t+1:Nat):Int)-1)=(t:Int):=by rw[IntWalk.i64_in _ (by omega)];omega
    have n1:t+1<xs.length-(q+1):=by omega
    have n2:t<xs.length-(q+1):=by omega
    have hm2:q+1+t<xs.length:=by omega
    have r3:(ys.map eGTuple)[q+1+(t+1)]? =some (eGTuple xs[q+1+(t+1)]):=by rw[List.getElem?_map,t3,yq_at (by omega) hm];rfl
    have r4:(ys.map eGTuple)[q+1+t]? =some (eGTuple xs[q+1+t]):=by rw[List.getElem?_map,t3,yq_at (by omega) hm2];rfl
    simp -implicitDefEqProofs only[go_sem,Nat.reduceEqDiff,Nat.reduceAdd,reduceCtorEq, ↓reduceIte,c2,w3,r3,r4,n1,n2];refine qj_ (by rfl) ?_;simp -implicitDefEqProofs only[go_sem, ↓reduceIte];have w5:IntKind.i64.wrap (((t+1:Nat):Int)+1)=((t+1+1:Nat):Int):=v1_ (by omega);refine yP_ (fun h=> ?_) (fun h=> ?_)
    ·have hne:xs[q+1+(t+1)]≠xs[q+1+t]:=by
      rw[hn_] at h;simpa using h
     have w4:IntKind.i64.wrap ((l:Int)+1)=((l+1:Nat):Int):=v1_ (by omega);have r5:(ys.map eGTuple)[l]? =some (eGTuple xs[l]):=by rw[List.getElem?_map,t3,yq_at (by omega) n3];rfl
     have r6:(ys.map eGTuple).set l (eGTuple xs[q+1+(t+1)])=(yq xs (q+1+(t+1+1))).map eGTuple:=by
      rw[<-List.map_set,t3,t2];exact congrArg _ (yq_set (m:=q+1+t) hm (by rw[<-show l=(cq xs (q+1+t+1)).length from t2];exact n3) hne)
     simp -implicitDefEqProofs only[go_sem,Nat.reduceEqDiff,Nat.reduceAdd,reduceCtorEq, ↓reduceIte,r3,r5,n1,n3,r6,w4,w5,setL,List.take_zero,List.nil_append,List.length_cons,List.length_nil,List.drop_succ_cons,List.drop_zero,List.drop_nil,List.append_nil]
     have e6:(cq xs (q+1+(t+1+1))).length=l+1:=by rw[show cq xs (q+1+(t+1+1))=_ from cq_ne (m:=q+1+t) hm hne,List.length_append,List.length_singleton,t2];rfl
     exact⟨⟨(t+1,l+1,yq xs (q+1+(t+1+1)),_),by simp only;omega,by simp only;omega,rfl,by simp only;omega⟩,⟨qa_ rfl (qa_ rfl (qa_ rfl (qa_ rfl (qh_ _)))),(WH.upd (by simp[zz_]<;>rfl) (WH.base fun t ht=>by simp_all [zz_])).all,Nat.le_refl _⟩,by simp only;omega⟩
    ·have heq:xs[q+1+(t+1)]=xs[q+1+t]:=by
      rw[hn_] at h;simpa using h
     have e5:cq xs (q+1+(t+1+1))=cq xs (q+1+(t+1)):=cq_eq (m:=q+1+t) hm heq;simp -implicitDefEqProofs only[go_sem,Nat.reduceEqDiff,Nat.reduceAdd,reduceCtorEq, ↓reduceIte,w5]
     exact⟨⟨(t+1,l,ys,_),by simp only;omega,by simp only;rw[e5];exact t2,by simp only;rw[t3];exact(n2_ (m:=q+1+t) e5).symm,by simp only;omega⟩,⟨qa_ rfl (qa_ rfl (qa_ rfl (qa_ rfl (qh_ _)))),(WH.upd (by simp[zz_]<;>rfl) (WH.base fun t ht=>by simp_all [zz_])).all,Nat.le_refl _⟩,by simp only;omega⟩
   ·have em:q+1+(t+1)=xs.length:=by omega
    have hl:l=(compact xs).length:=by rw[t2,em,dd_]
    subst hl;have c2:decide (((t+1:Nat):Int)<((xs.length-(q+1):Nat):Int))=false:=fg_ (by omega);have n4:=Nat.le_of_lt n3;have n5:¬(xs.length-(compact xs).length=0):=by omega
    have n6:(compact xs).length+(xs.length-(compact xs).length)<=xs.length:=by omega
    simp -implicitDefEqProofs only[go_sem,Nat.reduceLT,Nat.reduceEqDiff,Nat.reduceAdd,reduceCtorEq, ↓reduceIte,c2,or_true,true_or,n3,n4,n5,n6,hy,Nat.sub_zero];have hcl:=cq_le xs xs.length;rw[dd_] at hcl;refine jM_ (v:=.so i ver 0 (compact xs).length) (by simp -implicitDefEqProofs only[go_sem, ↓reduceIte,Tryz.f121]<;>rfl) ⟨_,?_,?_,rfl,qI_ _ _ _ _⟩
    ·simp only[List.length_append,List.length_take,List.length_map,List.length_replicate,hy]
     omega
    ·rw[List.append_assoc,List.take_append_of_le_length (by rw[List.length_take,List.length_map,hy];omega),List.take_take,Nat.min_self,<-List.map_take,t3,em]
     unfold yq;rw[dd_,List.take_left]
  
  ·have hd:xs[q+1]≠xs[q]:=of_decide_eq_false ((hn_ _ _).symm.trans h)
   simp -implicitDefEqProofs only[go_sem,Nat.reduceEqDiff,Nat.reduceAdd,reduceCtorEq, ↓reduceIte,w2];exact⟨⟨(q+1+1,_),by omega,by omega,by rw[cq_ne hk hd,k3,List.take_append_getElem]⟩,⟨qa_ rfl (qa_ rfl (qh_ _)),(WH.upd (by simp[zz_]<;>rfl) (WH.base fun t ht=>by simp_all [zz_])).all,Nat.le_refl _⟩,by simp only;omega⟩
 ·have e1:k=xs.length:=by omega
  have c1:decide ((k:Int)<(xs.length:Int))=false:=by simp;omega
  simp -implicitDefEqProofs only[go_sem,Nat.reduceEqDiff,Nat.reduceAdd,reduceCtorEq, ↓reduceIte,c1];have e2:compact xs=xs:=by
   rw[<-dd_,<-e1,k3,e1,List.take_length]
  refine jM_ (v:=.so i ver 0 xs.length) (by simp -implicitDefEqProofs only[go_sem, ↓reduceIte,Tryz.f121]<;>rfl) ⟨xs.map eGTuple,?_⟩;rw[e2];exact⟨by simp,List.take_of_length_le (by simp),rfl,rfl⟩
end Go.Proofs.YtnmkbmefohakmaaGreat.Ab
namespace Go.Proofs.YtnmkbmefohakmaaGreat.Ab
open Go.RowKit Go.Sort Go.Proofs
theorem fk_ {w w':World}(h:Below w.heap.size w w')(hd:w.drawn<=w'.drawn):∃q os,w'=grow (w.drewN q) os:=by
 refine⟨w'.drawn-w.drawn,w'.heap.extract w.heap.size w'.heap.size,?_⟩;have h1:=h.os;have h2:=h.tape;have h3:=h.output;have h4:=h.size;have h5:=h.block;obtain⟨hp,tp,dr,os,out⟩:=w;obtain⟨hp',tp',dr',os',out'⟩:=w';simp only at h1 h2 h3 h4 h5 hd;subst h1;subst h2;subst h3;simp only[grow,World.drewN,World.mk.injEq,true_and,and_true];refine⟨?_,by omega⟩
 apply Array.ext_getElem?;intro k;rw[Array.getElem?_append];split
 ·rename_i hk
  exact h5 k hk
 ·rename_i hk
  rw[Array.getElem?_extract];split
  ·rw[show hp.size+(k-hp.size)=k by omega]
  ·rw[Array.getElem?_eq_none (by omega)]
theorem h8_ {α:Type}[Inhabited α]{d d':Array α}(h:PermIn 0 d.size d d'):d'.toList.Perm d.toList:=by
 obtain⟨h1,_,h2⟩:=h;have e1:d'.extract 0 d.size=d':=by rw[<-h1];exact Array.extract_size
 have e2:d.extract 0 d.size=d:=Array.extract_size;rwa [e1,e2] at h2
theorem b7_ {α:Type}[Inhabited α]{lt:α->α->Bool}{d:Array α}(h:SortedIn lt 0 d.size d):d.toList.Pairwise fun a b=>lt b a=false:=by
 rw[List.pairwise_iff_getElem];intro i j hi hj hij
 have:=h i j (Nat.zero_le _) hij (by simpa using hj)
 simpa [getElem!_pos,show i<d.size by simpa using hi,show j<d.size by simpa using hj] using this
section
variable {P:Program}{ρ:Go.Shelf.Ren}
def El (β:Type)(encD:β->List D)(k:Nat)(w:World)(I:Nat->Prop):Type:=
 { p:β × List Value // p.2.length=k/\∀(j:Nat) (d:D),(encD p.1)[j]? =some d->∃u,p.2[j]? =some u/\RC w I d u }
theorem r2_ (L:Go.Proofs.SlLaysF0.n6 P ρ){k:Nat}(aE:∀w,(isAgg (ρ.t 24)).run P w= .ok true w)(zE:∀w,(Go.sizeOf (ρ.t 24)).run P w= .ok k w){β:Type}(encD:β->List D)(hk:∀x,(encD x).length=k)(cf:β->β->Int)(hO:SWO (ltOf cf))
  {f:FuncId} (hf:ρ.f 6=f) (hE:vn_ P f) {g:FuncId} {fr:Bool} (eg:∀args w,(callFunc g args).run P w= .ok (.enter g args) w) (hc:∀x y,PureOK P g [.ag (encD x),.ag (encD y)] (.v (.int .i64 (cf x y))) fr)
  (xs:List β) (hx:xs≠[]) (hn:xs.length<4611686018427387904) {id ver:Nat} {br:Bool} {hp:Hp} {nx:Nat} (hi:hp id=some (.rw (xs.map encD) k ver br false)):
  InlOK P f [.so id ver 0 xs.length,.fn g []] hp nx fun v hp2 nx2=>v= .tu []/\nx2=nx/\∃ys:List β,ys.Perm xs/\(ys.Pairwise fun a b=>ltOf cf b a=false)/\hp2=upd id (some (.rw (ys.map encD) k ver br false)) hp:=by
 subst hf;refine⟨hE,fun gh c args hhp hkn hr hsz hargs=> ?_⟩;rw[<-hhp] at hi;obtain⟨hk0,hz,T,vs,C,h3,h4,h5,h6,h7⟩:=hr.obj id _ hi;rw[List.length_map] at h5;obtain⟨hkn1,hgb,hgs⟩:=hr.dom id _ hi;obtain⟨u0,a0,b0⟩:=hargs 0 _ rfl;obtain⟨u1,a1,b1⟩:=hargs 1 _ rfl;have hblk:∃C',u0= .slice (some ⟨c.φ id,0,none⟩) xs.length C':=by
  cases(show RA gh c (.so id ver 0 xs.length) u0 from b0) with
  |so _ _ _ _ _ _ _ h=>
   obtain⟨_,cur,T0,C',_,_,e⟩:=(h _ _ _ _ _ hi).2 rfl;exact⟨C',by simpa using e⟩
 obtain⟨C',rfl⟩:=hblk;have hu1:u1= .func (.func g) #[] #[]:=by
  cases(show RA gh c (.fn g []) u1 from b1) with
  |fn _ _ us n hn' _=>
   simp only[List.length_nil] at hn';subst hn';rfl
 subst hu1;have hargs2:args= #[.slice (some ⟨c.φ id,0,none⟩) xs.length C',.func (.func g) #[] #[]]:=by
  have hsz2:args.size=2:=by simpa using hsz
  apply Array.ext
  ·simpa using hsz2
  ·intro j h1 h2
   have hj:j=0\/j=1:=by omega
   rcases hj with rfl |rfl
   ·simpa [h1] using a0
   ·simpa [h1] using a1
 subst hargs2;let I:Nat->Prop:=Im gh c br
 have hIb:∀b,I b->b≠c.φ id/\b<c.w.heap.size:=fun b hb=>⟨fun e=>hb.2.2.1 id _ hi rfl e.symm,hb.1⟩;let α:=El β encD k c.w I
 have hel:∀i:Fin xs.length,∃x:α,x.1.1=xs[i]/\∀j,j<k->vs[i.1*k+j]? =x.1.2[j]? :=by
  intro i;have hxi:(xs.map encD)[i.1]? =some (encD xs[i]):=by simp
  have hkk:=hk xs[i];have hget:∀j:Fin k,∃u,vs[i.1*k+j.1]? =some u/\∀d,(encD xs[i])[j.1]? =some d->RC c.w I d u:=fun j=>by
   obtain⟨u,e1,e2⟩:=h7 i.1 j.1 _ ((encD xs[i])[j.1]'(by rw[hkk];exact j.2)) hxi (List.getElem?_eq_getElem _);refine⟨u,e1,fun d hd=> ?_⟩;rw[List.getElem?_eq_getElem (by rw[hkk];exact j.2)] at hd;cases hd;exact e2
  have hch:∃us:Fin k->Value,∀j:Fin k,vs[i.1*k+j.1]? =some (us j)/\∀d,(encD xs[i])[j.1]? =some d->RC c.w I d (us j):=⟨fun j=>(hget j).choose,fun j=>(hget j).choose_spec⟩;obtain⟨us,hus⟩:=hch;refine⟨⟨(xs[i],List.ofFn us),by simp,fun j d hd=> ?_⟩,rfl,fun j hj=> ?_⟩
  ·have hj:j<k:=by have:=(List.getElem?_eq_some_iff.1 hd).1;simp only[hkk] at this;exact this
   exact⟨us ⟨j,hj⟩,by simp[hj],(hus ⟨j,hj⟩).2 d hd⟩
  ·simp[hj,(hus ⟨j,hj⟩).1]
 have hch2:∃es:Fin xs.length->α,∀i,(es i).1.1=xs[i]/\∀j,j<k->vs[i.1*k+j]? =(es i).1.2[j]? :=⟨fun i=>(hel i).choose,fun i=>(hel i).choose_spec⟩;obtain⟨es,hes⟩:=hch2;have hpos:0<xs.length:=by cases xs with |nil=>exact absurd rfl hx |cons _ _=>simp
 haveI:Inhabited α:=⟨es ⟨0,hpos⟩⟩
 let d:Array α:=Array.ofFn es
 have hds:d.size=xs.length:=by simp[d]
 have hdm:d.toList.map (fun p=>p.1.1)=xs:=by
  apply List.ext_getElem
  ·simp[hds]
  ·intro i h1 h2
   simp[d,(hes ⟨i,h2⟩).1]
 let enc:α->List Value:=fun p=>p.1.2
 have henc:∀x:α,(enc x).length=k:=fun x=>x.2.1;have hone:∀x:α,∀v∈enc x,v.oneCell'=true:=fun x v hv=>by
  obtain⟨j,hj,rfl⟩:=List.getElem_of_mem hv;have hlt:j<(encD x.1.1).length:=by rw[hk,<-x.2.1];exact hj
  obtain⟨u,e1,e2⟩:=x.2.2 j _ (List.getElem?_eq_getElem hlt);rw[List.getElem?_eq_getElem hj] at e1;cases e1;exact e2.one
 let cf':α->α->Int:=fun x y=>cf x.1.1 y.1.1
 have hO':SWO (ltOf cf'):=⟨fun x=>hO.irrefl x.1.1,fun x y z=>hO.trans x.1.1 y.1.1 z.1.1,fun x y z=>hO.ntrans x.1.1 y.1.1 z.1.1⟩;have hH:HoldsK enc k c.w (c.φ id) 0 d:=by
  intro t ht;have ht':t<d.size*k:=by simpa using ht
  have hq:t / k<xs.length:=by rw[<-hds];exact Nat.div_lt_of_lt_mul (by rwa [Nat.mul_comm] at ht')
  have hm:t%k<k:=Nat.mod_lt _ hk0;have e0:t / k*k+t%k=t:=Nat.div_add_mod' t k;have e1:=(hes ⟨t / k,hq⟩).2 (t%k) hm;simp only[e0] at e1;have e2:d[t / k]! =es ⟨t / k,hq⟩:=by simp[d,hq]
  rw[get_flatK enc k d t ht',e2];have hl:t%k<(es ⟨t / k,hq⟩).1.2.length:=by rw[(es ⟨t / k,hq⟩).2.1];exact hm
  rw[List.getElem?_eq_getElem hl] at e1;refine⟨?_,by simp[World.frozen?,h3]⟩;rw[Nat.zero_add];simp only[World.cell?,h3];rw[e1];show some _=some (_root_.id ((es ⟨t / k,hq⟩).1.2[t%k]!));rw[getElem!_pos ((es ⟨t / k,hq⟩).1.2) (t%k) hl];rfl
 have hblkne:∀(m:Nat) (dk:Array α) (os:Array Obj) (b:Nat),I b->(Go.Proofs.sortWorldK enc k c.w (c.φ id) 0 m dk os).heap[b]? =c.w.heap[b]? :=fun m dk os b hb=>by
  obtain⟨n1,n2⟩:=hIb b hb;unfold sortWorldK putRowK;rw[Sort.heap_grow_old _ _ (by simpa [putRow,mapBlock,Sort.ahead] using n2)];simp[putRow,mapBlock,Sort.ahead,Array.getElem?_modify,Ne.symm n1]
 have hsize:∀(m:Nat) (dk:Array α) (os:Array Obj),c.w.heap.size<=(Go.Proofs.sortWorldK enc k c.w (c.φ id) 0 m dk os).heap.size:=fun m dk os=>Go.Proofs.size_sortWorldK_c enc k c.w (c.φ id) 0 m dk os;have hcmp:CmpLays P g #[] enc k cf' (c.φ id) 0 d.size c.w:=by
  intro m os dk hdk x y;have hS:=hsize m dk os;have hB:=hblkne m dk os;generalize sortWorldK enc k c.w (c.φ id) 0 m dk os=W at hS hB;have harg:∀z:α,RV1 W (fun b=>b<W.heap.size/\¬(b=c.φ id)) (.ag (encD z.1.1)) (.agg z.1.2.toArray):=fun z=>by
   refine⟨_,rfl,by simp[z.2.1,hk],fun j dd hd=> ?_⟩;obtain⟨u,e1,e2⟩:=z.2.2 j dd hd;exact⟨u,by simpa using e1,e2.mono hB fun b hb=>⟨Nat.lt_of_lt_of_le (hIb b hb).2 hS,(hIb b hb).1⟩⟩
  have hP:Calls P g (#[.agg (enc x).toArray,.agg (enc y).toArray]++ #[]) W fun e w'=>∃u,e= .returned u/\(Below W.heap.size W w'/\W.drawn<=w'.drawn)/\RV w' (fun k=>k<w'.heap.size/\¬(k=c.φ id)/\(fr=true->W.heap.size<=k)) (.v (.int .i64 (cf x.1.1 y.1.1))) u:=by
   have hb0:∀k,(fun b=>b=c.φ id) k->k<W.heap.size:=fun k hk=>by
    have:k=c.φ id:=hk
    rw[this];exact Nat.lt_of_lt_of_le hgs hS
   have hs0:(#[Value.agg (enc x).toArray,Value.agg (enc y).toArray]++ #[]).size= [D.ag (encD x.1.1),D.ag (encD y.1.1)].length:=by simp
   have ha0:∀(j:Nat) (dd:D),[D.ag (encD x.1.1),D.ag (encD y.1.1)][j]? =some dd->∃u,(#[Value.agg (enc x).toArray,Value.agg (enc y).toArray]++ #[])[j]? =some u/\RV1 W (fun k=>k<W.heap.size/\¬(fun b=>b=c.φ id) k) dd u:=fun j dd hd=>by
    match j,hd with
    |0,hd=>
     have e:dd= .ag (encD x.1.1):=by simpa using hd.symm
     rw[e];exact⟨.agg (enc x).toArray,by simp,harg x⟩
    |1,hd=>
     have e:dd= .ag (encD y.1.1):=by simpa using hd.symm
     rw[e];exact⟨.agg (enc y).toArray,by simp,harg y⟩
    |j+2,hd=>simp at hd
   exact(hc x.1.1 y.1.1).2 W (fun b=>b=c.φ id) _ hb0 hs0 ha0
  refine hP.mono ?_;rintro e w' ⟨u,he,⟨hb,hdr⟩,hv⟩;cases(show RC w' _ (.v (.int .i64 (cf x.1.1 y.1.1))) u from hv);exact⟨he,fk_ hb hdr⟩
 have hcon:=AnyQ.slices_SortFunc L k aE zE enc henc hone cf' hO' g #[] (c.φ id) 0 C' d c.w eg hcmp hH hgs (by rw[hds];exact hn);rw[hds] at hcon;refine hcon.mono ?_;rintro e w' ⟨he,d',n,os,hperm,hsort,rfl⟩;rw[<-hds] at hperm hsort;have hds':d'.size=d.size:=hperm.1;let ys:List β:=d'.toList.map fun p=>p.1.1
 have hyl:ys.length=xs.length:=by simp[ys,hds',hds]
 have hnew:(sortWorldK enc k c.w (c.φ id) 0 n d' os).heap[c.φ id]? =some (.cells (putCells _root_.id 0 (Go.Sort.flatK enc k d') vs) T (0,0)):=by
  unfold sortWorldK putRowK;rw[Sort.heap_grow_old _ _ (by simpa [putRow,mapBlock,Sort.ahead] using hgs)];simp[putRow,mapBlock,Sort.ahead,Array.getElem?_modify,h3,onCells]
 have hbl:∀b,b<c.w.heap.size->b≠c.φ id->(sortWorldK enc k c.w (c.φ id) 0 n d' os).heap[b]? =c.w.heap[b]? :=fun b hb hne=>by
  unfold sortWorldK putRowK;rw[Sort.heap_grow_old _ _ (by simpa [putRow,mapBlock,Sort.ahead] using hb)];simp[putRow,mapBlock,Sort.ahead,Array.getElem?_modify,Ne.symm hne]
 have hcell:∀(i j:Nat) (x:α),d'[i]? =some x->j<k->(putCells _root_.id 0 (Go.Sort.flatK enc k d') vs)[i*k+j]? =x.1.2[j]? :=by
  intro i j x hx2 hj;have hi2:i<d'.size:=(Array.getElem?_eq_some_iff.1 hx2).1;have hlt:i*k+j<d'.size*k:=by
   have:(i+1)*k<=d'.size*k:=Nat.mul_le_mul_right k hi2
   rw[Nat.add_mul,Nat.one_mul] at this;omega
  have hlt2:i*k+j<vs.size:=by
   have:d'.size*k<=C*k:=Nat.mul_le_mul_right k (by omega)
   omega
  simp only[putCells,Array.getElem?_mapIdx,Array.getElem?_eq_getElem hlt2,Option.map_some];rw[if_pos (by simp;exact hlt),Nat.sub_zero,get_flatK enc k d' _ hlt];have e1:(i*k+j) / k=i:=by rw[Nat.mul_comm,Nat.mul_add_div hk0,Nat.div_eq_of_lt hj,Nat.add_zero]
  have e2:(i*k+j)%k=j:=by rw[Nat.mul_comm,Nat.mul_add_mod,Nat.mod_eq_of_lt hj]
  have e3:d'[i]! =x:=by rw[getElem!_pos d' i hi2];exact(Array.getElem?_eq_some_iff.1 hx2).2
  rw[e1,e2,e3];have hl:j<x.1.2.length:=by rw[x.2.1];exact hj
  show some (_root_.id (x.1.2[j]!))=_;rw[getElem!_pos x.1.2 j hl,List.getElem?_eq_getElem hl];rfl
 have hext:Ext c ⟨upd id (some (.rw (ys.map encD) k ver br false)) c.hp,upd id (c.φ id) c.φ,sortWorldK enc k c.w (c.φ id) 0 n d' os,c.kn⟩:=by
  refine Ext.chg hr hi rfl rfl rfl rfl (hsize n d' os) hbl (.inl rfl) (fun _ h=>h) (fun h=>by cases h) (fun es' sz' v' br' fz' e=> ?_) (Nat.le_add_right _ _);cases e;refine⟨_,ver,br,false,rfl,Nat.le_refl _,fun _=>⟨rfl,by simp[hyl],fun cur T0 e0=> ?_⟩⟩;rw[h3] at e0;cases e0;exact⟨_,hnew,by simp[putCells]⟩
 refine⟨.tuple #[],.tu [],⟨upd id (some (.rw (ys.map encD) k ver br false)) c.hp,upd id (c.φ id) c.φ,sortWorldK enc k c.w (c.φ id) 0 n d' os,c.kn⟩,nx,he,⟨rfl,rfl,ys,?_,?_,by simp only[hhp]⟩,rfl,hext,?_,⟨#[],rfl,rfl,fun j x h=>by simp at h⟩,Nat.le_refl _,fun i hi=>.inl hi⟩
 ·have:=(h8_ hperm).map (fun p:α=>p.1.1)
  rwa [hdm] at this
 ·rw[<-hds'] at hsort
  exact List.pairwise_map.2 (b7_ hsort)
 ·refine HR.chg hr hi hext hbl (.inl rfl) (Nat.lt_of_lt_of_le hgs (hsize n d' os)) ⟨hk0,fun i cs hi2=> ?_,T,putCells _root_.id 0 (Go.Sort.flatK enc k d') vs,C,?_,by simp only[putCells,Array.size_mapIdx];exact h4,by simp only[List.length_map];omega,h6,fun i j cs dd hi2 hj=> ?_⟩
  ·rw[List.getElem?_map,Option.map_eq_some_iff] at hi2
   obtain⟨x,_,rfl⟩:=hi2;exact hk x
  ·simp only[qd_]
   exact hnew
  ·rw[List.getElem?_map,Option.map_eq_some_iff] at hi2
   obtain⟨y,e1,rfl⟩:=hi2;have hj2:j<k:=by have:=(List.getElem?_eq_some_iff.1 hj).1;rwa [hk] at this
   simp only[ys,List.getElem?_map,Option.map_eq_some_iff] at e1;obtain⟨p,e1,rfl⟩:=e1;obtain⟨u,e2,e3⟩:=p.2.2 j dd hj;refine⟨u,?_,e3.ext hext⟩;rw[hcell i j p (by simpa using e1) hj2];exact e2
end
end Go.Proofs.YtnmkbmefohakmaaGreat.Ab
