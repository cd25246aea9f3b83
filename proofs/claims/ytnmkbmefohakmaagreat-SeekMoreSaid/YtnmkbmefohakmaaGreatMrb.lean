/-
 The reader of schemas on tokens that are told: names, factors, expressions.
-/
import Derived.Handy
import Derived.Lib.SlicesCompact
import Derived.Lib.Strings
import Derived.Test.YtnmkbmefohakmaaGreatPrv
set_option linter.all false
namespace Go.Proofs.YtnmkbmefohakmaaGreat
open Go.RowKit
structure Lin (α:Type) where
 lt:α->α->Bool
 irrefl:∀x,lt x x=false
 trans:∀ {x y z},lt x y=true->lt y z=true->lt x z=true
 total:∀ {x y},lt x y=false->lt y x=false->x=y
namespace Lin
variable {α:Type}(O:Lin α)
theorem asymm {x y:α}(h:O.lt x y=true):O.lt y x=false:=by
 cases h2:O.lt y x with
 |false=>rfl
 |true=>
  have:=O.trans h h2;rw[O.irrefl] at this;cases this
theorem ne {x y:α}(h:O.lt x y=true):x≠y:=by
 rintro rfl;rw[O.irrefl] at h;cases h
theorem swo:Go.Sort.SWO O.lt where
 irrefl:=O.irrefl
 trans _ _ _:=O.trans
 ntrans x y z h1 h2:=by
  cases h:O.lt x z with
  |false=>rfl
  |true=>
   cases h3:O.lt y x with
   |true=>
    have:=O.trans h3 h;rw[h2] at this;cases this
   |false=>
    have:=O.total h1 h3;subst this;rw[h2] at h;cases h
def Rises (l:List α):Prop:=l.Pairwise fun x y=>O.lt x y=true
theorem ext:∀ {a b:List α},O.Rises a->O.Rises b->(∀x,x∈a↔x∈b)->a=b
 |[],[],_,_,_=>rfl
 |[],y::_,_,_,h=>by
  have:=(h y).2 (List.mem_cons_self ..);cases this
 |x::_,[],_,_,h=>by
  have:=(h x).1 (List.mem_cons_self ..);cases this
 |x::a,y::b,ha,hb,h=>by
  obtain⟨ha1,ha2⟩:=List.pairwise_cons.1 ha;obtain⟨hb1,hb2⟩:=List.pairwise_cons.1 hb;have hxy:x=y:=by
   rcases List.mem_cons.1 ((h x).1 (List.mem_cons_self ..)) with e |e
   ·exact e
   rcases List.mem_cons.1 ((h y).2 (List.mem_cons_self ..)) with e2 |e2
   ·exact e2.symm
   have h1:=hb1 x e;have h2:=ha1 y e2;rw[O.asymm h1] at h2;cases h2
  subst hxy;congr 1;refine ext ha2 hb2 fun z=>⟨fun hz=> ?_,fun hz=> ?_⟩
  ·rcases List.mem_cons.1 ((h z).1 (List.mem_cons_of_mem _ hz)) with e |e
   ·subst e;exact absurd rfl (O.ne (ha1 z hz))
   exact e
  rcases List.mem_cons.1 ((h z).2 (List.mem_cons_of_mem _ hz)) with e |e
  ·subst e;exact absurd rfl (O.ne (hb1 z hz))
  exact e
def ins (x:α):List α->List α
 |[]=>[x]
 |y::l=>if O.lt x y then x::y::l else if O.lt y x then y::ins x l else y::l
theorem mem_ins {x z:α}:∀ {l:List α},z∈O.ins x l↔z=x\/z∈l
 |[]=>by simp[ins]
 |y::l=>by
  have ih:=mem_ins (x:=x) (z:=z) (l:=l);simp only[ins];by_cases h1:O.lt x y=true
  ·simp[h1]
  by_cases h2:O.lt y x=true
  ·simp only[h1,h2,if_true,Bool.false_eq_true,if_false,List.mem_cons,ih];constructor
   ·rintro(h |h |h)<;>simp[h]
   rintro(h |h |h)<;>simp[h]
  have:=O.total (by simpa using h1) (by simpa using h2);subst this;simp[h1]
theorem rises_ins {x:α}:∀ {l:List α},O.Rises l->O.Rises (O.ins x l)
 |[],_=>by simp[ins,Rises]
 |y::l,h=>by
  obtain⟨h1,h2⟩:=List.pairwise_cons.1 h;simp only[ins];by_cases e1:O.lt x y=true
  ·rw[if_pos e1];refine List.pairwise_cons.2 ⟨fun z hz=> ?_,h⟩;rcases List.mem_cons.1 hz with e |e
   ·subst e;exact e1
   exact O.trans e1 (h1 z e)
  rw[if_neg e1];by_cases e2:O.lt y x=true
  ·rw[if_pos e2];refine List.pairwise_cons.2 ⟨fun z hz=> ?_,rises_ins h2⟩;rcases O.mem_ins.1 hz with e |e
   ·subst e;exact e2
   exact h1 z e
  rw[if_neg e2];exact h
def ofL (l:List α):List α:=l.foldr O.ins []
theorem rises_ofL:∀l,O.Rises (O.ofL l)
 |[]=>List.Pairwise.nil
 |_::l=>O.rises_ins (rises_ofL l)
theorem mem_ofL {z:α}:∀ {l:List α},z∈O.ofL l↔z∈l
 |[]=>by simp[ofL]
 |x::l=>by
  have ih:=mem_ofL (z:=z) (l:=l);show z∈O.ins x (O.ofL l)↔_;rw[O.mem_ins,ih,List.mem_cons]
def sub [DecidableEq α](a b:List α):List α:=a.filter fun x=>decide (x∉b)
end Lin
end Go.Proofs.YtnmkbmefohakmaaGreat
namespace Go.Proofs.YtnmkbmefohakmaaGreat
open Go.RowKit
namespace Lin
variable {α:Type}(O:Lin α)
theorem aw [Inhabited α][DecidableEq α](d:Array α)(x:α):∀m,x∈Lib.compactUpTo d m↔∃j,j<m/\d[j]! =x
 |0=>by simp[Lib.compactUpTo]
 |m+1=>by
  have ih:=aw d x m;rw[Lib.compactUpTo_succ,List.mem_append,ih];by_cases hk:Lib.keeps d m=true
  ·rw[if_pos hk,List.mem_singleton];constructor
   ·rintro(⟨j,h1,h2⟩ |h)
    ·exact⟨j,by omega,h2⟩
    exact⟨m,by omega,h.symm⟩
   rintro⟨j,h1,h2⟩;rcases Nat.lt_or_ge j m with h |h
   ·exact .inl ⟨j,h,h2⟩
   have:j=m:=(by omega);subst this;exact .inr h2.symm
  rw[if_neg hk];simp only[List.not_mem_nil,or_false];have h0:m≠0:=by
   rintro rfl;exact hk (by simp[Lib.keeps])
  have he:d[m]! =d[m-1]! :=by
   by_cases e:d[m]! =d[m-1]!
   ·exact e
   exact absurd (Lib.keeps_pos e) hk
  constructor
  ·rintro⟨j,h1,h2⟩;exact⟨j,by omega,h2⟩
  rintro⟨j,h1,h2⟩;rcases Nat.lt_or_ge j m with h |h
  ·exact⟨j,h,h2⟩
  have:j=m:=by omega
  subst this;exact⟨j-1,by omega,by rw[<-he,h2]⟩
theorem compact_rises [Inhabited α][DecidableEq α](d:Array α)(hs:∀i j,i<j->j<d.size->O.lt d[j]! d[i]! =false):∀m,m<=d.size->O.Rises (Lib.compactUpTo d m)
 |0,_=>by simp[Lib.compactUpTo,Rises]
 |m+1,hm=>by
  have ih:=compact_rises d hs m (by omega);rw[Lib.compactUpTo_succ];by_cases hk:Lib.keeps d m=true
  ·rw[if_pos hk];refine List.pairwise_append.2 ⟨ih,List.pairwise_singleton ..,fun x hx y hy=> ?_⟩;rw[List.mem_singleton.1 hy];obtain⟨j,hj,rfl⟩:=(aw d x m).1 hx;cases h1:O.lt d[j]! d[m]! with
   |true=>rfl
   |false=>
    exfalso;have e:=O.total h1 (hs j m hj (by omega));have hne:d[m]! ≠d[m-1]! :=fun e2=>(by rw[Lib.keeps_neg (by omega) e2] at hk;cases hk);rcases Nat.lt_or_ge j (m-1) with h |h
    ·have k1:=hs j (m-1) h (by omega);have k2:=hs (m-1) m (by omega) (by omega);rw[e] at k1;exact hne (O.total k2 k1)
    have:j=m-1:=(by omega);subst this;exact hne e.symm
  rw[if_neg hk,List.append_nil];exact ih
theorem compact_sorted [Inhabited α][DecidableEq α]{l s:List α}(hm:∀x,x∈s↔x∈l)(hs:s.Pairwise fun a b=>O.lt b a=false):Lib.compact s=O.ofL l:=by
 have hs':∀i j,i<j->j<s.toArray.size->O.lt s.toArray[j]! s.toArray[i]! =false:=fun i j h1 h2=>by
  have h3:j<s.length:=by simpa using h2
  have:=List.pairwise_iff_getElem.1 hs i j (by omega) h3 h1;simpa [h3,show i<s.length by omega] using this
 refine O.ext (O.compact_rises _ hs' _ (by simp)) (O.rises_ofL l) fun x=> ?_;rw[O.mem_ofL,<-hm];refine(aw _ x _).trans ⟨?_,fun hx=> ?_⟩
 ·rintro⟨j,hj,rfl⟩
  have:s.toArray[j]! =s[j]:=by simp[hj]
  rw[this];exact List.getElem_mem hj
 obtain⟨j,hj,rfl⟩:=List.getElem_of_mem hx;exact⟨j,hj,by simp[hj]⟩
end Lin
theorem XX {a b:ByteArray}(h:a.data.toList=b.data.toList):a=b:=by
 cases a;cases b;congr;exact Array.toList_inj.1 h
theorem Ge (a b:ByteArray):(a.toList==b.toList)=decide (a=b):=by
 rw[Lib.toList_data,Lib.toList_data,Bool.eq_iff_iff];simp only[beq_iff_eq,decide_eq_true_eq];exact⟨XX,fun h=>by rw[h]⟩
theorem i9:∀a:List UInt8,Op.bytesLess a a=false
 |[]=>rfl
 |a::x=>by simp[Op.bytesLess,i9 x]
theorem jA:∀ {a b c:List UInt8},Op.bytesLess a b=true->Op.bytesLess b c=true->Op.bytesLess a c=true
 |_,[],[],_,h=>by simp[Op.bytesLess] at h
 |[],[],_::_,h,_=>by simp[Op.bytesLess] at h
 |_::_,[],_::_,h,_=>by simp[Op.bytesLess] at h
 |_,_::_,[],_,h=>by simp[Op.bytesLess] at h
 |[],_::_,_::_,_,_=>by simp[Op.bytesLess]
 |a::x,b::y,c::z,h1,h2=>by
  have ih:=jA (a:=x) (b:=y) (c:=z);simp only[Op.bytesLess,Bool.or_eq_true,Bool.and_eq_true,decide_eq_true_eq,beq_iff_eq] at *;rcases h1 with h1 |⟨h1,h3⟩<;>rcases h2 with h2 |⟨h2,h4⟩
  ·left;rw[UInt8.lt_iff_toNat_lt] at *;omega
  ·subst h2;exact .inl h1
  ·subst h1;exact .inl h2
  subst h1;subst h2;exact .inr ⟨rfl,ih h3 h4⟩
theorem jB:∀ {a b:List UInt8},Op.bytesLess a b=false->Op.bytesLess b a=false->a=b
 |[],[],_,_=>rfl
 |[],_::_,h,_=>by simp[Op.bytesLess] at h
 |_::_,[],_,h=>by simp[Op.bytesLess] at h
 |a::x,b::y,h1,h2=>by
  have ih:=jB (a:=x) (b:=y);simp only[Op.bytesLess,Bool.or_eq_false_iff,Bool.and_eq_false_imp,decide_eq_false_iff_not,beq_iff_eq] at *;have e:a=b:=by
   have k1:=h1.1;have k2:=h2.1;rw[UInt8.lt_iff_toNat_lt] at k1 k2;exact UInt8.toNat_inj.1 (by omega)
  subst e;rw[ih (h1.2 rfl) (h2.2 rfl)]
def tx:Lin ByteArray where
 lt a b:=Op.bytesLess a.toList b.toList
 irrefl _:=i9 _
 trans:=jA
 total h1 h2:=by
  have:=jB h1 h2
  rw[Lib.toList_data,Lib.toList_data] at this;exact XX this
namespace Ab
open Go.Sort
end Ab
end Go.Proofs.YtnmkbmefohakmaaGreat
namespace Go.Proofs.YtnmkbmefohakmaaGreat.Ab
open Go.RowKit IntKind
theorem wr {x:Int}(h1: -9223372036854775808<=x)(h2:x<9223372036854775808):i64.wrap x=x:=IntWalk.i64_in _ (by omega)
theorem Xj {k:Nat}(h:k<9223372036854775807:=by omega):i64.wrap ((k:Int)+1)=((k+1:Nat):Int):=SO (by omega)
theorem Xk {a b:Nat}(h:a<b:=by omega):decide ((a:Int)<(b:Int))=true:=by simp;omega
theorem Ql {a b:Nat}(h:b<=a:=by omega):decide ((a:Int)<(b:Int))=false:=by simp;omega
theorem tg (t:Int):i64.wrap (an t 255:Int)=(an t 255:Nat):=SP _ _ (by decide)
theorem Jz {α:Type}{xs:List α}{k:Nat}(h:k<xs.length):C4 xs (k:Int)=some xs[k]:=by rw[Mp,Ld h]
theorem Ef {α:Type}{xs ys:List α}(h:xs.length+ys.length<=4294967296):EA xs ys=some (xs++ys):=if_pos h
theorem VD {α:Type}{xs:List α}{a b:Nat}(h1:a<=b)(h2:b<=xs.length):G6 xs (a:Int) (b:Int)=some ((xs.take b).drop a):=by
 unfold G6;rw[if_pos ⟨by omega,by omega,by omega⟩];rfl
theorem bH (s:ByteArray)(i:Nat):s[i]? =s.data.toList[i]? :=by
 simp[getElem?_def,ByteArray.getElem_eq_getElem_data,ByteArray.size_data]
theorem z7_ (s:ByteArray):s.data.toList.length=s.size:=by simp
theorem Gj {s:ByteArray}{k:Nat}(h:k<s.size):Do s (k:Int)=some ((s.data.toList[k]'(by rw[z7_];exact h)).toNat:Int):=by
 unfold Do;rw[ifp,Lv,bH,Ld (by rw[z7_];exact h)];rfl
theorem Hc {s:ByteArray}{a b:Nat}(h1:a<=b)(h2:b<=s.size):Jd s (a:Int) (b:Int)=some (s.extract a b):=by
 unfold Jd;rw[if_pos ⟨by omega,by omega,by omega⟩];rfl
theorem bI {a b:ByteArray}(h:a.size+b.size<=maxLen):EH a b=some (a++b):=if_pos h
theorem jj {α:Type}{L:Nat->Int->Option (Unit ⊕ Int)}{xs:List α}{P:α->Option Bool}(p:α->Bool)(h0:∀c i,L (c+1) i=if decide (i<(xs.length:Int)) then(C4 xs i).bind fun x=>(P x).bind fun b=>if b then some (.inr i) else L c (i64.wrap (i+1)) else some (.inl ()))
  (hP:∀x∈xs,P x=some (p x)) (hx:xs.length<4611686018427387904):∀(c j:Nat),j<=xs.length->xs.length-j<c->∃r,L c (j:Int)=some r/\(((xs.drop j).any p=true/\∃k:Nat,r= .inr (k:Int))\/((xs.drop j).any p=false/\r= .inl ()))
 |0,_,_,h=>by omega
 |c+1,j,hj,hc=>by
  rw[h0];by_cases hlt:j<xs.length
  ·rw[Xk hlt,if_pos rfl,Jz hlt,NR,hP _ (NV hlt),NR,Ly hlt];cases hp:p xs[j] with
   |true=>exact⟨_,if_pos rfl,.inl ⟨by rw[List.any_cons,hp,Ox],j,rfl⟩⟩
   |false=>
    rw[if_neg (by decide),Xj];obtain⟨r,h1,h2⟩:=jj p h0 hP hx c (j+1) (by omega) (by omega);exact⟨r,h1,by rw[List.any_cons,hp,BT];exact h2⟩
  rw[Ql,if_neg (by decide),Nz (by omega)];exact⟨_,rfl,.inr ⟨rfl,rfl⟩⟩
theorem Xl {α:Type}(O:Lin α)(l:List α):(O.ofL l).length<=l.length:=by
 have ins_len:∀(x:α) (l:List α),(O.ins x l).length<=l.length+1:=fun x l=>by
  induction l with
  |nil=>simp[Lin.ins]
  |cons y r ih=>
   simp only[Lin.ins];split
   ·simp
   split
   ·simp;omega
   simp
 induction l with
 |nil=>simp[Lin.ofL]
 |cons x r ih=>
  have:=ins_len x (O.ofL r);have e:O.ofL (x::r)=O.ins x (O.ofL r):=rfl;rw[e,Lg];omega
theorem VK {α β:Type}{X:Option α}{F:α->Option β}{P:β->Prop}(Q:α->Prop)(h:∃q,X=some q/\Q q)(k:∀q,Q q->∃r,F q=some r/\P r):∃r,X.bind F=some r/\P r:=by
 grind
theorem Xp (n:Nat)(c:Int):∃b,JF n c=some b:=by
 unfold JF;split
 ·split
  ·exact⟨_,rfl⟩
  split
  ·split
   ·exact⟨_,rfl⟩
   exact⟨_,rfl⟩
  exact⟨_,rfl⟩
 split
 ·split
  ·exact⟨_,rfl⟩
  exact⟨_,rfl⟩
 exact⟨_,rfl⟩
theorem kI {n:Nat}{s:ByteArray}(hs:s.size<4611686018427387900):∀(c i:Nat),s.size-i<c->∃r,Xi n s c (i:Int)=some r
 |0,_,h=>absurd h (LK _)
 |c+1,i,hc=>by
  unfold Xi;by_cases h:i<s.size
  ·rw[if_pos Cb,Gj h,Zo];obtain⟨b,hb⟩:=Xp n ((s.data.toList[i]'(by rw[z7_];exact h)).toNat:Int);rw[hb,Zo];cases b with
   |true=>
    rw[if_pos rfl,As];exact kI hs c (i+1) (by omega)
   |false=>exact⟨_,rfl⟩
  rw[if_neg (by rw[decide_eq_true_eq];omega)];exact⟨_,rfl⟩
theorem uG {n:Nat}{s:ByteArray}(hs:s.size<4611686018427387900)(hn:s.size<n):∃b,Fy n s=some b:=by
 unfold Fy;obtain⟨r,e⟩:=kI (n:=n) hs n 0 (by omega);rw[show(0:Int)=((0:Nat):Int) from rfl,e,Zo];cases r with
 |inr r=>exact⟨_,rfl⟩
 |inl u=>
  dsimp only;by_cases h:1<=(s.size:Int)
  ·rw[if_pos (decide_eq_true h)];split
   ·rw[Gj (by omega),Zo];split
    ·exact⟨_,rfl⟩
    exact⟨_,rfl⟩
   exact⟨_,rfl⟩
  rw[if_neg (by rw[decide_eq_true_eq];exact h)];exact⟨_,rfl⟩
theorem kJ {n:Nat}{s:ByteArray}{ch:Int}(hs:s.size<4611686018427387900):∀(c i:Nat),s.size-i<c->∃r,j1_ n s ch c (i:Int)=some r
 |0,_,h=>absurd h (LK _)
 |c+1,i,hc=>by
  unfold j1_;by_cases h:i<s.size
  ·rw[if_pos Cb,Gj h,Zo];split
   ·exact⟨_,rfl⟩
   rw[As];exact kJ hs c (i+1) (by omega)
  rw[if_neg (by rw[decide_eq_true_eq];omega)];exact⟨_,rfl⟩
theorem kK {n:Nat}{s:ByteArray}(hs:s.size<4611686018427387900):∀(c i:Nat),s.size-i<c->i<=s.size->∃r,Xh n s c (i:Int)=some r/\∃j:Nat,r=j/\i<=j/\j<=s.size
 |0,_,h,_=>absurd h (LK _)
 |c+1,i,hc,hi=>by
  unfold Xh;by_cases h:i<s.size
  ·rw[if_pos Cb,Gj h,Zo];split
   ·rw[As];obtain⟨r,e,j,h1,h2,h3⟩:=kK (n:=n) hs c (i+1) (by omega) (by omega);exact⟨r,e,j,h1,by omega,h3⟩
   grind
  grind
theorem kL {n:Nat}{s:ByteArray}(hs:s.size<4611686018427387900):∀(c i:Nat),s.size-i<c->i<=s.size->∃r,Qj n s c (i:Int)=some r/\∃j:Nat,r=j/\i<=j/\j<=s.size
 |0,_,h,_=>absurd h (LK _)
 |c+1,i,hc,hi=>by
  unfold Qj;by_cases h:i<s.size
  ·rw[if_pos Cb,Gj h,Zo];obtain⟨b,hb⟩:=Xp n ((s.data.toList[i]'(by rw[z7_];exact h)).toNat:Int);rw[hb,Zo];cases b with
   |true=>
    rw[if_pos rfl,As];obtain⟨r,e,j,h1,h2,h3⟩:=kL (n:=n) hs c (i+1) (by omega) (by omega);exact⟨r,e,j,h1,by omega,h3⟩
   |false=>grind
  grind
def VL (k:Nat)(l:List CE):Prop:=l.length<=k/\∀t∈l,t.text.size<=k
theorem HF {α:Type}{P:α->Prop}{b:Bool}{x y:Option α}(h1:b=true->∃r,x=some r/\P r)(h2:b=false->∃r,y=some r/\P r):∃r,(if b=true then x else y)=some r/\P r:=by
 cases b with
 |true=>exact h1 rfl
 |false=>exact h2 rfl
theorem bR {n:Nat}{s:ByteArray}(hs:s.size<=100000)(hn:s.size+20<n):∀(c i:Nat) (l:List CE),i<=s.size->l.length<=i->(∀t∈l,t.text.size<=s.size)->s.size-i<c->∃r,Jy n s c (l,(i:Int))=some r/\(match r with | .inl l=>VL s.size l | .inr x=>x.1= [])
 |0,_,_,_,_,_,h=>absurd h (LK _)
 |c+1,i,l,hi,hl,ht,hc=>by
  unfold Jy;refine HF (fun h=> ?_) (fun h=>⟨_,rfl,by omega,ht⟩);rw[decide_eq_true_eq] at h;have h':i<s.size:=by omega
  rw[Gj h',Zo];obtain⟨ch,hch⟩:∃ch:Int,ch=((s.data.toList[i]'(by rw[z7_];exact h')).toNat:Int):=⟨_,rfl⟩;rw[<-hch];have e1:i64.wrap ((i:Int)+1)=((i+1:Nat):Int):=As;rw[e1];refine VK (fun q=>match q with | .inl v=>∃j:Nat,v.1=(j:Int)/\i<j/\j<=s.size | .inr x=>x.1= []) ?_ ?_
  ·refine VK (fun _=>True) ?_ fun b _=> ?_
   ·refine HF (fun _=>⟨_,rfl,trivial⟩) fun _=>HF (fun _=>⟨_,rfl,trivial⟩) fun _=>HF (fun _=>⟨_,rfl,trivial⟩) fun _=>⟨_,rfl,trivial⟩
   refine HF (fun _=>⟨_,rfl,i+1,rfl,by omega,by omega⟩) fun _=> ?_;refine VK (fun _=>True) ?_ fun b2 _=> ?_
   ·refine HF (fun _=>HF (fun h2=> ?_) fun _=>⟨_,rfl,trivial⟩) fun _=>⟨_,rfl,trivial⟩;rw[decide_eq_true_eq] at h2;rw[Gj (by omega),Zo];exact⟨_,rfl,trivial⟩
   refine HF (fun _=> ?_) fun _=> ?_
   ·obtain⟨r,e,j,h1,h2,h3⟩:=kK (n:=n) (s:=s) (by omega) n (i+1) (by omega) (by omega);rw[e,Zo];exact⟨_,rfl,j,h1,by omega,h3⟩
   obtain⟨b3,e3⟩:=Xp n ch;rw[e3,Zo];refine HF (fun _=> ?_) fun _=> ?_
   ·obtain⟨r,e,j,h1,h2,h3⟩:=kL (n:=n) (s:=s) (by omega) n (i+1) (by omega) (by omega);rw[e,Zo];exact⟨_,rfl,j,h1,by omega,h3⟩
   refine VK (fun b4=>b4=true->i+1<s.size) ?_ fun b4 hb4=> ?_
   ·refine HF (fun _=>HF (fun h2=> ?_) fun _=>⟨_,rfl,fun h=>by cases h⟩) fun _=>⟨_,rfl,fun h=>by cases h⟩;rw[decide_eq_true_eq] at h2;rw[Gj (by omega),Zo];exact⟨_,rfl,fun _=>by omega⟩
   refine HF (fun h4=> ?_) fun _=> ?_
   ·have h5:=hb4 h4;rw[As];exact⟨_,rfl,i+1+1,rfl,by omega,by omega⟩
   unfold VC;obtain⟨r,e⟩:=kJ (n:=n) (s:={ data:= #[123,125,58,59,124,35,61,43,45,38,40,41] }) (ch:=ch) (by decide) n 0 (by show 12-0<n;omega);rw[show(0:Int)=((0:Nat):Int) from rfl,e,Zo];cases r with
   |inl u=>
    rw[Zo];exact⟨_,rfl,rfl⟩
   |inr u=>
    rw[Zo];exact HF (fun _=>⟨_,rfl,rfl⟩) fun _=>⟨_,rfl,i+1,rfl,by omega,by omega⟩
  rintro(⟨v,k⟩ |x) hq
  ·obtain⟨j,rfl,h1,h2⟩:=hq;dsimp only;refine HF (fun _=> ?_) fun _=> ?_
   ·rw[Hc (by omega) h2,Zo,EA,if_pos (by rw[Lr];omega),Zo];refine bR hs hn c j _ h2 (by grind) (fun t hm=> ?_) (by omega);grind [List.mem_singleton,ByteArray.size_extract]
   exact bR hs hn c j l h2 (by omega) ht (by omega)
  exact⟨_,rfl,hq⟩
theorem kM (s:ByteArray)(n:Nat)(hn:s.size+100<=n):∃r,Qk n s=some r/\VL 100000 r.1:=by
 unfold Qk;refine HF (fun _=>⟨_,rfl,Ll _,fun t h=>by cases h⟩) fun h=> ?_;rw[decide_eq_false_iff_not] at h;refine VK _ (bR (n:=n) (s:=s) (by omega) (by omega) n 0 [] (by omega) (by exact Lc _) (fun t h=>by cases h) (by omega)) ?_;rintro(l |x) hq
 ·exact⟨_,rfl,Lp hq.1 (by omega),fun t ht=>Lp (hq.2 t ht) (by omega)⟩
 refine⟨_,rfl,?_⟩;rw[show x.1= [] from hq];exact⟨Ll _,fun t h=>by cases h⟩
def bType:ByteArray:={ data:= #[116,121,112,101] }
def tyM (x:Ae):Ae:=
 if x.e==0 then(match x.l[x.p]? with
  |some t=>if t.kind==1 then(if t.text.toList==bType.toList then x else jw_ x 9) else jw_ x 9
  |none=>jw_ x 9) else x
def J7 (n c f:Nat)(x:Ae):Option (Ae × AT):=(xL_ n { tyM x with p:=(tyM x).p+1 }).bind fun r=>(if r.1.e==0&&isM r.1 Qr then(G0 n c f c { r.1 with p:=r.1.p+1 } []).map fun q=>(DV q.1 Fq,q.2) else some (r.1,[])).bind fun q=>some (q.1,⟨r.2,q.2⟩)
def Hi (n c f:Nat):Nat->Ae->List AT->Option (Ae × List AT)
 |0,_,_=>none
 |k+1,x,ts=>if Dr x/\x.deep=0/\ts.length<=201 then (if x.e==0&&decide (x.p<x.l.length) then(J7 n c f (if ts.length=200 then jw_ x 8 else x)).bind fun r=>Hi n c f k r.1 (ts++[r.2]) else some (x,ts)) else none
def J8 (n c f:Nat)(s:ByteArray):Option (List AT × Int × Int):=(Qk n s).bind fun t=>if t.2.2==0 then(Hi n c f c ⟨t.1,0,(s.size:Int),0,0,0,[],0⟩ []).bind fun r=>if r.1.e==0 then some (r.2,0,0) else some ([],r.1.bad,r.1.e) else some ([],t.2.1,t.2.2)
section
variable {n:Nat}{L:List CE}(hT:∀t∈L,∃b,Fy n t.text=some b)
theorem Qs {x:Ae}(w:Dr x):Kp x (tyM x)/\(tyM x).p=x.p:=by
 have kf:=Kp.fail w 9;have ki:Kp x x:=⟨rfl,Lc _,w.2.1,w.2.2.1,rfl,id⟩;have pf:(jw_ x 9).p=x.p:=(He x 9).2.2.2;unfold tyM;split
 ·split
  ·split
   ·split
    ·exact⟨ki,rfl⟩
    exact⟨kf,pf⟩
   exact⟨kf,pf⟩
  exact⟨kf,pf⟩
 exact⟨ki,rfl⟩
include hT in
theorem kN {c f:Nat}(hc:L.length+1<c)(hf:20<f){x:Ae}(hl:x.l=L)(w:Dr x)(hd:x.deep=0)(hp:x.p<x.l.length):∃y,J7 n c f x=some y/\Kp x y.1/\x.p<y.1.p:=by
 unfold J7;obtain⟨k0,p0⟩:=Qs w;have w0:=k0.w w;have k1:=Kp.one w0 (by rw[k0.l,p0];exact hp);have w1:=k1.w w0;obtain⟨r,e1,k2⟩:=Sp hT (x:={ tyM x with p:=(tyM x).p+1 }) (k0.l.trans hl) w1;have k3:=k0.trans (k1.trans k2);have w2:=k3.w w;have pr:x.p+1<=r.1.p:=by have:(tyM x).p+1<=r.1.p:=k2.p;omega
 rw[e1,Zo];split
 ·rename_i h;rw[Li] at h;have lt:=Fp h.2;have k4:=Kp.one w2 lt;obtain⟨y,e2,k5⟩:=bQ hT (c:=c) (f:=f) (by omega) hf c { r.1 with p:=r.1.p+1 } [] (k3.l.trans hl) (k4.w w2) (k3.d.trans hd) (Ll _) (by split<;>omega);have k6:=Kp.want (k5.w (k4.w w2)) Fq;have p5:r.1.p+1<=y.1.p:=k5.p;have p6:=k6.p;rw[e2];exact⟨_,rfl,k3.trans (k4.trans (k5.trans k6)),by show x.p<(DV y.1 Fq).p;omega⟩
 exact⟨_,rfl,k3,by show x.p<r.1.p;omega⟩
include hT in
theorem bS {c f:Nat}(hc:L.length+1<c)(hf:20<f):∀(k:Nat) (x:Ae) (ts:List AT),x.l=L->Dr x->x.deep=0->ts.length<=201->((x.e==0)=true->ts.length<=200)->L.length-x.p<k->∃y,Hi n c f k x ts=some y
 |0,_,_,_,_,_,_,_,h=>absurd h (LK _)
 |k+1,x,ts,hl,w,hd,hs,h2,hk=>by
  unfold Hi;rw[if_pos ⟨w,hd,hs⟩];split
  ·rename_i h;rw[Li,decide_eq_true_eq] at h;have hs2:=h2 h.1;have hplt:=h.2;rw[hl] at hplt;by_cases h200:ts.length=200
   ·rw[if_pos h200];have ef:=VJ (c:=8) h.1 rfl;have kf:=Kp.fail w 8;have pf:(jw_ x 8).p=x.p:=(He x 8).2.2.2;obtain⟨y,e1,k1,p1⟩:=kN hT hc hf (x:=jw_ x 8) (kf.l.trans hl) (kf.w w) (kf.d.trans hd) (by rw[kf.l,pf];exact h.2);rw[e1,Zo];refine bS hc hf k _ _ (k1.l.trans (kf.l.trans hl)) (k1.w (kf.w w)) (k1.d.trans (kf.d.trans hd)) (by rw[Lf,Lr];omega) (fun g=> ?_) (by omega)
    have:=k1.e ef;rw[g] at this;cases this
   rw[if_neg h200];obtain⟨y,e1,k1,p1⟩:=kN hT hc hf (x:=x) hl w hd h.2;rw[e1,Zo];exact bS hc hf k _ _ (k1.l.trans hl) (k1.w w) (k1.d.trans hd) (by rw[Lf,Lr];omega) (fun _=>by rw[Lf,Lr];omega) (by omega)
  exact⟨_,rfl⟩
end
abbrev Tk:=Int × ByteArray
def MJ (t:CE):Tk:=(t.kind,t.text)
def GE (b:UInt8):Bool:=(JF 0 (b.toNat:Int)).getD false
theorem U2 (n:Nat)(b:UInt8):JF n (b.toNat:Int)=some (GE b):=by
 obtain⟨x,hx⟩:=Xp 0 (b.toNat:Int)
 have:JF n (b.toNat:Int)=JF 0 (b.toNat:Int):=rfl;rw[this,GE,hx];rfl
def Ha:List UInt8:=[123,125,58,59,124,35,61,43,45,38,40,41]
def MK:ByteArray:={ data:= #[45,62] }
inductive Lx:List UInt8->List Tk->Prop
 |nil:Lx [] []
 |sp (b:UInt8) {w:List UInt8} {T:List Tk} (hb:b=32\/b=10) (h:Lx w T):Lx (b::w) T
 |wd (u:UInt8) (us:List UInt8) {w:List UInt8} {T:List Tk} (hu:GE u=true) (hs:∀x∈us,GE x=true) (hw:∀x,w.head? =some x->GE x=false) (h:Lx w T):Lx (u::(us++w)) ((1,⟨(u::us).toArray⟩)::T)
 |ar {w:List UInt8} {T:List Tk} (h:Lx w T):Lx (45::62::w) ((2,MK)::T)
 |sg (b:UInt8) {w:List UInt8} {T:List Tk} (hb:b∈Ha) (hm:b=45->w.head?≠some 62) (h:Lx w T):Lx (b::w) ((2,⟨#[b]⟩)::T)
theorem jQ {n:Nat}{s:ByteArray}{b:UInt8}(hs:s.size<4611686018427387900)(hm:b∈s.data.toList):∀(c i:Nat),s.size-i<c->(b∉s.data.toList.take i)->∃k:Nat,j1_ n s (b.toNat:Int) c (i:Int)=some (.inr (k:Int))
 |0,_,h,_=>absurd h (LK _)
 |c+1,i,hc,hi=>by
  unfold j1_;have h:i<s.size:=by
   rcases Nf i s.size with h |h
   ·exact h
   rw[Ny (by rw[z7_];exact h)] at hi;exact absurd hm hi
  rw[if_pos Cb,Gj h,Zo];by_cases e:s.data.toList[i]'(by rw[z7_];exact h)=b
  ·grind
  have e2:(((s.data.toList[i]'(by rw[z7_];exact h)).toNat:Int)==(b.toNat:Int))=false:=by
   rw[beq_eq_false_iff_ne];intro hh;exact e (BE.1 (Int.ofNat.inj hh))
  rw[e2,if_neg (by decide),As];refine jQ hs hm c (i+1) (by omega) fun hh=> ?_;grind [List.take_add_one,List.getElem?_eq_getElem,z7_,Option.toList_some,List.mem_singleton]
theorem jR {n:Nat}{s:ByteArray}(hs:s.size<4611686018427387900):∀(us w:List UInt8) (c i:Nat),s.data.toList.drop i=us++w->(∀x∈us,GE x=true)->(∀x,w.head? =some x->GE x=false)->us.length<c->Qj n s c (i:Int)=some ((i+us.length:Nat):Int)
 |[],w,0,i,_,_,_,h=>absurd h (LK _)
 |[],w,c+1,i,hd,_,hw,_=>by
  unfold Qj;by_cases h:i<s.size
  ·rw[if_pos Cb,Gj h,Zo,U2,Zo];grind [z7_,List.head?_drop,List.getElem?_eq_getElem]
  grind
 |u::us,w,0,i,_,_,_,h=>absurd h (LK _)
 |u::us,w,c+1,i,hd,hu,hw,hc=>by
  have h:i<s.size:=by
   rcases Nf i s.size with h |h
   ·exact h
   rw[NL (by rw[z7_];exact h)] at hd;cases hd
  have e1:s.data.toList[i]'(by rw[z7_];exact h)=u/\s.data.toList.drop (i+1)=us++w:=by
   rw[Ly (by rw[z7_];exact h)] at hd;exact OZ hd
  unfold Qj;rw[if_pos Cb,Gj h,Zo,U2,Zo,e1.1,hu u Lo,if_pos rfl,As,jR hs us w c (i+1) e1.2 (fun x hx=>hu x (Lh _ hx)) hw (by simp only[Lg] at hc;omega)];grind
theorem az {s:ByteArray}{i:Nat}{v w:List UInt8}(hd:s.data.toList.drop i=v++w):s.extract i (i+v.length)=⟨v.toArray⟩:=by
 apply XX;simp_all
theorem tS {b:UInt8}(h:GE b=true):((b.toNat:Int)==32)=false/\((b.toNat:Int)==9)=false/\((b.toNat:Int)==10)=false/\((b.toNat:Int)==13)=false/\((b.toNat:Int)==47)=false:=by
 have:∀k:Int,(k=32\/k=9\/k=10\/k=13\/k=47)->JF 0 k=some false:=by
  rintro k (rfl |rfl |rfl |rfl |rfl)<;>rfl
 have key:∀k:Int,(k=32\/k=9\/k=10\/k=13\/k=47)->((b.toNat:Int)==k)=false:=fun k hk=>by
  rw[beq_eq_false_iff_ne];rintro e;rw[GE,e,this k hk] at h;cases h
 exact⟨key _ (.inl rfl),key _ (.inr (.inl rfl)),key _ (.inr (.inr (.inl rfl))),key _ (.inr (.inr (.inr (.inl rfl)))),key _ (.inr (.inr (.inr (.inr rfl))))⟩
theorem U3 {s:ByteArray}{i:Nat}{b:UInt8}{w:List UInt8}(hd:s.data.toList.drop i=b::w):∃h:i<s.size,(s.data.toList[i]'(by rw[z7_];exact h))=b/\s.data.toList.drop (i+1)=w:=by
 grind [Nat.lt_or_ge,List.drop_of_length_le,z7_,List.drop_eq_getElem_cons,List.cons.inj]
theorem Qd {n:Nat}{s:ByteArray}(hs:s.size<=100000)(hn:s.size+20<n){w:List UInt8}{T:List Tk}(hx:Lx w T):∀(c i:Nat) (l:List CE),s.data.toList.drop i=w->l.length<=i->s.size-i<c->∃l',Jy n s c (l,(i:Int))=some (.inl (l++l'))/\l'.map MJ=T:=by
 induction hx with
 |nil=>
  intro c i l hd hl hc;have h:s.size<=i:=by
   rcases Nf i s.size with h |h
   ·have:=congrArg List.length hd;rw[Nv,z7_,LB] at this;omega
   exact h
  cases c with
  |zero=>omega
  |succ c=>
   unfold Jy;rw[if_neg (by rw[decide_eq_true_eq];omega)];exact⟨[],by rw[LY],rfl⟩
 |sp b hb hx ih=>
  intro c i l hd hl hc;obtain⟨h,e1,e2⟩:=U3 hd;cases c with
  |zero=>omega
  |succ c=>
   obtain⟨l',q1,q2⟩:=ih c (i+1) l e2 (by omega) (by omega);refine⟨l',?_,q2⟩;unfold Jy;rw[if_pos Cb,Gj h,Zo,e1];rw[<-q1];rcases hb with rfl |rfl
   ·rw[if_pos (by decide),Zo,if_pos rfl,Zo];dsimp only;rw[if_neg (by decide),As]
   ·rw[if_neg (by decide),if_neg (by decide),if_pos (by decide),Zo,if_pos rfl,Zo];dsimp only;rw[if_neg (by decide),As]
 |wd u us hu hu2 hw hx ih=>
  rename_i w T;intro c i l hd hl hc;obtain⟨h,e1,e2⟩:=U3 hd;have hlen:us.length+1<=s.size-i:=by
   have:=congrArg List.length hd;rw[Nv,z7_,Lg,Lf] at this;omega
  have e3:s.data.toList.drop (i+1+us.length)=w:=by
   rw[<-Ol,e2];exact List.drop_left
  cases c with
  |zero=>omega
  |succ c=>
   obtain⟨l',q1,q2⟩:=ih c (i+1+us.length) (l++[⟨1,(i:Int),⟨(u::us).toArray⟩⟩]) e3 (by rw[Lf,Lr];omega) (by omega);refine⟨⟨1,(i:Int),⟨(u::us).toArray⟩⟩::l',?_,by rw[Lk,q2];rfl⟩;unfold Jy;obtain⟨p1,p2,p3,p4,p5⟩:=tS hu;rw[if_pos Cb,Gj h,Zo,e1,p1,if_neg (by decide),p2,if_neg (by decide),p3,if_neg (by decide),p4,Zo,if_neg (by decide),p5,if_neg (by decide),Zo,if_neg (by decide),U2,Zo,hu,if_pos rfl,As,jR (n:=n) (s:=s) (by omega) us w n (i+1) e2 hu2 hw (by omega),Zo,Zo];dsimp only;rw[if_pos (by decide),Hc (by omega) (by omega),Zo,EA,if_pos (by rw[Lr];omega),Zo];have e4:s.extract i (i+1+us.length)=⟨(u::us).toArray⟩:=by
    have:=az (s:=s) (i:=i) (v:=u::us) (w:=w) hd;rw[<-this,Lg];congr 1;omega
   rw[e4,q1,Lq];rfl
 |ar hx ih=>
  rename_i w T;intro c i l hd hl hc;obtain⟨h,e1,e2⟩:=U3 hd;obtain⟨h2,e3,e4⟩:=U3 e2;cases c with
  |zero=>omega
  |succ c=>
   obtain⟨l',q1,q2⟩:=ih c (i+1+1) (l++[⟨2,(i:Int),MK⟩]) e4 (by rw[Lf,Lr];omega) (by omega);refine⟨⟨2,(i:Int),MK⟩::l',?_,by rw[Lk,q2];rfl⟩;unfold Jy;rw[if_pos Cb,Gj h,Zo,e1,if_neg (by decide),if_neg (by decide),if_neg (by decide)];rw[show(some ((((45:UInt8).toNat:Int))==13))=some false from rfl,Zo,if_neg (by decide),if_neg (by decide),Zo,if_neg (by decide),U2,Zo,show GE 45=false from rfl,if_neg (by decide),if_pos (by decide),As,if_pos Cb,Gj h2,Zo,e3];rw[show(some ((((62:UInt8).toNat:Int))==62))=some true from rfl,Zo,if_pos rfl,As,Zo];dsimp only;rw[if_pos (by decide),Hc (by omega) (by omega),Zo,EA,if_pos (by rw[Lr];omega),Zo];have e5:s.extract i (i+1+1)=MK:=az (s:=s) (i:=i) (v:=[45,62]) (w:=w) hd;rw[e5,q1,Lq];rfl
 |sg b hb hm hx ih=>
  rename_i w T;intro c i l hd hl hc;obtain⟨h,e1,e2⟩:=U3 hd;cases c with
  |zero=>omega
  |succ c=>
   obtain⟨l',q1,q2⟩:=ih c (i+1) (l++[⟨2,(i:Int),⟨#[b]⟩⟩]) e2 (by rw[Lf,Lr];omega) (by omega);refine⟨⟨2,(i:Int),⟨#[b]⟩⟩::l',?_,by rw[Lk,q2];rfl⟩;have hf:∀x∈Ha,((x.toNat:Int)==32)=false/\((x.toNat:Int)==9)=false/\((x.toNat:Int)==10)=false/\((x.toNat:Int)==13)=false/\((x.toNat:Int)==47)=false/\GE x=false:=(by decide);obtain⟨p1,p2,p3,p4,p5,p6⟩:=hf b hb;obtain⟨k,hk⟩:=jQ (n:=n) (s:={ data:= #[123,125,58,59,124,35,61,43,45,38,40,41] }) (b:=b) (by decide) hb n 0 (by show 12-0<n;omega) (by simp);have e5:s.extract i (i+1)=⟨#[b]⟩:=az (s:=s) (i:=i) (v:=[b]) (w:=w) hd;unfold Jy;rw[if_pos Cb,Gj h,Zo,e1,p1,if_neg (by decide),p2,if_neg (by decide),p3,if_neg (by decide),p4,Zo,if_neg (by decide),p5,if_neg (by decide),Zo,if_neg (by decide),U2,Zo,p6,if_neg (by decide),As];have hmid:(if ((b.toNat:Int)==45)=true then if decide (((i+1:Nat):Int)<(s.size:Int))=true then(Do s ((i+1:Nat):Int)).bind fun ch14=>some (ch14==62) else some false else some false)=some false:=by
    split
    ·rename_i h45;have hb45:b=45:=BE.1 (by have:=eq_of_beq h45;show b.toNat=45;omega);split
     ·rename_i h6;have h6:i+1<s.size:=(by rw[decide_eq_true_eq] at h6;omega);rw[Gj h6,Zo];have hne:s.data.toList[i+1]'(by rw[z7_];exact h6)≠62:=fun hh=>hm hb45 (by
       rw[<-e2,OF,Ld (by rw[z7_];exact h6),hh])
      congr 1;rw[beq_eq_false_iff_ne];intro hh;exact hne (BE.1 (by show _=62;omega))
     rfl
    rfl
   rw[hmid,Zo,if_neg (by decide)];unfold VC;rw[show(0:Int)=((0:Nat):Int) from rfl,hk,Zo];dsimp only;rw[Zo,if_neg (by rw[decide_eq_true_eq];omega),Zo];dsimp only;rw[if_pos (by decide),Hc (by omega) (by omega),Zo,EA,if_pos (by rw[Lr];omega),Zo,e5,q1,Lq];rfl
theorem jS {n:Nat}{s:ByteArray}(hs:s.size<=100000)(hn:s.size+20<n){T:List Tk}(hx:Lx s.data.toList T):∃l,Qk n s=some (l,0,0)/\l.map MJ=T:=by
 obtain⟨l,h1,h2⟩:=Qd hs hn hx n 0 [] rfl (Lc _) (by omega);refine⟨l,?_,h2⟩;unfold Qk;grind
structure At (L:List CE) (R:List Tk) (x:Ae):Prop where
 l:x.l=L
 e:x.e=0
 p:x.p<=L.length
 r:(L.drop x.p).map MJ=R
 b:L.length<1152921504606846976
def Ci (R:List Tk)(t:ByteArray):Bool:=match R with
 |(k,s)::_=>k==2&&s.toList==t.toList
 |[]=>false
section
variable {L:List CE}{R:List Tk}{x y:Ae}{n:Nat}{k:Int}{s:ByteArray}
theorem At.of (h:At L R x)(h1:y.l=x.l)(h2:y.e=x.e)(h3:y.p=x.p):At L R y:=
 ⟨h1.trans h.l,h2.trans h.e,by rw[h3];exact h.p,by rw[h3];exact h.r,h.b⟩
theorem At.get (h:At L R x):x.l[x.p]?.map MJ=R.head?:=by
 rw[h.l,<-h.r,List.head?_map,OF]
theorem At.is (h:At L R x)(t:ByteArray):isM x t=Ci R t:=by
 have hg:=h.get;unfold isM Ci;cases hx:x.l[x.p]? with
 |none=>grind
 |some u=>rw[hx] at hg;cases R with |nil=>cases hg |cons a R=>cases hg;rfl
theorem At.next (h:At L ((k,s)::R) x):At L R { x with p:=x.p+1 }/\x.p<x.l.length/\∃t,x.l[x.p]? =some t/\t.kind=k/\t.text=s:=by
 have hg:=h.get;have hlt:x.p<L.length:=by
  rcases Nf x.p L.length with h1 |h1
  ·exact h1
  have:=h.r;rw[NL h1] at this;cases this
 refine⟨⟨h.l,h.e,hlt,?_,h.b⟩,by rw[h.l];exact hlt,?_⟩
 ·have:=h.r;rw[Ly hlt,Lk] at this;exact(OZ this).2
 cases hx:x.l[x.p]? with
 |none=>rw[hx] at hg;cases hg
 |some u=>rw[hx] at hg;cases hg;exact⟨u,rfl,rfl,rfl⟩
theorem At.w (h:At L R x)(ho:x.out.length<=200)(hd:x.deep<=20):Dr x:=⟨by rw[h.l];exact h.b,by rw[h.l];exact h.p,ho,hd⟩
theorem At.e0 (h:At L R x):(x.e==0)=true:=by rw[h.e];rfl
theorem At.name (h:At L ((1,s)::R) x)(hn:Fy n s=some true):xL_ n x=some ({ x with p:=x.p+1 },s):=by
 obtain⟨_,_,t,h1,h2,h3⟩:=h.next;unfold xL_;rw[if_pos h.e0,h1];grind
theorem At.want (h:At L ((2,s)::R) x):DV x s={ x with p:=x.p+1 }:=by
 unfold DV;rw[if_pos h.e0,h.is,show Ci ((2,s)::R) s=true by simp[Ci],if_pos rfl]
end
def Gs (L:List CE)(R:List Tk)(mn:Bool)(k:Nat)(x y:Ae):Prop:=At L R y/\y.deep=x.deep/\∃o,y.out=x.out++o/\o.length<=k/\(mn=false->∀s∈o,s.kind≠4)
section
variable {L:List CE}{R R2:List Tk}{x y z:Ae}{n:Nat}{mn:Bool}{k k2:Nat}
theorem Gs.trans (h:Gs L R mn k x y)(g:Gs L R2 mn k2 y z):Gs L R2 mn (k+k2) x z:=by
 obtain⟨_,h2,o,h3,h4,h5⟩:=h;obtain⟨g1,g2,p,g3,g4,g5⟩:=g;refine⟨g1,g2.trans h2,o++p,by rw[g3,h3,Lq],by rw[Lf];omega,fun hm s hs=> ?_⟩;grind
theorem Gs.same (h:At L R y)(hd:y.deep=x.deep)(ho:y.out=x.out):Gs L R mn 0 x y:=⟨h,hd,[],by rw[ho,LY],Lc _,fun _ _ h=>by cases h⟩
theorem Gs.len (h:Gs L R mn k x y):y.out.length<=x.out.length+k:=by
 obtain⟨_,_,o,h3,h4,_⟩:=h;rw[h3,Lf];omega
theorem Gs.mono (h:Gs L R mn k x y)(hk:k<=k2):Gs L R mn k2 x y:=by
 obtain⟨h1,h2,o,h3,h4,h5⟩:=h;exact⟨h1,h2,o,h3,Lp h4 hk,h5⟩
theorem Gs.put (h:At L R x)(ho:x.out.length<200){s:AY}{a:Int}(hs:mn=false->s.kind≠4):Gs L R mn 1 x (C5 x s a):=by
 unfold C5;rw[if_pos h.e0,ifn];exact⟨h.of rfl rfl rfl,rfl,[s],rfl,Lc _,fun hm t ht=>by grind⟩
def Fm (n:Nat)(ex:Ae->Option Ae)(T:List Tk)(mn:Bool)(k d:Nat):Prop:=∀L R x,At L (T++R) x->Ci R IR=false->x.deep=d->x.out.length+k<=200->∃y,EB n ex x=some y/\Gs L R mn k x y
def Jv (R:List Tk):Prop:=Ci R IR=false/\Ci R D2=false/\Ci R J0=false/\Ci R C9=false
def U4 (ex:Ae->Option Ae)(T:List Tk)(mn:Bool)(k d:Nat):Prop:=∀L R x,At L (T++R) x->Jv R->x.deep=d->x.out.length+k<=200->∃y,ex x=some y/\Gs L R mn k x y
theorem Sm {ex:Ae->Option Ae}{a:ByteArray}{d:Nat}(hd:d<=20)(ha:Fy n a=some true):Fm n ex [(1,a)] mn 1 d:=by
 intro L R x h hR hx ho;have h:At L ((1,a)::R) x:=h;unfold EB;have h1:=h.next.1;rw[if_pos (h.w (by omega) (by omega)),h.is,show Ci ((1,a)::R) KX=false from rfl,ND,if_neg (by decide),h.name ha,Zo];dsimp only;rw[h1.is,hR,ND,if_neg (by decide)];exact⟨_,rfl,((Gs.same h1 rfl rfl:Gs L R mn 0 x _).trans (Gs.put h1 (by show x.out.length<200;omega) fun _=>by show(1:Int)≠4;decide)).mono (Lc _)⟩
theorem jT {ex:Ae->Option Ae}{a b:ByteArray}{d:Nat}(hd:d<=20)(ha:Fy n a=some true)(hb:Fy n b=some true):Fm n ex [(1,a),(2,IR),(1,b)] mn 1 d:=by
 intro L R x h hR hx ho;have h:At L ((1,a)::(2,IR)::(1,b)::R) x:=h;unfold EB;have h1:=h.next.1;have h2:=h1.next.1;have h3:=h2.next.1;rw[if_pos (h.w (by omega) (by omega)),h.is,show Ci ((1,a)::(2,IR)::(1,b)::R) KX=false from rfl,ND,if_neg (by decide),h.name ha,Zo];dsimp only;rw[h1.is,show Ci ((2,IR)::(1,b)::R) IR=true by simp[Ci],h.e0,if_pos (by decide),h2.name hb,Zo];exact⟨_,rfl,((Gs.same h3 rfl rfl:Gs L R mn 0 x _).trans (Gs.put h3 (by show x.out.length<200;omega) fun _=>by show(2:Int)≠4;decide)).mono (Lc _)⟩
theorem tT {ex:Ae->Option Ae}{T:List Tk}{d:Nat}(hd:d<20)(hx:U4 ex T mn k (d+1)):Fm n ex ((2,KX)::(T++[(2,Gz)])) mn k d:=by
 intro L R x h hR hxd ho;rw[LJ,Lq] at h;have h1:=h.next.1;obtain⟨y,hy,hg⟩:=hx L ((2,Gz)::R) { x with deep:=x.deep+1,p:=x.p+1 } (h1.of rfl rfl rfl) ⟨by kernel_rfl,by kernel_rfl,by kernel_rfl,by kernel_rfl⟩ (by show x.deep+1=d+1;omega) ho;have hlen:=hg.len;obtain⟨g1,g2,o,g3,g4,g5⟩:=hg;have g2:y.deep=x.deep+1:=g2;have h4:=g1.next.1;refine⟨{ DV y Gz with deep:=y.deep-1 },?_,?_⟩
 ·unfold EB;rw[if_pos (h.w (by omega) (by omega)),h.is,show Ci ((2,KX)::(T++([(2,Gz)]++R))) KX=true by simp[Ci],h.e0,if_pos (by decide),ifn,hy,Zo,if_pos ⟨g1.w (by have:y.out.length<=x.out.length+k:=hlen;omega) (by omega),by omega⟩]
 rw[g1.want];exact⟨h4.of rfl rfl rfl,by show y.deep-1=x.deep;omega,o,g3,g4,g5⟩
structure Fa where
 op:ByteArray
 T:List Tk
 k:Nat
def EY (S:List Fa):List Tk:=S.flatMap fun f=>(2,f.op)::f.T
def Da:List Fa->Nat
 |[]=>0
 |f::S=>f.k+1+Da S
def tU (trm:Ae->Option Ae)(po:Option (AY × Int))(c:Nat)(y:Ae):Option Ae:=match po with
 |none=>Fd trm c y
 |some (s,a)=>if y.out.length<=200 then Fd trm c (C5 y s a) else none
def Sn:Option (AY × Int)->Nat
 |none=>0
 |some _=>1
theorem jU {S:List Fa}(hS:∀f∈S,f.op=D2\/f.op=J0\/f.op=C9)(hR:Jv R):Ci (EY S++R) IR=false:=by
 cases S with
 |nil=>exact hR.1
 |cons f S=>
  show Ci ((2,f.op)::_) IR=false;rcases hS f Lo with e |e |e<;>rw[e]<;>kernel_rfl
theorem bB {ex:Ae->Option Ae}{c0 d:Nat}(hd:d<=20):∀(S:List Fa) (_:∀f∈S,Fm n ex f.T mn f.k d/\(f.op=D2\/f.op=J0\/f.op=C9)/\(f.op=C9->mn=true)) (c c':Nat) (po:Option (AY × Int)) (_:∀s a,po=some (s,a)->mn=false->s.kind≠4) (L:List CE) (R:List Tk) (x:Ae),S.length<c->S.length<c'->S.length<=c0->At L (EY S++R) x->Jv R->x.deep=d->x.out.length+(Da S+Sn po)<=200->∃y,(GQ n ex c x).bind (tU (FQ n ex c0) po c')=some y/\Gs L R mn (Da S+Sn po) x y
 |[],_,0,_,_,_,_,_,_,h,_,_,_,_,_,_=>absurd h (LK _)
 |[],_,_+1,0,_,_,_,_,_,_,h,_,_,_,_,_=>absurd h (LK _)
 |[],_,c+1,c'+1,po,hpo,L,R,x,_,_,_,h,hR,hx,ho=>by
  have h:At L R x:=h;have e1:GQ n ex (c+1) x=some x:=by
   unfold GQ;rw[if_pos (h.w (by omega) (by omega)),h.is,hR.2.1,ND,if_neg (by decide)]
  have e2:∀z:Ae,At L R z->z.out.length<=200->z.deep<=20->Fd (FQ n ex c0) (c'+1) z=some z:=fun z hz h1 h2=>by
   unfold Fd;rw[if_pos (hz.w h1 h2),hz.is,hz.is,hR.2.2.1,hR.2.2.2,Bool.or_false,ND,if_neg (by decide)]
  rw[e1,Zo];cases po with
  |none=>exact⟨x,e2 x h (by omega) (by omega),(Gs.same h rfl rfl:Gs L R mn 0 x x).mono (Ll _)⟩
  |some q=>
   obtain⟨s,a⟩:=q;have ho:x.out.length+(0+1)<=200:=ho;have hp:=Gs.put (mn:=mn) (s:=s) (a:=a) h (by omega) (hpo s a rfl);refine⟨C5 x s a,?_,hp.mono (by show 1<=0+1;omega)⟩;show(if x.out.length<=200 then Fd (FQ n ex c0) (c'+1) (C5 x s a) else none)=_;rw[ifp];exact e2 _ hp.1 (by have:=hp.len;omega) (by rw[hp.2.1];omega)
 |f::S,_,0,_,_,_,_,_,_,h,_,_,_,_,_,_=>absurd h (LK _)
 |f::S,_,_+1,0,_,_,_,_,_,_,h,_,_,_,_,_=>absurd h (LK _)
 |f::S,hS,c+1,c'+1,po,hpo,L,R,x,hc,hc',hc0,h,hR,hx,ho=>by
  have hS2:∀g∈S,Fm n ex g.T mn g.k d/\(g.op=D2\/g.op=J0\/g.op=C9)/\(g.op=C9->mn=true):=fun g hg=>hS g (Lh _ hg);obtain⟨hf,hop,hmn⟩:=hS f Lo;have hT:EY (f::S)++R=(2,f.op)::(f.T++(EY S++R)):=by
   show((2,f.op)::f.T++EY S)++R=_;simp only[LJ,Lq]
  rw[hT] at h;simp only[Lg] at hc hc' hc0;have ho:x.out.length+(f.k+1+Da S+Sn po)<=200:=ho;have hhd:=jU (S:=S) (fun g hg=>(hS2 g hg).2.1) hR;have hpl:Sn po<=1:=by cases po;exact Ll _;exact Lc _
  by_cases hand:f.op=D2
  ·obtain⟨y,hy,hg⟩:=hf L (EY S++R) { x with p:=x.p+1 } h.next.1 hhd hx (by show x.out.length+f.k<=200;omega);have hyl:y.out.length<=x.out.length+f.k:=hg.len;have hp:=Gs.put (mn:=mn) (s:=⟨5,ByteArray.empty,ByteArray.empty⟩) (a:=HD x) hg.1 (by omega) fun _=>(by decide);have hpl2:=hp.len;obtain⟨z,hz,hgz⟩:=bB (c0:=c0) hd S hS2 c (c'+1) po hpo L R _ (by omega) (by omega) (by omega) hp.1 hR (by rw[hp.2.1,hg.2.1];exact hx) (by omega);refine⟨z,?_,?_⟩
   ·unfold GQ;rw[if_pos (h.w (by omega) (by omega)),h.is,show Ci ((2,f.op)::(f.T++(EY S++R))) D2=true by rw[hand];simp[Ci],h.e0,if_pos (by decide),hy,Zo,ifp];exact hz
   have g0:Gs L (EY S++R) mn f.k x y:=⟨hg.1,hg.2.1,hg.2.2⟩;exact((g0.trans hp).trans hgz).mono (by show f.k+1+(Da S+Sn po)<=f.k+1+Da S+Sn po;omega)
  have hpm:f.op=J0\/f.op=C9:=hop.resolve_left hand;have e1:GQ n ex (c+1) x=some x:=by
   unfold GQ;rw[if_pos (h.w (by omega) (by omega)),h.is,show Ci ((2,f.op)::(f.T++(EY S++R))) D2=false by rcases hpm with e |e<;>rw[e]<;>kernel_rfl,ND,if_neg (by decide)]
  -- what Fd does at an x' that stands there
  have key:∀x':Ae,At L ((2,f.op)::(f.T++(EY S++R))) x'->x'.deep=d->x'.out.length+(f.k+1+Da S)<=200->∃z,Fd (FQ n ex c0) (c'+1) x'=some z/\Gs L R mn (f.k+1+Da S) x' z:=fun x' hx' hd' ho'=>by
   obtain⟨y,hy,hg⟩:=hf L (EY S++R) { x' with p:=x'.p+1 } hx'.next.1 hhd hd' (by show x'.out.length+f.k<=200;omega);have hyl:y.out.length<=x'.out.length+f.k:=hg.len;have hmk:mn=false->(⟨if isM x' C9 then 4 else 3,ByteArray.empty,ByteArray.empty⟩:AY).kind≠4:=fun hm=>by
    have:isM x' C9=false:=by
     rw[hx'.is];rcases hpm with e |e
     ·rw[e];kernel_rfl
     rw[hmn e] at hm;cases hm
    rw[this];decide
   obtain⟨z,hz,hgz⟩:=bB (c0:=c0) hd S hS2 c0 c' (some (⟨if isM x' C9 then 4 else 3,ByteArray.empty,ByteArray.empty⟩,HD x')) (fun s a e=>by cases e;exact hmk) L R y (by omega) (by omega) (by omega) hg.1 hR (by rw[hg.2.1];exact hd') (by show y.out.length+(Da S+1)<=200;omega);refine⟨z,?_,?_⟩
   ·unfold Fd;rw[if_pos (hx'.w (by omega) (by omega)),hx'.is,hx'.is,show(Ci ((2,f.op)::(f.T++(EY S++R))) J0||Ci ((2,f.op)::(f.T++(EY S++R))) C9)=true by rcases hpm with e |e<;>rw[e]<;>kernel_rfl,hx'.e0,if_pos (by decide)];unfold FQ;rw[hy,Zo,<-hx'.is];exact hz
   have g0:Gs L (EY S++R) mn f.k x' y:=⟨hg.1,hg.2.1,hg.2.2⟩;exact(g0.trans hgz).mono (by show f.k+(Da S+1)<=f.k+1+Da S;omega)
  rw[e1,Zo];cases po with
  |none=>
   obtain⟨z,h1,h2⟩:=key x h hx (by omega);exact⟨z,h1,h2.mono (Lc _)⟩
  |some q=>
   obtain⟨s,a⟩:=q;have ho:x.out.length+(f.k+1+Da S+1)<=200:=ho;have hp:=Gs.put (mn:=mn) (s:=s) (a:=a) h (by omega) (hpo s a rfl);have hpl3:=hp.len;obtain⟨z,h1,h2⟩:=key (C5 x s a) hp.1 (by rw[hp.2.1];exact hx) (by omega);refine⟨z,?_,(hp.trans h2).mono (by show 1+(f.k+1+Da S)<=f.k+1+Da S+1;omega)⟩;show(if x.out.length<=200 then Fd (FQ n ex c0) (c'+1) (C5 x s a) else none)=_;rw[ifp];exact h1
theorem jV {c f d:Nat}(hd:d<=20){T:List Tk}{S:List Fa}(hT:Fm n (EZ n c f) T mn k d)(hS:∀g∈S,Fm n (EZ n c f) g.T mn g.k d/\(g.op=D2\/g.op=J0\/g.op=C9)/\(g.op=C9->mn=true))(hc:S.length<c):U4 (EZ n c (f+1)) (T++EY S) mn (k+Da S) d:=by
 intro L R x h hR hx ho;rw[Lq] at h;obtain⟨y,hy,hg⟩:=hT L (EY S++R) x h (jU (fun g hg=>(hS g hg).2.1) hR) hx (by omega);have hl:=hg.len;obtain⟨z,hz,hgz⟩:=bB (c0:=c) hd S hS c c none (fun s a e=>by cases e) L R y hc hc (by omega) hg.1 hR (by rw[hg.2.1];exact hx) (by show y.out.length+(Da S+0)<=200;omega);refine⟨z,?_,(hg.trans hgz).mono (by show k+(Da S+0)<=k+Da S;omega)⟩;show(FQ n (EZ n c f) c x).bind (Fd (FQ n (EZ n c f) c) c)=some z;unfold FQ;rw[hy,Zo];exact hz
end
end Go.Proofs.YtnmkbmefohakmaaGreat.Ab
