/-
 look.once, where what it answers is a row of one's own.
-/
import Derived.Test.YtnmkbmefohakmaaGreatAbU
import Derived.Test.YtnmkbmefohakmaaGreatProg
import Derived.IntWalk
import Derived.KernelRfl
import Derived.Deep.LoopGhost
import Derived.Ground.NamesProg
import Derived.Ground.Names2Prog
import Derived.Shelf.Slices.In.CompactS
import Derived.Shelf.Slices.In.SortNone
import Derived.Sort.EveryDepth
set_option linter.all false
namespace Go.Proofs.YtnmkbmefohakmaaGreat.Ab
end Go.Proofs.YtnmkbmefohakmaaGreat.Ab
namespace Go.Proofs.YtnmkbmefohakmaaGreat.Ab
open Go.RowKit
@[go_sem] theorem YF (hp:Hp)(id ver:Nat)(es:List (List D)):JO hp (AW id ver es)=(Fo (hp id) ver id es).map fun(d,b,is)=>(.d d,b,is):=by
 rw[<-tl];cases es<;>rfl
@[go_sem] theorem VH {tab:Nat->TI}{d T e:Nat}(h:T=e/\(tab T).kind= .slice/\(tab (tab T).elem).ok/\0<(tab (tab T).elem).size)(c:List (List D))(b:Bool)(is:List Nat)(id ver:Nat)(o:Option AO):
  GP tab d T e (some (c,b,is)) id ver [] o=if EZ (tab (tab T).elem).size c/\(tab (tab T).elem).bytes<=32768/\c.length<=4294967296 then
   (if c.length=0 then some (.v (.slice none 0 0),[]) else some (.so d 0 0 c.length,[(d,.rw c (tab (tab T).elem).size 0 b false)])) else none:=by
 unfold GP;rw[if_pos h]
@[go_sem] theorem VI {tab:Nat->TI}{l T j:Nat}(h:T=j/\(tab T).kind= .slice/\(tab (tab T).elem).ok/\0<(tab (tab T).elem).size)(c:List (List D))(b:Bool)(is:List Nat)(id ver:Nat)(es d:List (List D))(sz v:Nat)(br:Bool)(hp:0<es.length):
  GP tab l T j (some (c,b,is)) id ver es (some (.rw d sz v br false))=if ver=v/\es.length<=d.length/\sz=(tab (tab T).elem).size/\EZ sz c/\(tab (tab T).elem).bytes<=32768/\es.length+c.length<=4294967296 then
      some (.so id (v+1) 0 (es.length+c.length),[(id,.rw (d.take es.length++c) sz (v+1) (br||b) false)]) else none:=by
 unfold GP;rw[if_pos h];cases es with
 |nil=>simp at hp
 |cons e r=>rfl
theorem vJ {α:Type}{xs b:List α}{c d:Nat}(f:α->List D)(h:b=List.drop c (List.take d xs)):List.take b.length (List.drop c (List.map f xs))=List.map f b:=by
 rw[h,List.drop_take,<-List.map_drop,Lx,NZ];conv=>rhs;rw[List.take_eq_take_min]
 rw[Lt]
theorem VJ {α:Type}{xs b:List α}{c:Nat}(f:α->List D)(h:b=List.drop 0 (List.take c xs)):List.take b.length (List.map f xs)=List.map f b:=by
 have:=vJ f h;rwa [LD] at this
end Go.Proofs.YtnmkbmefohakmaaGreat.Ab
namespace Go.Proofs.YtnmkbmefohakmaaGreat.Ab
theorem pA:∃t,t=Jm Tryz.prog:=⟨_,rfl⟩
noncomputable def tab:Nat->TI:=Classical.choose pA
theorem pB:tab=Jm Tryz.prog:=OX pA
theorem Ev:Ad Tryz.prog tab:=pB▸tH _
theorem DR {k:Nat}{x:TI}(h:Jm Tryz.prog k=x:=by kernel_rfl):tab k=x:=by rw[pB];exact h
theorem FI:Tryz.prog.follows .mixedOrders=true:=by kernel_rfl
@[go_sem] theorem zB:tab 2={ ok:=true,kind:=.int .i64,zero:=[.int .i64 0] }:=DR
@[go_sem] theorem zC:tab 3={ ok:=true,kind:=.int .i64,zero:=[.int .i64 0] }:=DR
@[go_sem] theorem zD:tab 4={ ok:=true,kind:=.bool,bytes:=1,zero:=[.bool false] }:=DR
@[go_sem] theorem zF:tab 9={ ok:=true,kind:=.string,bytes:=16,zero:=[.string ByteArray.empty] }:=DR
@[go_sem] theorem pC:tab 22={ ok:=true,kind:=.slice,bytes:=24,elem:=2,zero:=[.slice none 0 0] }:=DR
@[go_sem] theorem pD:tab 23={ ok:=true,kind:=.slice,bytes:=24,elem:=88,zero:=[.slice none 0 0] }:=DR
@[go_sem] theorem pE:tab 26={ ok:=true,kind:=.slice,bytes:=24,elem:=35,zero:=[.slice none 0 0] }:=DR
@[go_sem] theorem pF:tab 29={ ok:=true,kind:=.struct,size:=2,bytes:=32,offs:=[(0,1),(1,1)],zero:=[.string ByteArray.empty,.string ByteArray.empty],flat:=some [.string,.string] }:=DR
@[go_sem] theorem pG:tab 31={ ok:=true,kind:=.struct,size:=3,bytes:=48,offs:=[(0,1),(1,1),(2,1)],zero:=[.string ByteArray.empty,.string ByteArray.empty,.string ByteArray.empty],flat:=some [.string,.string,.string] }:=DR
@[go_sem] theorem pH:tab 35={ ok:=true,kind:=.struct,size:=6,bytes:=96,offs:=[(0,2),(2,1),(3,3)],zero:=[.string ByteArray.empty,.string ByteArray.empty,.string ByteArray.empty,.string ByteArray.empty,.string ByteArray.empty,.string ByteArray.empty],flat:=some [.string,.string,.string,.string,.string,.string] }:=DR
@[go_sem] theorem pI:tab 47={ ok:=true,kind:=.slice,bytes:=24,elem:=9,zero:=[.slice none 0 0] }:=DR
@[go_sem] theorem pJ:tab 48={ ok:=true,kind:=.int .u64,zero:=[.int .u64 0] }:=DR
@[go_sem] theorem pK:tab 49={ ok:=true,kind:=.slice,bytes:=24,elem:=31,zero:=[.slice none 0 0] }:=DR
@[go_sem] theorem pL:tab 50={ ok:=true,kind:=.slice,bytes:=24,elem:=57,zero:=[.slice none 0 0] }:=DR
@[go_sem] theorem pM:tab 52={ ok:=true,kind:=.struct,size:=3,bytes:=64,offs:=[(0,1),(1,1),(2,1)],zero:=[.string ByteArray.empty,.slice none 0 0,.slice none 0 0] }:=DR
@[go_sem] theorem pO:tab 55={ ok:=true,kind:=.slice,bytes:=24,elem:=4,zero:=[.slice none 0 0] }:=DR
@[go_sem] theorem pP:tab 57={ ok:=true,kind:=.struct,size:=3,bytes:=40,offs:=[(0,1),(1,1),(2,1)],zero:=[.int .i64 0,.string ByteArray.empty,.string ByteArray.empty],flat:=some [.int .i64,.string,.string] }:=DR
@[go_sem] theorem pQ:tab 60={ ok:=true,kind:=.struct,size:=2,bytes:=24,offs:=[(0,1),(1,1)],zero:=[.string ByteArray.empty,.int .i64 0],flat:=some [.string,.int .i64] }:=DR
@[go_sem] theorem pR:tab 75={ ok:=true,kind:=.ptr,elem:=103,zero:=[.pointer none] }:=DR
@[go_sem] theorem pS:tab 81={ ok:=true,kind:=.slice,bytes:=24,elem:=120,zero:=[.slice none 0 0] }:=DR
@[go_sem] theorem pT:tab 86={ ok:=true,kind:=.slice,bytes:=24,elem:=52,zero:=[.slice none 0 0] }:=DR
@[go_sem] theorem pU:tab 88={ ok:=true,kind:=.struct,size:=2,bytes:=40,offs:=[(0,1),(1,1)],zero:=[.string ByteArray.empty,.slice none 0 0] }:=DR
@[go_sem] theorem pV:tab 90={ ok:=true,kind:=.slice,bytes:=24,elem:=160,zero:=[.slice none 0 0] }:=DR
@[go_sem] theorem pW:tab 91={ ok:=true,kind:=.slice,bytes:=24,elem:=3,zero:=[.slice none 0 0] }:=DR
@[go_sem] theorem d9:tab 100={ ok:=true,kind:=.ptr,elem:=176,zero:=[.pointer none] }:=DR
@[go_sem] theorem eC:tab 101={ ok:=true,kind:=.ptr,elem:=113,zero:=[.pointer none] }:=DR
@[go_sem] theorem eE:tab 103={ ok:=true,kind:=.struct,size:=3,bytes:=40,offs:=[(0,1),(1,1),(2,1)],zero:=[.pointer none,.pointer none,.slice none 0 0] }:=DR
@[go_sem] theorem eG:tab 105={ ok:=true,kind:=.map,elem:=49,zero:=[.map none],mkey:=some (true,[.string,.string,.string]) }:=DR
@[go_sem] theorem eJ:tab 106={ ok:=true,kind:=.map,elem:=47,zero:=[.map none],mkey:=some (false,[.string]) }:=DR
@[go_sem] theorem eM:tab 108={ ok:=true,kind:=.struct,size:=2,bytes:=16,offs:=[(0,1),(1,1)],zero:=[.map none,.map none] }:=DR
@[go_sem] theorem eO:tab 109={ ok:=true,kind:=.map,elem:=81,zero:=[.map none],mkey:=some (true,[.string,.string,.string]) }:=DR
@[go_sem] theorem eQ:tab 111={ ok:=true,kind:=.struct,size:=2,bytes:=16,offs:=[(0,1),(1,1)],zero:=[.map none,.map none] }:=DR
@[go_sem] theorem eW:tab 113={ ok:=true,kind:=.struct,size:=4,bytes:=32,offs:=[(0,2),(2,2)],zero:=[.map none,.map none,.map none,.map none] }:=DR
@[go_sem] theorem eX:tab 120={ ok:=true,kind:=.struct,size:=3,bytes:=48,offs:=[(0,2),(2,1)],zero:=[.string ByteArray.empty,.string ByteArray.empty,.string ByteArray.empty],flat:=some [.string,.string,.string] }:=DR
@[go_sem] theorem eY:tab 121={ ok:=true,kind:=.slice,bytes:=24,elem:=129,zero:=[.slice none 0 0] }:=DR
@[go_sem] theorem eZ:tab 126={ ok:=true,kind:=.struct,size:=8,bytes:=96,offs:=[(0,1),(1,1),(2,1),(3,1),(4,1),(5,1),(6,1),(7,1)],zero:=[.slice none 0 0,.int .i64 0,.int .i64 0,.int .i64 0,.int .i64 0,.int .i64 0,.slice none 0 0,.int .i64 0] }:=DR
@[go_sem] theorem ec:tab 129={ ok:=true,kind:=.struct,size:=3,bytes:=32,offs:=[(0,1),(1,1),(2,1)],zero:=[.int .i64 0,.int .i64 0,.string ByteArray.empty],flat:=some [.int .i64,.int .i64,.string] }:=DR
@[go_sem] theorem ei:tab 137={ ok:=true,kind:=.ptr,elem:=140,zero:=[.pointer none] }:=DR
@[go_sem] theorem ej:tab 138={ ok:=true,kind:=.map,elem:=144,zero:=[.map none],mkey:=some (true,[.string,.string,.string]) }:=DR
@[go_sem] theorem ep:tab 140={ ok:=true,kind:=.struct,size:=6,bytes:=88,offs:=[(0,1),(1,3),(4,1),(5,1)],zero:=[.pointer none,.string ByteArray.empty,.string ByteArray.empty,.string ByteArray.empty,.map none,.slice none 0 0] }:=DR
@[go_sem] theorem eu:tab 143={ ok:=true,kind:=.struct,size:=4,bytes:=64,offs:=[(0,1),(1,1),(2,1),(3,1)],zero:=[.int .i64 0,.slice none 0 0,.slice none 0 0,.bool false] }:=DR
@[go_sem] theorem fA:tab 144={ ok:=true,kind:=.ptr,elem:=143,zero:=[.pointer none] }:=DR
@[go_sem] theorem fB:tab 153={ ok:=true,kind:=.array 6,size:=6,bytes:=96,offs:=[(0,1),(1,1),(2,1),(3,1),(4,1),(5,1)],elem:=9,zero:=[.string ByteArray.empty,.string ByteArray.empty,.string ByteArray.empty,.string ByteArray.empty,.string ByteArray.empty,.string ByteArray.empty] }:=DR
@[go_sem] theorem fC:tab 157={ ok:=true,kind:=.slice,bytes:=24,elem:=162,zero:=[.slice none 0 0] }:=DR
@[go_sem] theorem fD:tab 160={ ok:=true,kind:=.struct,size:=2,bytes:=32,offs:=[(0,1),(1,1)],zero:=[.string ByteArray.empty,.string ByteArray.empty],flat:=some [.string,.string] }:=DR
@[go_sem] theorem fE:tab 162={ ok:=true,kind:=.struct,size:=3,bytes:=40,offs:=[(0,1),(1,1),(2,1)],zero:=[.string ByteArray.empty,.string ByteArray.empty,.bool false],flat:=some [.string,.string,.bool] }:=DR
@[go_sem] theorem fF:tab 167={ ok:=true,kind:=.struct,size:=7,bytes:=144,offs:=[(0,1),(1,1),(2,1),(3,1),(4,3)],zero:=[.slice none 0 0,.slice none 0 0,.slice none 0 0,.slice none 0 0,.string ByteArray.empty,.string ByteArray.empty,.string ByteArray.empty] }:=DR
@[go_sem] theorem fG:tab 172={ ok:=true,kind:=.map,elem:=3,zero:=[.map none],mkey:=some (false,[.string]) }:=DR
@[go_sem] theorem fH:tab 173={ ok:=true,kind:=.map,elem:=52,zero:=[.map none],mkey:=some (true,[.string,.string]) }:=DR
@[go_sem] theorem fI:tab 174={ ok:=true,kind:=.map,elem:=3,zero:=[.map none],mkey:=some (true,[.string,.string]) }:=DR
@[go_sem] theorem fJ:tab 176={ ok:=true,kind:=.struct,size:=3,bytes:=24,offs:=[(0,1),(1,1),(2,1)],zero:=[.map none,.map none,.map none] }:=DR
@[go_sem] theorem fK:tab 178={ ok:=true,kind:=.slice,bytes:=24,elem:=181,zero:=[.slice none 0 0] }:=DR
@[go_sem] theorem fL:tab 181={ ok:=true,kind:=.struct,size:=2,bytes:=32,offs:=[(0,1),(1,1)],zero:=[.string ByteArray.empty,.string ByteArray.empty],flat:=some [.string,.string] }:=DR
@[go_sem] theorem fM:tab 200={ ok:=true,kind:=.map,elem:=201,zero:=[.map none],mkey:=some (true,[.string,.string]) }:=DR
@[go_sem] theorem fN:tab 201={ ok:=true,kind:=.slice,bytes:=24,elem:=204,zero:=[.slice none 0 0] }:=DR
@[go_sem] theorem fO:tab 204={ ok:=true,kind:=.struct,size:=3,bytes:=40,offs:=[(0,2),(2,1)],zero:=[.string ByteArray.empty,.string ByteArray.empty,.int .i64 0],flat:=some [.string,.string,.int .i64] }:=DR
@[go_sem] theorem fP:tab 243={ ok:=true,kind:=.slice,bytes:=24,elem:=201,zero:=[.slice none 0 0] }:=DR
end Go.Proofs.YtnmkbmefohakmaaGreat.Ab
namespace Go.Proofs.YtnmkbmefohakmaaGreat.Ab
open Go.RowKit
structure AL where
 type_:ByteArray
 id_:ByteArray
 rel:ByteArray
 deriving DecidableEq,Inhabited
abbrev AR (x:AL):List D:=[D.v (.string x.type_),D.v (.string x.id_),D.v (.string x.rel)]
def FD (x:AL):Value:=.agg #[.string x.type_,.string x.id_,.string x.rel]
theorem yV:E8 (true,[.string,.string,.string]) FD:=fun a b=>by
 have e:(a==b)=((a.type_==b.type_)&&(a.id_==b.id_)&&(a.rel==b.rel)):=by
  have⟨c,d,h⟩:=a;have⟨j,l,o⟩:=b;rw[LY];simp[and_assoc]
 rw[e];simp[FD,Jc,EP,GG,Ot]
structure AX where
 kind:Int
 a:ByteArray
 b:ByteArray
 deriving DecidableEq,Inhabited
abbrev AY (x:AX):List D:=[D.v (.int .i64 x.kind),D.v (.string x.a),D.v (.string x.b)]
structure AZ where
 name:ByteArray
 subs:List AL
 expr:List AX
 deriving DecidableEq,Inhabited
abbrev Al (x:AZ):List D:=[D.v (.string x.name),D.sl (List.map AR x.subs),D.sl (List.map AY x.expr)]
structure AG where
 name:ByteArray
 rels:List AZ
 deriving DecidableEq,Inhabited
abbrev AS (x:AG):List D:=[D.v (.string x.name),D.sl (List.map Al x.rels)]
structure Ae where
 type_:ByteArray
 id_:ByteArray
 deriving DecidableEq,Inhabited
abbrev DF (x:Ae):List D:=[D.v (.string x.type_),D.v (.string x.id_)]
structure AC where
 obj:Ae
 rel:ByteArray
 sub_:AL
 deriving DecidableEq,Inhabited
abbrev AE (x:AC):List D:=[D.v (.string x.obj.type_),D.v (.string x.obj.id_),D.v (.string x.rel),D.v (.string x.sub_.type_),D.v (.string x.sub_.id_),D.v (.string x.sub_.rel)]
structure AA where
 typ:ByteArray
 rel:ByteArray
 deriving DecidableEq,Inhabited
abbrev Ag (x:AA):List D:=[D.v (.string x.typ),D.v (.string x.rel)]
def qa_ (x:AA):Value:=.agg #[.string x.typ,.string x.rel]
theorem Kh:E8 (true,[.string,.string]) qa_:=fun a b=>by
 have e:(a==b)=((a.typ==b.typ)&&(a.rel==b.rel)):=by
  have⟨c,d⟩:=a;have⟨h,j⟩:=b;rw[LY];simp
 rw[e];simp[qa_,Jc,EP,GG]
structure AD where
 types:List (ByteArray × Int)
 rels:List (AA × AZ)
 ranks:List (AA × Int)
 deriving DecidableEq,Inhabited
abbrev Av (x:AD):List D:=[D.mp (A7 Value.string false eI x.types),D.mp (A7 qa_ true Al x.rels),D.mp (A7 qa_ false eI x.ranks)]
structure AB where
 obj:Ae
 rel:ByteArray
 deriving DecidableEq,Inhabited
abbrev AF (x:AB):List D:=[D.v (.string x.obj.type_),D.v (.string x.obj.id_),D.v (.string x.rel)]
def Em (x:AB):Value:=.agg #[.string x.obj.type_,.string x.obj.id_,.string x.rel]
theorem Ra:E8 (true,[.string,.string,.string]) Em:=fun a b=>by
 have e:(a==b)=((a.obj.type_==b.obj.type_)&&(a.obj.id_==b.obj.id_)&&(a.rel==b.rel)):=by
  have⟨⟨c,d⟩,h⟩:=a;have⟨⟨j,l⟩,o⟩:=b;rw[LY];simp[and_assoc]
 rw[e];simp[Em,Jc,EP,GG,Ot]
structure Cj where
 subs:List (AB × (List AL))
 objs:List (ByteArray × (List ByteArray))
 deriving DecidableEq,Inhabited
abbrev EW (x:Cj):List D:=[D.mp (A7 Em false (eL AR) x.subs),D.mp (A7 Value.string false (eL eS) x.objs)]
structure Ck where
 refs:List (AL × (List AB))
 users:List (ByteArray × (List ByteArray))
 deriving DecidableEq,Inhabited
abbrev Ej (x:Ck):List D:=[D.mp (A7 FD false (eL AF) x.refs),D.mp (A7 Value.string false (eL eS) x.users)]
structure A9 where
 left:Cj
 right:Ck
 deriving DecidableEq,Inhabited
abbrev A8 (x:A9):List D:=[D.mp (A7 Em false (eL AR) x.left.subs),D.mp (A7 Value.string false (eL eS) x.left.objs),D.mp (A7 FD false (eL AF) x.right.refs),D.mp (A7 Value.string false (eL eS) x.right.users)]
structure AI where
 schema:AD
 index:A9
 rows_:List AC
 deriving DecidableEq,Inhabited
abbrev Ak (x:AI):List D:=[D.pt (Av x.schema) 0,D.pt (A8 x.index) 0,D.sl (List.map AE x.rows_)]
structure CA where
 after:ByteArray
 most:Int
 deriving DecidableEq,Inhabited
abbrev Cn (x:CA):List D:=[D.v (.string x.after),D.v (.int .i64 x.most)]
variable {A0 A1 A2 A3 F p q:Prop}{Q:Ex->St->Prop}{c0 i n nx0:Nat}{caps vs:List AV}{code:Code}{ds:List D}{dst:Option Nat}{f g:FuncId}{fr:Fr}{hp:Hp}{is:List Nat}{k:List It}{ops:Array Oper}{r:List Oper}{rs:Array ResultVar}{s:St}{α β:Type}{xs:List α}{zs:List DA}
section
variable {P:Program}{tab:Nat->TI}
theorem Z0 (k:q)(e:p=q:=by conv=>lhs;try simp -implicitDefEqProofs only[go_sem,Ng,Int.reduceToNat,Int.reduceLT,Int.reduceLE,Int.reduceBEq,Int.reduceBNe,Nat.reduceLT,Nat.reduceBEq,Int.reduceEq,Nat.reduceEqDiff,Nat.reduceAdd,Nat.reduceSub,Nat.reduceMul,Nat.reduceLeDiff,reduceCtorEq, ↓reduceIte,or_true,or_false,true_or,false_or,jI,jJ,AR,AY,Al,AS,DF,AE,Ag,Av,AF,EW,Ej,A8,Ak,Cn]):p:=
 (e).mpr k
theorem Z1 (w:F)(k:q)(e:F->p=q:=by intro w;conv=>lhs;try simp -implicitDefEqProofs only[go_sem,Ng,Int.reduceToNat,Int.reduceLT,Int.reduceLE,Int.reduceBEq,Int.reduceBNe,Nat.reduceLT,Nat.reduceBEq,Int.reduceEq,Nat.reduceEqDiff,Nat.reduceAdd,Nat.reduceSub,Nat.reduceMul,Nat.reduceLeDiff,reduceCtorEq, ↓reduceIte,or_true,or_false,true_or,false_or,jI,jJ,AR,AY,Al,AS,DF,AE,Ag,Av,AF,EW,Ej,A8,Ak,Cn,w]):p:=
 (e w).mpr k
theorem CT {b:Bool}{d:D}{f:Bool}(c:AM P g ds d f)(h:Rt P tab ops nx0 k Q i r ⟨CM dst (CI (!f&&b) d) s.fr,s.hp,s.nx⟩)(e:C8 s.hp (vs++caps)=some (ds,b,is):=by first |rfl |(refine Z0 ?_;first |trivial |rfl))(j:is= []\/f=true:=by first |exact .inr rfl |exact .inl rfl):KK P tab ops nx0 k Q i r dst s (.fn g caps) vs:=
 UP (e) c j h
theorem yW {b:Bool}{d:D}{f:Bool}(w:F)(c:AM P g ds d f)(h:Rt P tab ops nx0 k Q i r ⟨CM dst (CI (!f&&b) d) s.fr,s.hp,s.nx⟩)(e:F->C8 s.hp (vs++caps)=some (ds,b,is):=by intro w;first |rfl |(refine Z1 w ?_;first |trivial |rfl))(j:is= []\/f=true:=by first |exact .inr rfl |exact .inl rfl):KK P tab ops nx0 k Q i r dst s (.fn g caps) vs:=
 UP (e w) c j h
theorem Ds {nx:Nat}{c:List C7}{ids:List Nat}{b:Bool}{d:D}{f:Bool}(e:AM P g ds d f)(h:Rd P tab ops nx0 nx k Q i r (⟨ids,[],false⟩::c) (CM dst (CI (!f&&b) d) fr) hp)(j:C8 hp (vs++caps)=some (ds,b,is):=by first |rfl |(refine Z0 ?_;first |trivial |rfl))(l:is= []\/f=true:=by first |exact .inr rfl |exact .inl rfl):Kz P tab ops nx0 nx k Q i r dst c ids fr hp (.fn g caps) vs:=
 XN (j) e l h
theorem yX {nx:Nat}{c:List C7}{ids:List Nat}{b:Bool}{d:D}{f:Bool}(w:F)(e:AM P g ds d f)(h:Rd P tab ops nx0 nx k Q i r (⟨ids,[],false⟩::c) (CM dst (CI (!f&&b) d) fr) hp)(j:F->C8 hp (vs++caps)=some (ds,b,is):=by intro w;first |rfl |(refine Z1 w ?_;first |trivial |rfl))(l:is= []\/f=true:=by first |exact .inr rfl |exact .inl rfl):Kz P tab ops nx0 nx k Q i r dst c ids fr hp (.fn g caps) vs:=
 XN (j w) e l h
theorem Tk {b:Bool}{d:D}{f:Bool}(c:CP P g zs d f)(h:Rt P tab ops nx0 k Q i r ⟨CM dst (CI (!f&&b) d) s.fr,s.hp,s.nx⟩)(e:Es s.hp (vs++caps)=some (zs,b,is):=by first |rfl |(refine Z0 ?_;first |trivial |rfl))(j:is= []\/f=true:=by first |exact .inr rfl |exact .inl rfl):KK P tab ops nx0 k Q i r dst s (.fn g caps) vs:=
 jS (e) c j h
theorem WS {b:Bool}{d:D}{f:Bool}(w:F)(c:CP P g zs d f)(h:Rt P tab ops nx0 k Q i r ⟨CM dst (CI (!f&&b) d) s.fr,s.hp,s.nx⟩)(e:F->Es s.hp (vs++caps)=some (zs,b,is):=by intro w;first |rfl |(refine Z1 w ?_;first |trivial |rfl))(j:is= []\/f=true:=by first |exact .inr rfl |exact .inl rfl):KK P tab ops nx0 k Q i r dst s (.fn g caps) vs:=
 jS (e w) c j h
theorem As {d:D}{fr b:Bool}{v:AV}(c:Fj tab rs s=some v:=by first |(refine Z0 ?_;first |trivial |rfl) |rfl)(e:toR s.hp v=some (d,b,is):=by first |rfl |(refine Z0 ?_;first |trivial |rfl))(j:fr=true->b=false:=by intro h;first |rfl |cases h):DX tab rs (Fk d fr) .ret s:=
 IQ c (e) rfl j
theorem Rb {d:D}{fr b:Bool}{v:AV}(w:F)(c:Fj tab rs s=some v:=by first |(refine Z0 ?_;first |trivial |rfl) |rfl)(e:F->toR s.hp v=some (d,b,is):=by intro w;first |rfl |(refine Z1 w ?_;first |trivial |rfl))(j:fr=true->b=false:=by intro h;first |rfl |cases h):DX tab rs (Fk d fr) .ret s:=
 IQ c (e w) rfl j
theorem ZP (c:Ad P tab)(_:P.follows .mixedOrders=true){fn:Func}{d:D}{b:Bool}(e:P.funcs[f]? =some fn)(h:CQ 0 P [.c code] (DX tab rs (Fk d b)) ⟨D0 (ds.map (CI true)),AK,0⟩)(j:fn.results=rs:=by rfl)(l:fn.body=some code:=by rfl)(o:(fn.name== "runtime.NumGoroutine")=false:=by kernel_rfl)(t:Du fn.ntmps code=true:=by kernel_rfl)(u:Nat.ble ds.length fn.ntmps=true:=by rfl):AM P f ds d b:=by
 subst j;exact uO c e l o t (NI u) h
theorem nq (c:Ad P tab)(_:P.follows .mixedOrders=true){fn:Func}{d:D}{b:Bool}(e:P.funcs[f]? =some fn)(h:CQ 0 P [.c code] (DX tab rs (Fk d b)) ⟨D0 (zs.map DA.av),AK,0⟩)(j:fn.results=rs:=by rfl)(l:fn.body=some code:=by rfl)(o:(fn.name== "runtime.NumGoroutine")=false:=by kernel_rfl)(t:Du fn.ntmps code=true:=by kernel_rfl)(u:Nat.ble zs.length fn.ntmps=true:=by rfl):CP P f zs d b:=by
 subst j;exact uS c e l o t (NI u) h
theorem ZC (c:Ad P tab)(_:P.follows .mixedOrders=true){fn:Func}{d:D}{b:Bool}(e:P.funcs[f]? =some fn)(h:CQ 0 P [.c code] (DX tab rs (K9 d b)) ⟨D0 (zs.map DA.av),AK,0⟩)(j:fn.results=rs:=by rfl)(l:fn.body=some code:=by rfl)(o:(fn.name== "runtime.NumGoroutine")=false:=by kernel_rfl)(t:Du fn.ntmps code=true:=by kernel_rfl)(u:Nat.ble zs.length fn.ntmps=true:=by rfl):CP P f zs d b:=by
 subst j;exact uq c e l o t (NI u) h
theorem ZB {ρ:Nat->Option Nat}{k j:Nat}{cs ds:List AV}(c:ρ k=some j)(d:hp j=some (.bx ds))(e:EK ρ cs=some ds):∀p,some (AO.bx cs)=some p->∃j b,ρ k=some j/\Ce ρ p=some b/\hp j=some b:=Sw c (tj e) d
theorem ZR {N nx:Nat}{b:Fr}{hp':Hp}(L:List (Nat × Nat))(d:(Nat.ble n N&&Sv n N L)=true:=by rfl)(e:∀t,b t= .un\/CZ (lk n L) (b t)=some (fr t):=by repeat' (first |exact Mt _ |refine Xq (by rfl) ?_ |refine Xq (jF (by rfl)) ?_ |refine Xq (jH (by rfl) (by assumption)) ?_))(h:∀i o,hp' i=some o->∃j c,lk n L i=some j/\Ce (lk n L) o=some c/\hp j=some c:=by repeat' (first |exact Mu _ |refine K5 (Sw (by rfl) (by rfl) (by rfl)) ?_ |refine K5 (jG (by rfl) (by rfl)) ?_ |refine K5 (tm (by rfl) (by assumption) (by rfl)) ?_ |refine K5 tv ?_ |refine K5 (ZB (by rfl) (by rfl) (by repeat' (first |exact th _ |refine a8 (by rfl) ?_ |refine a8 (jF (by rfl)) ?_ |refine a8 (jH (by rfl) (by assumption)) ?_))) ?_)):CE n ⟨b,hp',N⟩ ⟨fr,hp,nx⟩:=QQ L d e h
theorem Y2 (b:A0)(c:A1):A0/\A1:=⟨b,c⟩
theorem Y3 (b:A0)(c:A1)(d:A2):A0/\A1/\A2:=⟨b,c,d⟩
theorem Y4 (b:A0)(c:A1)(d:A2)(e:A3):A0/\A1/\A2/\A3:=⟨b,c,d,e⟩
theorem Y5 {b:Prop}(c:A0)(d:A1)(e:A2)(h:A3)(j:b):A0/\A1/\A2/\A3/\b:=⟨c,d,e,h,j⟩
theorem Y6 {b c:Prop}(d:A0)(e:A1)(h:A2)(j:A3)(l:b)(o:c):A0/\A1/\A2/\A3/\b/\c:=⟨d,e,h,j,l,o⟩
theorem YV {f:α->List D}(h:0<xs.length):∀id b,AW id b (xs.map f)= .so id b 0 xs.length:=fun _ _=>JN h
theorem YO {f:α->List D}(h:0<xs.length):∀b c d,Am b c d (xs.map f)=some (.rw (xs.map f) b c d false):=fun _ _ _=>U1 h
theorem Zi {a b:α}(h:some a=some b):a=b:=LI h
end
theorem ZT (m:Nat)(h:run Tryz.prog tab (k.take m) (DY n Tryz.prog (k.drop m) Q) s):CQ n Tryz.prog k Q s:=uN Ev FI m h
theorem Zo (a:α)(f:α->Option β):(some a).bind f=f a:=rfl
theorem Zx {x:α}{C:Prop}(h:none=some x):C:=nomatch h
def kp:List Nat->Fr->Fr->Fr
 |[],_,g=>g
 |a::l,f,g=>upd a (f a) (kp l f g)
def kh:List Nat->Hp->Hp->Hp
 |[],_,g=>g
 |a::l,f,g=>upd a (f a) (kh l f g)
attribute [go_sem] kp kh
section
variable {n:Nat}{P:Program}{k:List It}{Q:Ex->St->Prop}{fr:Fr}{hp:Hp}{nx m:Nat}{a:Code}{E T S G R:Type}{r:R}
theorem Tl {X Y:St->Prop}(H:CQ n P [.c a,.lp X] (DY n P k Q) s)(h:∀s,X s->Y s):CQ n P [.c a,.lp Y] (DY n P k Q) s:=
 DG.mono (fun e c b=>by cases e with |normal=>exact h _ b |_=>exact b) (show DG n P a (DY n P [.lp X] (DY n P k Q)) s from H)
theorem zj {X:Option T}{f:T->Option R}(H:X.bind f=some r)(b:Fr->Hp->T->St)(d:∀y,X=some y->f y=some r->CQ n P [.c a,.lp fun j=>CE n (b fr hp y) j] (DY n P k Q) ⟨fr,hp,nx⟩)(l:∀y,f y=some r->CQ n P k Q (b fr hp y)):CQ n P (.c a::k) Q ⟨fr,hp,nx⟩:=by
 have⟨e,o,c⟩:=AP H;exact Dw (α:={ y:T // e=y }) (fun y=>b fr hp y.1) (Tl (d e o c) fun _ h=>⟨⟨e,rfl⟩,h⟩) fun⟨y,h⟩=>l y (h▸c)
theorem EJ {X:Option T}{f:T->Option R}(H:X.bind f=some r)(b:Fr->Hp->T->G->St)(d:∀y,X=some y->f y=some r->CQ n P [.c a,.lp fun j=>∃g,CE n (b fr hp y g) j] (DY n P k Q) ⟨fr,hp,nx⟩)(l:∀y g,f y=some r->CQ n P k Q (b fr hp y g)):CQ n P (.c a::k) Q ⟨fr,hp,nx⟩:=by
 have⟨e,o,c⟩:=AP H;exact Dw (α:={ y:T // e=y } × G) (fun y=>b fr hp y.1.1 y.2) (Tl (d e o c) fun _ ⟨g,h⟩=>⟨⟨⟨e,rfl⟩,g⟩,h⟩) fun⟨⟨y,h⟩,g⟩=>l y g (h▸c)
theorem zi {X:Option (T ⊕ E)}{f:T ⊕ E->Option R}(H:X.bind f=some r)(b:Fr->Hp->T->St)(d:∀e,X=some e->f e=some r->CQ n P [.c a,.lp fun j=>∃y,e= .inl y/\CE n (b fr hp y) j] (DY n P k Q) ⟨fr,hp,nx⟩)(l:∀y,f (.inl y)=some r->CQ n P k Q (b fr hp y)):CQ n P (.c a::k) Q ⟨fr,hp,nx⟩:=by
 have⟨e,o,c⟩:=AP H;exact Dw (α:={ y:T // e= .inl y }) (fun y=>b fr hp y.1) (Tl (d e o c) fun _ ⟨y,h,t⟩=>⟨⟨y,h⟩,t⟩) fun⟨y,h⟩=>l y (h▸c)
theorem WU {X:Option (T ⊕ E)}{f:T ⊕ E->Option R}(H:X.bind f=some r)(b:Fr->Hp->T->G->St)(d:∀e,X=some e->f e=some r->CQ n P [.c a,.lp fun j=>∃y g,e= .inl y/\CE n (b fr hp y g) j] (DY n P k Q) ⟨fr,hp,nx⟩)(l:∀y g,f (.inl y)=some r->CQ n P k Q (b fr hp y g)):CQ n P (.c a::k) Q ⟨fr,hp,nx⟩:=by
 have⟨e,o,c⟩:=AP H;exact Dw (α:={ y:T // e= .inl y } × G) (fun y=>b fr hp y.1.1 y.2) (Tl (d e o c) fun _ ⟨y,g,h,t⟩=>⟨⟨⟨y,h⟩,g⟩,t⟩) fun⟨⟨y,h⟩,g⟩=>l y g (h▸c)
theorem nt {F:Nat->S->Option E}{e:E}{d:S}(l:F c0 d=some e)(b:Fr->Hp->S->G->St)(j:G)(o:CE n (b fr hp d j) ⟨fr,hp,nx⟩)(t:∀c x g,F (c+1) x=some e->CQ n P [.c a,.lp fun u=>∃y g,F c y=some e/\CE n (b fr hp y g) u] (DY n P k Q) (b fr hp x g))(z:∀x,F 0 x=none:=by intro _;rfl):CQ n P (.c (.loop a)::k) Q ⟨fr,hp,nx⟩:=by
 refine DV (α:={ q:(Nat × S) × G // F q.1.1 q.1.2=some e }) (fun q=>b fr hp q.1.1.2 q.1.2) (fun q=>q.1.1.1) ⟨((c0,d),j),l⟩ o ?_;rintro⟨⟨⟨c,x⟩,g⟩,h⟩;cases c with
 |zero=>exact nomatch (z x).symm.trans h
 |succ c=>exact Tl (t c x g h) fun _ ⟨y,g,h,v⟩=>⟨⟨((c,y),g),h⟩,v,Ls _⟩
theorem zl {F:Nat->S->Option E}{e:E}{d:S}(j:F c0 d=some e)(b:Fr->Hp->S->St)(l:CE n (b fr hp d) ⟨fr,hp,nx⟩)(o:∀c x,F (c+1) x=some e->CQ n P [.c a,.lp fun t=>∃y,F c y=some e/\CE n (b fr hp y) t] (DY n P k Q) (b fr hp x))(z:∀x,F 0 x=none:=by intro _;rfl):CQ n P (.c (.loop a)::k) Q ⟨fr,hp,nx⟩:=
 nt j (fun f h s (_:Unit)=>b f h s) () l (fun c x _ h=>Tl (o c x h) fun _ ⟨y,h,u⟩=>⟨y,(),h,u⟩) z
theorem D9 {F:Nat->S->Option E}{e:E}{d:S}(h:F c0 d=some e)(b:Fr->Hp->S->St)(j:CE n (b fr hp d) ⟨fr,hp,nx⟩)(l:∀c x,F (c+1) x=some e->CQ n P [.c a,.lp fun o=>∃y,F c y=some e/\CE n (b fr hp y) o] (DY n P (.blk m::k) Q) (b fr hp x))(z:∀x,F 0 x=none:=by intro _;rfl):CQ n P (.c (.block m (.loop a))::k) Q ⟨fr,hp,nx⟩:=
 CV (zl h b j l z)
theorem DL {F:Nat->S->Option E}{e:E}{d:S}(j:F c0 d=some e)(b:Fr->Hp->S->G->St)(h:G)(l:CE n (b fr hp d h) ⟨fr,hp,nx⟩)(o:∀c x g,F (c+1) x=some e->CQ n P [.c a,.lp fun t=>∃y g,F c y=some e/\CE n (b fr hp y g) t] (DY n P (.blk m::k) Q) (b fr hp x g))(z:∀x,F 0 x=none:=by intro _;rfl):CQ n P (.c (.block m (.loop a))::k) Q ⟨fr,hp,nx⟩:=
 CV (nt j b h l o z)
end
theorem zI {R:Type}{i:Int}{r:R}{k:Nat}{h:α->Option R}(f:α->β)(H:(idx xs i).bind h=some r)(e:i.toNat=k:=by conv=>lhs;try simp only[Int.reduceToNat,Li]):∃x,0<=i/\xs[k]? =some x/\(EY (.v (.int .i64 i))=some k/\(xs.map f)[k]? =some (f x))/\h x=some r:=by
 subst e;have⟨x,b,H⟩:=AP H;exact⟨x,(F0 b).1,(F0 b).2,⟨CC .i64 (F0 b).1,Cz f (F0 b).2⟩,H⟩
theorem HJ {R:Type}{i:Int}{r:R}{k:Nat}{h:α->Option R}(H:(idx xs i).bind h=some r)(e:i.toNat=k:=by conv=>lhs;try simp only[Int.reduceToNat,Li]):∃x,0<=i/\xs[k]? =some x/\h x=some r:=by
 subst e;have⟨x,b,H⟩:=AP H;exact⟨x,(F0 b).1,(F0 b).2,H⟩
theorem Cb {c:Bool}{a b:Option β}{r:β}{W:Prop}(w:W)(h:(if c then a else b)=some r):((W/\c=true)/\a=some r)\/((W/\c=false)/\b=some r):=by
 rcases Ah h with⟨e,h⟩ |⟨e,h⟩
 · exact .inl ⟨⟨w,e⟩,h⟩
 · exact .inr ⟨⟨w,e⟩,h⟩
theorem CW {nx:Nat}{b:Fr}(h:∀t,b t= .un\/b t=fr t:=by repeat first |exact KM _ |refine DO rfl ?_):CE n ⟨b,hp,nx⟩ ⟨fr,hp,nx⟩:=.weak ⟨h,fun _=>.inr rfl,Lc _⟩
theorem AQ (k:q)(e:q->p:=by intro k;refine ZT 1 ?_;refine Z0 ?_;exact k):p:=e k
theorem Ax (k:q)(e:q->p:=by intro k;refine AU (ZT 1 ?_);refine Z0 ?_;exact k):p:=e k
theorem Dg (k:q)(e:q->p:=by intro k;refine AU (ZT 1 ?_);refine Z0 ?_;refine AU (ZT 1 ?_);refine Z0 ?_;exact k):p:=e k
theorem Dy (k:q)(e:q->p:=by intro k;refine AU (AU ?_);refine ZT 1 ?_;refine Z0 ?_;exact k):p:=e k
theorem Dj (w:F)(k:q)(e:F->q->p:=by intro w k;refine Z1 w ?_;refine DD (by rfl) ?_;refine Z1 w ?_;exact k):p:=e w k
theorem ES (w:F)(k:q)(e:F->q->p:=by intro w k;refine ZT 1 ?_;refine Z1 w ?_;exact k):p:=e w k
theorem JA (k:q)(e:q->p:=by intro k;refine AU (ZT 1 ?_);refine Z0 ?_;refine AU (AU ?_);refine ZT 1 ?_;refine Z0 ?_;exact k):p:=e k
theorem Ct (w:F)(k:q)(e:F->q->p:=by intro w k;refine Z1 w ?_;refine AU (ZT 1 ?_);exact k):p:=e w k
theorem J8 (w:F)(k:q)(e:F->q->p:=by intro w k;refine Z1 w ?_;refine AU (CV ?_);refine AU (ZT 1 ?_);exact k):p:=e w k
theorem HK (w:F)(k:q)(e:F->q->p:=by intro w k;refine Z1 w ?_;refine AU (AU ?_);refine ZT 1 ?_;refine Z1 w ?_;exact k):p:=e w k
theorem FM (w:F)(k:q)(e:F->q->p:=by intro w k;refine Z1 w ?_;refine ZT 1 ?_;refine Z0 ?_;exact k):p:=e w k
theorem FN (k:q)(e:q->p:=by intro k;refine Z0 ?_;refine ZT 1 ?_;refine Z0 ?_;exact k):p:=e k
theorem DQ (k:q)(e:q->p:=by intro k;refine Z0 ?_;refine AU (ZT 1 ?_);exact k):p:=e k
theorem Gt (w:F)(k:q)(e:F->q->p:=by intro w k;refine Z1 w ?_;refine AU (ZT 1 ?_);refine Z1 w ?_;exact k):p:=e w k
theorem WV (w:F)(k:q)(e:F->q->p:=by intro w k;refine Z1 w ?_;refine ZT 1 ?_;refine Z1 w ?_;exact k):p:=e w k
theorem Ki (k:q)(e:q->p:=by intro k;refine Z0 ?_;refine DD (by rfl) ?_;refine Z0 ?_;exact k):p:=e k
theorem MX (w:F)(k:q)(e:F->q->p:=by intro w k;refine Z1 w ?_;refine AU (CV ?_);refine AU (ZT 1 ?_);refine Z1 w ?_;exact k):p:=e w k
theorem nu (w:F)(k:q)(e:F->q->p:=by intro w k;refine Z1 w ?_;refine DD (by rfl) ?_;refine Z1 w ?_;refine AU (ZT 1 ?_);refine Z1 w ?_;exact k):p:=e w k

theorem zq {fn:Func}{nx:Nat}{R:AV->Hp->Nat->Prop}(b:Tryz.prog.funcs[f]? =some fn)(h:CQ nx Tryz.prog [.c code] (DX tab fn.results R) ⟨D0 vs,hp,nx⟩)(c:fn.body=some code:=by rfl)(d:(fn.name== "runtime.NumGoroutine")=false:=by kernel_rfl)(e:Du fn.ntmps code=true:=by kernel_rfl)(j:Nat.ble vs.length fn.ntmps=true:=by rfl):AT Tryz.prog f vs hp nx R:=
 U5 Ev b c d e (NI j) h
theorem zr {fn:Func}{nx:Nat}{R:AV->Hp->Nat->Prop}(b:Tryz.prog.funcs[f]? =some fn)(h:run Tryz.prog tab [.c code] (DX tab fn.results R) ⟨D0 vs,hp,nx⟩)(c:fn.body=some code:=by rfl)(d:(fn.name== "runtime.NumGoroutine")=false:=by kernel_rfl)(e:Du fn.ntmps code=true:=by kernel_rfl)(j:Nat.ble vs.length fn.ntmps=true:=by rfl):AT Tryz.prog f vs hp nx R:=
 KL Ev FI b c d e (NI j) h
theorem zz (e:p:=by refine Z0 ?_;first |trivial |rfl):p:=e
theorem zP (rs:Array ResultVar){fn:Func}{d:D}{b:Bool}(c:Tryz.prog.funcs[f]? =some fn)(h:CQ 0 Tryz.prog [.c code] (DX tab rs (Fk d b)) ⟨D0 (ds.map (CI true)),AK,0⟩)(e:fn.results=rs:=by rfl)(j:fn.body=some code:=by rfl)(l:(fn.name== "runtime.NumGoroutine")=false:=by kernel_rfl)(o:Du fn.ntmps code=true:=by kernel_rfl)(t:Nat.ble ds.length fn.ntmps=true:=by rfl):AM Tryz.prog f ds d b:=
 ZP Ev FI c h e j l o t
structure Ai where
 t:ByteArray
 rel:ByteArray
 deriving DecidableEq,Inhabited
abbrev CK (x:Ai):List D:=[D.v (.string x.t),D.v (.string x.rel)]
structure An where
 type_:ByteArray
 rel:ByteArray
 less:Bool
 deriving DecidableEq,Inhabited
abbrev Ao (x:An):List D:=[D.v (.string x.type_),D.v (.string x.rel),D.v (.bool x.less)]
structure CU where
 l:List AG
 rows_:List AC
 refs:List AB
 is:List Bool
 s:AL
 deriving DecidableEq,Inhabited
abbrev EG (x:CU):List D:=[D.sl (List.map AS x.l),D.sl (List.map AE x.rows_),D.sl (List.map AF x.refs),D.sl (List.map eB x.is),D.v (.string x.s.type_),D.v (.string x.s.id_),D.v (.string x.s.rel)]
end Go.Proofs.YtnmkbmefohakmaaGreat.Ab

namespace Go.Proofs
open Go.Shelf Go.RowKit Go.Sort
def Tryz.laysSort_ren:Go.Shelf.Ren:=⟨fun |190=>108 |125=>104 |258=>139 |128=>136 |129=>137 |302=>156 |303=>157 |304=>158 |305=>159 |306=>160 |307=>161 |308=>162 |309=>163 |310=>164 |333=>178 |329=>151 |330=>152 |334=>179 |335=>180 |336=>181 |344=>187 |n=>n,fun |31=>47 |9=>9 |3=>3 |46=>48 |0=>0 |51=>223 |53=>225 |4=>4 |183=>216 |182=>215 |131=>220 |5=>5 |218=>232 |222=>236 |228=>252 |229=>94 |n=>n,fun |n=>n⟩
theorem Tryz.laysSort:Go.Proofs.Lays.n190 Tryz.prog Tryz.laysSort_ren:={
 mixed:=by kernel_rfl
 f125:=Tryz.func104.trans (congrArg some (by kernel_rfl))
 f128:=Tryz.func136.trans (congrArg some (by kernel_rfl))
 f129:=Tryz.func137.trans (congrArg some (by kernel_rfl))
 f190:=Tryz.func108.trans (congrArg some (by kernel_rfl))
 f258:=Tryz.func139.trans (congrArg some (by kernel_rfl))
 f302:=Tryz.func156.trans (congrArg some (by kernel_rfl))
 f303:=Tryz.func157.trans (congrArg some (by kernel_rfl))
 f304:=Tryz.func158.trans (congrArg some (by kernel_rfl))
 f305:=Tryz.func159.trans (congrArg some (by kernel_rfl))
 f306:=Tryz.func160.trans (congrArg some (by kernel_rfl))
 f307:=Tryz.func161.trans (congrArg some (by kernel_rfl))
 f308:=Tryz.func162.trans (congrArg some (by kernel_rfl))
 f309:=Tryz.func163.trans (congrArg some (by kernel_rfl))
 f310:=Tryz.func164.trans (congrArg some (by kernel_rfl))
 f329:=Tryz.func151.trans (congrArg some (by kernel_rfl))
 f330:=Tryz.func152.trans (congrArg some (by kernel_rfl))
 f333:=Tryz.func178.trans (congrArg some (by kernel_rfl))
 f334:=Tryz.func179.trans (congrArg some (by kernel_rfl))
 f335:=Tryz.func180.trans (congrArg some (by kernel_rfl))
 f336:=Tryz.func181.trans (congrArg some (by kernel_rfl))
 f344:=Tryz.func187.trans (congrArg some (by kernel_rfl))
 t0:=Tryz.underlying0
 a0:=Tryz.isAgg0
 z0:=Tryz.sizeOf0
 v0:=Tryz.zeroValue0
 t3:=Tryz.underlying3
 a3:=Tryz.isAgg3
 z3:=Tryz.sizeOf3
 v3:=Tryz.zeroValue3
 t4:=Tryz.underlying4
 a4:=Tryz.isAgg4
 z4:=Tryz.sizeOf4
 v4:=Tryz.zeroValue4
 t5:=Tryz.underlying5
 a5:=Tryz.isAgg5
 z5:=Tryz.sizeOf5
 v5:=Tryz.zeroValue5
 t9:=Tryz.underlying9
 a9:=Tryz.isAgg9
 z9:=Tryz.sizeOf9
 v9:=Tryz.zeroValue9
 t31:=Tryz.underlying47
 a31:=Tryz.isAgg47
 z31:=Tryz.sizeOf47
 v31:=Tryz.zeroValue47
 t46:=Tryz.underlying48
 a46:=Tryz.isAgg48
 z46:=Tryz.sizeOf48
 v46:=Tryz.zeroValue48
 t51:=Tryz.underlying223
 a51:=Tryz.isAgg223
 z51:=Tryz.sizeOf223
 v51:=Tryz.zeroValue223
 t53:=Tryz.underlying225
 a53:=Tryz.isAgg225
 z53:=Tryz.sizeOf225
 v53:=Tryz.zeroValue225
 t131:=Tryz.underlying220
 a131:=Tryz.isAgg220
 z131:=Tryz.sizeOf220
 v131:=Tryz.zeroValue220
 t182:=Tryz.underlying215
 a182:=Tryz.isAgg215
 z182:=Tryz.sizeOf215
 v182:=Tryz.zeroValue215
 t183:=Tryz.underlying216
 a183:=Tryz.isAgg216
 z183:=Tryz.sizeOf216
 v183:=Tryz.zeroValue216
 t218:=Tryz.underlying232
 a218:=Tryz.isAgg232
 z218:=Tryz.sizeOf232
 v218:=Tryz.zeroValue232
 t222:=Tryz.underlying236
 a222:=Tryz.isAgg236
 z222:=Tryz.sizeOf236
 v222:=Tryz.zeroValue236
 t228:=Tryz.underlying252
 a228:=Tryz.isAgg252
 z228:=Tryz.sizeOf252
 v228:=Tryz.zeroValue252
 t229:=Tryz.underlying94
 a229:=Tryz.isAgg94
 z229:=Tryz.sizeOf94
 v229:=Tryz.zeroValue94 }
def Tryz.laysCompact_ren:Go.Shelf.Ren:=⟨fun |194=>109 |n=>n,fun |31=>47 |9=>9 |3=>3 |4=>4 |0=>0 |n=>n,fun |n=>n⟩
theorem Tryz.laysCompact:Go.Proofs.Lays.n194 Tryz.prog Tryz.laysCompact_ren:={
 mixed:=by kernel_rfl
 f194:=Tryz.func109.trans (congrArg some (by kernel_rfl))
 t0:=Tryz.underlying0
 a0:=Tryz.isAgg0
 z0:=Tryz.sizeOf0
 v0:=Tryz.zeroValue0
 t3:=Tryz.underlying3
 a3:=Tryz.isAgg3
 z3:=Tryz.sizeOf3
 v3:=Tryz.zeroValue3
 t4:=Tryz.underlying4
 a4:=Tryz.isAgg4
 z4:=Tryz.sizeOf4
 v4:=Tryz.zeroValue4
 t9:=Tryz.underlying9
 a9:=Tryz.isAgg9
 z9:=Tryz.sizeOf9
 v9:=Tryz.zeroValue9
 t31:=Tryz.underlying47
 a31:=Tryz.isAgg47
 z31:=Tryz.sizeOf47
 v31:=Tryz.zeroValue47 }
end Go.Proofs
namespace Go.Proofs.YtnmkbmefohakmaaGreat.Ab
open Go.Shelf Go.RowKit Go.Sort
theorem RE (b c:Nat)(zs:List (List UInt8))(w:World)(d:Holds encStr w b 0 zs.toArray)(h:b<w.heap.size)(j:zs.length<4611686018427387904):
  Calls Tryz.prog 108 #[.slice (some ⟨b,0,none⟩) zs.length c] w fun e l=>
   e= .returned (.tuple #[])/\∃n o,l=grow (putRow encStr (Sort.ahead w n) b 0 (zs.mergeSort fun x y=>decide (x<=y)).toArray) o:=
 calls_of_every_depth fun D=>AnyS.slices_Sort_string_alone Tryz.laysSort D b 0 c zs w d h j
theorem xA (b c:Nat)(zs:List (List UInt8))(w:World)(d:Holds encStr w b 0 zs.toArray)(h:zs.length<=9223372036854775807)(j:zs.length<=c):
  Calls Tryz.prog 109 #[.slice (some ⟨b,0,none⟩) zs.length c] w fun e l=>e= .returned (.slice (some ⟨b,0,none⟩) (Lib.compact zs).length c)/\∃q,l=putRow encStr (Sort.ahead w q) b 0 (Lib.compact zs++List.replicate (zs.length-(Lib.compact zs).length) []).toArray:=
 calls_of_every_depth fun D=>AnyS.slices_Compact_string_in Tryz.laysCompact D b 0 c zs w d h j
theorem mY:JK Tryz.prog 108:=⟨_,Tryz.func108,by kernel_rfl,by kernel_rfl⟩
theorem mZ:JK Tryz.prog 109:=⟨_,Tryz.func109,by kernel_rfl,by kernel_rfl⟩
theorem xB {w:World}{I:Nat->Prop}{d:Array Value}(e:d.size=1)(h:∀(j:Nat) (x:D),[D.sl []][j]? =some x->∃u,d[j]? =some u/\Dc w I x u):∃a c,d= #[.slice a 0 c]:=by
 have⟨u,l,t⟩:=h 0 _ rfl
 have:∃a c,u= .slice a 0 c:=by
  cases(show RC w I (.sl []) u from t) with
  |nl a c=>exact⟨a,c,rfl⟩
  |sl _ b o c=>exact⟨_,_,rfl⟩
 obtain⟨a,c,rfl⟩:=this;refine⟨a,c,?_⟩;apply Array.ext
 ·simpa using e
 intro j v z;have y:j=0:=by omega
 subst y;simpa [v] using l
theorem xC:AM Tryz.prog 108 [.sl []] (.tu []) true:=by
 refine⟨mY,fun w l o _ b h=> ?_⟩;obtain⟨a,c,rfl⟩:=xB b h;refine Calls.mono (calls_of_every_depth fun D=>AnyS.slices_Sort_string_none_alone Tryz.laysSort D a c w) ?_;rintro e t ⟨rfl,rfl⟩;exact⟨_,rfl,⟨Below.refl _ _,Nat.le_refl _⟩, #[],rfl,rfl,fun j d e=>by simp at e⟩
theorem xD (x:ByteArray)(xs:List ByteArray)(o:xs.length<4294967296){b:Bool}{hp:Hp}{nx:Nat}:
  AT Tryz.prog 47 [.d (.sl ((x::xs).map eT)) b] hp nx fun v c d=>d=nx+7/\v= .so (nx+3) 1 0 (x::xs).length/\c=upd (nx+3) (some (.rw ((x::xs).map eT) 1 1 false false)) hp:=by
 have h:=jW (x:=eT x) (es:=xs.map eT) (b:=b) (hp:=hp) (nx:=nx) Ev FI Tryz.func47 (T:=47) (B:=4) rfl (by kernel_rfl) (by kernel_rfl) (by decide) rfl (by simp only[go_sem]) (by simp only[go_sem]) (by simp only[go_sem];decide) (by simp only[go_sem];decide)
  (by simp only[go_sem];simp) (by simp;omega)
 refine h.mono ?_;rintro v c d ⟨e,j,l⟩;refine⟨e,by simpa using j,l.trans ?_⟩;have hp:H9 (xs.map eT)=true:=by simp[H9,H0,SB]
 simp only[go_sem,hp,Bool.and_self,Bool.not_true,Bool.and_false]
def Jy (xs:List ByteArray):List ByteArray:=Dm (Fp xs)
end Go.Proofs.YtnmkbmefohakmaaGreat.Ab
namespace Go.Proofs.YtnmkbmefohakmaaGreat.Ab
open Go.RowKit
def Vr (b:Nat)(xs:List ByteArray):Option (List ByteArray):=if xs.length<=4294967296 then some (Jy xs) else none
theorem xE {P:Program}{f:FuncId}{vs:List AV}{hp0 hp:Hp}{nx id ver sz m N:Nat}{br:Bool}{es:List (List D)}(h:AT P f vs hp0 nx fun v t y=>∃l,m<=l.length/\l.take m=es/\v= .so id ver 0 m/\t=upd id (some (.rw l sz ver br false)) hp/\y=N):
  AT P f vs hp0 nx fun v t y=>v= .so id (ver+1) 0 m/\t=upd id (some (.rw es sz (ver+1) br false)) hp/\y=N:=by
 refine⟨h.1,fun g c I J K L M O=>(h.2 g c I J K L M O).mono ?_⟩;rintro e w' ⟨u,v,b,U,V,⟨l,hm,rfl,rfl,H,X⟩,rfl,Y,x,Z,aa,e9⟩;have w:b.hp id=some (.rw l sz ver br false):=by rw[H,At]
 have⟨ab,hz,T,ad,C,h3,h4,h5,h6,h7⟩:=x.obj id _ w;have⟨_,_,ag⟩:=x.dom id _ w;have z:CR b ⟨upd id (some (.rw (l.take m) sz (ver+1) br false)) b.hp,upd id (b.φ id) b.φ,b.w,b.kn⟩:=by
  refine CR.chg x w rfl rfl rfl rfl (Lc _) (fun _ _ _=>rfl) (.inl rfl) (fun _ h=>h) (fun h=>by cases h) (fun ak ao v2 aq av e=> ?_) (Lc _);cases e;exact⟨l,ver,br,false,rfl,Bj _,fun e=>by omega⟩
 have hh:HR g ⟨upd id (some (.rw (l.take m) sz (ver+1) br false)) b.hp,upd id (b.φ id) b.φ,b.w,b.kn⟩:=by
  refine HR.chg x w z (fun _ _ _=>rfl) (.inl rfl) ag ⟨ab,fun i A o=> ?_,T,ad,C,by simp only[At];exact h3,h4,by rw[Lx];omega,h6,fun i j A d o hj=> ?_⟩
  ·rw[Nh] at o;split at o
   ·exact hz i A o
   cases o
  rw[Nh] at o;split at o
  ·have⟨u2,k1,B⟩:=h7 i j A d o hj;exact⟨u2,k1,B.ext z⟩
  cases o
 refine⟨u,.so id (ver+1) 0 m,⟨upd id (some (.rw (l.take m) sz (ver+1) br false)) b.hp,upd id (b.φ id) b.φ,b.w,b.kn⟩,U,V,⟨rfl,?_,X⟩,rfl,Y.trans z,hh,?_,aa,e9⟩
 ·show upd id (some (.rw (l.take m) sz (ver+1) br false)) b.hp=_;rw[H,EU]
 have h8:RA g b (.so id ver 0 m) u:=Z;cases h8 with
 |so _ _ _ _ _ aE t h9=>
  have⟨_,B⟩:=h9 _ _ _ _ _ w;have⟨k3,a0,T2,C2,k4,k5,k6⟩:=B rfl;refine(show RA g _ (.so id (ver+1) 0 m) _ from RA.so id (ver+1) 0 m _ aE t fun ak ao v2 aq av e=> ?_);have e':=(At id (some (AO.rw (l.take m) sz (ver+1) br false)) b.hp).symm.trans e;cases e';refine⟨Lc _,fun _=>⟨by rw[Lx];omega,a0,T2,C2,?_,k5,?_⟩⟩
  ·simp only[At];exact k4
  simp only[At];exact k6
theorem ma {n:Nat}{xs r:List ByteArray}(h:Vr n xs=some r)(l:0<xs.length){b:Bool}{hp:Hp}{nx:Nat}:
  AT Tryz.prog 79 [.d (.sl (List.map eS xs)) b] hp nx fun v d e=>v= .so (nx+7) 2 0 r.length/\d=upd (nx+7) (some (.rw (List.map eS r) 1 2 false false)) hp/\e=nx+16:=by
 unfold Vr at h;split at h
 ·rename_i j;obtain rfl:=LI h;refine xE (KL (tab:=tab) Ev FI Tryz.func79 rfl (by kernel_rfl) (by kernel_rfl) (by simp[Tryz.f79]) ?_);refine Z0 ?_;cases xs with
  |nil=>simp at l
  |cons x r=>
   refine CO ((xD x r (by simp at j;omega)).mono ?_);rintro v d e ⟨rfl,rfl,rfl⟩;refine Z0 ?_;refine CO ((ub mY RE (x::r) (by simp at j⊢;omega) zz).mono ?_);rintro v d e ⟨rfl,rfl,rfl⟩;refine Z0 ?_;have o:r.length+1=(Fp (x::r)).length:=(by rw[jY];rfl);have t:(Fp (x::r)).length<=4294967296:=(by rw[jY];exact j);unfold Jy;rw[o];generalize Fp (x::r)=c at t;refine CO ((uc mZ xA c (by omega) zz).mono ?_);rintro v d e ⟨rfl,rfl,rfl⟩;refine Z0 ?_;refine GM (v:=.so (nx+7) 1 0 (Dm c).length) (by simp -implicitDefEqProofs only[go_sem, ↓reduceIte,Tryz.f79]<;>rfl) ⟨(Dm c++List.replicate (c.length-(Dm c).length) (FSq [])).map eT,?_,?_,rfl,?_,?_⟩
   ·simp
   ·rw[LX,show(Dm c).length=((Dm c).map eT).length from(Lt _).symm,List.take_left]
   ·rw[LX];exact(EU (nx+7) _ _ _).trans (EU (nx+7) _ _ _)
   rfl
 cases h
end Go.Proofs.YtnmkbmefohakmaaGreat.Ab
