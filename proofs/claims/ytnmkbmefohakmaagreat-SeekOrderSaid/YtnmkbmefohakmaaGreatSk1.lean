/-
 The search's nodes: what a node tells, read by a function inside, and one of some relations.
-/
import Derived.Test.YtnmkbmefohakmaaGreatAbU
import Derived.Test.YtnmkbmefohakmaaGreatProg
import Derived.IntWalk
import Derived.KernelRfl
namespace Go.Proofs.YtnmkbmefohakmaaGreat.Ab
end Go.Proofs.YtnmkbmefohakmaaGreat.Ab
namespace Go.Proofs.YtnmkbmefohakmaaGreat.Ab
open Go.RowKit
section
variable {hp hp':Hp}
end
@[go_sem] theorem toA_acc (hp:Hp)(id ver:Nat)(es:List (List D)):toA hp (accV id ver es)=(accT (hp id) ver id es).map fun(d,b,is)=>(.d d,b,is):=by
 rw[<-rB_];cases es<;>rfl
@[go_sem] theorem appB_nil {tab:Nat->TI}{nid T T':Nat}(h:T=T'/\(tab T).kind= .slice/\(tab (tab T).elem).ok/\0<(tab (tab T).elem).size)(ys:List (List D))(b:Bool)(is:List Nat)(id ver:Nat)(o:Option AO):
  appB tab nid T T' (some (ys,b,is)) id ver [] o=if chk (tab (tab T).elem).size ys/\(tab (tab T).elem).bytes<=32768/\ys.length<=4294967296 then
   (if ys.length=0 then some (.v (.slice none 0 0),[]) else some (.so nid 0 0 ys.length,[(nid,.rw ys (tab (tab T).elem).size 0 b false)])) else none:=by
 unfold appB;rw[if_pos h]
@[go_sem] theorem appB_pos {tab:Nat->TI}{nid T T':Nat}(h:T=T'/\(tab T).kind= .slice/\(tab (tab T).elem).ok/\0<(tab (tab T).elem).size)(ys:List (List D))(b:Bool)(is:List Nat)(id ver:Nat)(es es':List (List D))(sz v:Nat)(br:Bool)(hp:0<es.length):
  appB tab nid T T' (some (ys,b,is)) id ver es (some (.rw es' sz v br false))=if ver=v/\es.length<=es'.length/\sz=(tab (tab T).elem).size/\chk sz ys/\(tab (tab T).elem).bytes<=32768/\es.length+ys.length<=4294967296 then
      some (.so id (v+1) 0 (es.length+ys.length),[(id,.rw (es'.take es.length++ys) sz (v+1) (br||b) false)]) else none:=by
 unfold appB;grind
theorem part_mid {α:Type}{xs ys:List α}{lo hi:Nat}(f:α->List D)(h:ys=List.drop lo (List.take hi xs)):List.take ys.length (List.drop lo (List.map f xs))=List.map f ys:=by
 grind [List.drop_take,List.map_drop,List.length_take,List.map_take,List.take_eq_take_min,List.length_map]
theorem fY_ {α:Type}{xs ys:List α}{hi:Nat}(f:α->List D)(h:ys=List.drop 0 (List.take hi xs)):List.take ys.length (List.map f xs)=List.map f ys:=by
 simp_all
end Go.Proofs.YtnmkbmefohakmaaGreat.Ab
namespace Go.Proofs.YtnmkbmefohakmaaGreat.Ab
theorem sZ_:∃t,t=tabP Tryz.prog:=⟨_,rfl⟩
noncomputable def tab:Nat->TI:=Classical.choose sZ_
theorem s0_:tab=tabP Tryz.prog:=Classical.choose_spec sZ_
theorem qh_:TabOk Tryz.prog tab:=s0_▸mZ_ _
theorem qw_ {k:Nat}{x:TI}(h:tabP Tryz.prog k=x):tab k=x:=by rw[s0_];exact h
theorem fol:Tryz.prog.follows .mixedOrders=true:=by kernel_rfl
@[go_sem] theorem tab2:tab 2={ ok:=true,kind:=.int .i64,size:=1,bytes:=8,zero:=[.int .i64 0] }:=qw_ (by kernel_rfl)
@[go_sem] theorem tab3:tab 3={ ok:=true,kind:=.int .i64,size:=1,bytes:=8,zero:=[.int .i64 0] }:=qw_ (by kernel_rfl)
@[go_sem] theorem tab4:tab 4={ ok:=true,kind:=.bool,size:=1,bytes:=1,zero:=[.bool false] }:=qw_ (by kernel_rfl)
@[go_sem] theorem tab9:tab 9={ ok:=true,kind:=.string,size:=1,bytes:=16,zero:=[.string ByteArray.empty] }:=qw_ (by kernel_rfl)
@[go_sem] theorem tab22:tab 22={ ok:=true,kind:=.slice,size:=1,bytes:=24,elem:=2,zero:=[.slice none 0 0] }:=qw_ (by kernel_rfl)
@[go_sem] theorem tab23:tab 23={ ok:=true,kind:=.slice,size:=1,bytes:=24,elem:=88,zero:=[.slice none 0 0] }:=qw_ (by kernel_rfl)
@[go_sem] theorem tab26:tab 26={ ok:=true,kind:=.slice,size:=1,bytes:=24,elem:=35,zero:=[.slice none 0 0] }:=qw_ (by kernel_rfl)
@[go_sem] theorem tab29:tab 29={ ok:=true,kind:=.struct,size:=2,bytes:=32,offs:=[(0,1),(1,1)],zero:=[.string ByteArray.empty,.string ByteArray.empty],flat:=some [.string,.string] }:=qw_ (by kernel_rfl)
@[go_sem] theorem tab31:tab 31={ ok:=true,kind:=.struct,size:=3,bytes:=48,offs:=[(0,1),(1,1),(2,1)],zero:=[.string ByteArray.empty,.string ByteArray.empty,.string ByteArray.empty],flat:=some [.string,.string,.string] }:=qw_ (by kernel_rfl)
@[go_sem] theorem tab35:tab 35={ ok:=true,kind:=.struct,size:=6,bytes:=96,offs:=[(0,2),(2,1),(3,3)],zero:=[.string ByteArray.empty,.string ByteArray.empty,.string ByteArray.empty,.string ByteArray.empty,.string ByteArray.empty,.string ByteArray.empty],flat:=some [.string,.string,.string,.string,.string,.string] }:=qw_ (by kernel_rfl)
@[go_sem] theorem tab47:tab 47={ ok:=true,kind:=.slice,size:=1,bytes:=24,elem:=9,zero:=[.slice none 0 0] }:=qw_ (by kernel_rfl)
@[go_sem] theorem tab48:tab 48={ ok:=true,kind:=.int .u64,size:=1,bytes:=8,zero:=[.int .u64 0] }:=qw_ (by kernel_rfl)
@[go_sem] theorem tab49:tab 49={ ok:=true,kind:=.slice,size:=1,bytes:=24,elem:=31,zero:=[.slice none 0 0] }:=qw_ (by kernel_rfl)
@[go_sem] theorem tab50:tab 50={ ok:=true,kind:=.slice,size:=1,bytes:=24,elem:=57,zero:=[.slice none 0 0] }:=qw_ (by kernel_rfl)
@[go_sem] theorem tab52:tab 52={ ok:=true,kind:=.struct,size:=3,bytes:=64,offs:=[(0,1),(1,1),(2,1)],zero:=[.string ByteArray.empty,.slice none 0 0,.slice none 0 0] }:=qw_ (by kernel_rfl)
@[go_sem] theorem tab55:tab 55={ ok:=true,kind:=.slice,size:=1,bytes:=24,elem:=4,zero:=[.slice none 0 0] }:=qw_ (by kernel_rfl)
@[go_sem] theorem tab57:tab 57={ ok:=true,kind:=.struct,size:=3,bytes:=40,offs:=[(0,1),(1,1),(2,1)],zero:=[.int .i64 0,.string ByteArray.empty,.string ByteArray.empty],flat:=some [.int .i64,.string,.string] }:=qw_ (by kernel_rfl)
@[go_sem] theorem tab75:tab 75={ ok:=true,kind:=.ptr,size:=1,bytes:=8,elem:=103,zero:=[.pointer none] }:=qw_ (by kernel_rfl)
@[go_sem] theorem tab81:tab 81={ ok:=true,kind:=.slice,size:=1,bytes:=24,elem:=120,zero:=[.slice none 0 0] }:=qw_ (by kernel_rfl)
@[go_sem] theorem tab86:tab 86={ ok:=true,kind:=.slice,size:=1,bytes:=24,elem:=52,zero:=[.slice none 0 0] }:=qw_ (by kernel_rfl)
@[go_sem] theorem tab88:tab 88={ ok:=true,kind:=.struct,size:=2,bytes:=40,offs:=[(0,1),(1,1)],zero:=[.string ByteArray.empty,.slice none 0 0] }:=qw_ (by kernel_rfl)
@[go_sem] theorem tab91:tab 91={ ok:=true,kind:=.slice,size:=1,bytes:=24,elem:=3,zero:=[.slice none 0 0] }:=qw_ (by kernel_rfl)
@[go_sem] theorem tab100:tab 100={ ok:=true,kind:=.ptr,size:=1,bytes:=8,elem:=176,zero:=[.pointer none] }:=qw_ (by kernel_rfl)
@[go_sem] theorem tab101:tab 101={ ok:=true,kind:=.ptr,size:=1,bytes:=8,elem:=113,zero:=[.pointer none] }:=qw_ (by kernel_rfl)
@[go_sem] theorem tab103:tab 103={ ok:=true,kind:=.struct,size:=3,bytes:=40,offs:=[(0,1),(1,1),(2,1)],zero:=[.pointer none,.pointer none,.slice none 0 0] }:=qw_ (by kernel_rfl)
@[go_sem] theorem tab105:tab 105={ ok:=true,kind:=.map,size:=1,bytes:=8,elem:=49,zero:=[.map none],mkey:=some (true,[.string,.string,.string]) }:=qw_ (by kernel_rfl)
@[go_sem] theorem tab106:tab 106={ ok:=true,kind:=.map,size:=1,bytes:=8,elem:=47,zero:=[.map none],mkey:=some (false,[.string]) }:=qw_ (by kernel_rfl)
@[go_sem] theorem tab108:tab 108={ ok:=true,kind:=.struct,size:=2,bytes:=16,offs:=[(0,1),(1,1)],zero:=[.map none,.map none] }:=qw_ (by kernel_rfl)
@[go_sem] theorem tab109:tab 109={ ok:=true,kind:=.map,size:=1,bytes:=8,elem:=81,zero:=[.map none],mkey:=some (true,[.string,.string,.string]) }:=qw_ (by kernel_rfl)
@[go_sem] theorem tab111:tab 111={ ok:=true,kind:=.struct,size:=2,bytes:=16,offs:=[(0,1),(1,1)],zero:=[.map none,.map none] }:=qw_ (by kernel_rfl)
@[go_sem] theorem tab113:tab 113={ ok:=true,kind:=.struct,size:=4,bytes:=32,offs:=[(0,2),(2,2)],zero:=[.map none,.map none,.map none,.map none] }:=qw_ (by kernel_rfl)
@[go_sem] theorem tab120:tab 120={ ok:=true,kind:=.struct,size:=3,bytes:=48,offs:=[(0,2),(2,1)],zero:=[.string ByteArray.empty,.string ByteArray.empty,.string ByteArray.empty],flat:=some [.string,.string,.string] }:=qw_ (by kernel_rfl)
@[go_sem] theorem tab121:tab 121={ ok:=true,kind:=.slice,size:=1,bytes:=24,elem:=129,zero:=[.slice none 0 0] }:=qw_ (by kernel_rfl)
@[go_sem] theorem tab126:tab 126={ ok:=true,kind:=.struct,size:=8,bytes:=96,offs:=[(0,1),(1,1),(2,1),(3,1),(4,1),(5,1),(6,1),(7,1)],zero:=[.slice none 0 0,.int .i64 0,.int .i64 0,.int .i64 0,.int .i64 0,.int .i64 0,.slice none 0 0,.int .i64 0] }:=qw_ (by kernel_rfl)
@[go_sem] theorem tab129:tab 129={ ok:=true,kind:=.struct,size:=3,bytes:=32,offs:=[(0,1),(1,1),(2,1)],zero:=[.int .i64 0,.int .i64 0,.string ByteArray.empty],flat:=some [.int .i64,.int .i64,.string] }:=qw_ (by kernel_rfl)
@[go_sem] theorem tab137:tab 137={ ok:=true,kind:=.ptr,size:=1,bytes:=8,elem:=140,zero:=[.pointer none] }:=qw_ (by kernel_rfl)
@[go_sem] theorem tab138:tab 138={ ok:=true,kind:=.map,size:=1,bytes:=8,elem:=144,zero:=[.map none],mkey:=some (true,[.string,.string,.string]) }:=qw_ (by kernel_rfl)
@[go_sem] theorem tab140:tab 140={ ok:=true,kind:=.struct,size:=6,bytes:=88,offs:=[(0,1),(1,3),(4,1),(5,1)],zero:=[.pointer none,.string ByteArray.empty,.string ByteArray.empty,.string ByteArray.empty,.map none,.slice none 0 0] }:=qw_ (by kernel_rfl)
@[go_sem] theorem tab143:tab 143={ ok:=true,kind:=.struct,size:=4,bytes:=64,offs:=[(0,1),(1,1),(2,1),(3,1)],zero:=[.int .i64 0,.slice none 0 0,.slice none 0 0,.bool false] }:=qw_ (by kernel_rfl)
@[go_sem] theorem tab144:tab 144={ ok:=true,kind:=.ptr,size:=1,bytes:=8,elem:=143,zero:=[.pointer none] }:=qw_ (by kernel_rfl)
@[go_sem] theorem tab172:tab 172={ ok:=true,kind:=.map,size:=1,bytes:=8,elem:=3,zero:=[.map none],mkey:=some (false,[.string]) }:=qw_ (by kernel_rfl)
@[go_sem] theorem tab173:tab 173={ ok:=true,kind:=.map,size:=1,bytes:=8,elem:=52,zero:=[.map none],mkey:=some (true,[.string,.string]) }:=qw_ (by kernel_rfl)
@[go_sem] theorem tab174:tab 174={ ok:=true,kind:=.map,size:=1,bytes:=8,elem:=3,zero:=[.map none],mkey:=some (true,[.string,.string]) }:=qw_ (by kernel_rfl)
@[go_sem] theorem tab176:tab 176={ ok:=true,kind:=.struct,size:=3,bytes:=24,offs:=[(0,1),(1,1),(2,1)],zero:=[.map none,.map none,.map none] }:=qw_ (by kernel_rfl)
@[go_sem] theorem tab178:tab 178={ ok:=true,kind:=.slice,size:=1,bytes:=24,elem:=181,zero:=[.slice none 0 0] }:=qw_ (by kernel_rfl)
@[go_sem] theorem tab181:tab 181={ ok:=true,kind:=.struct,size:=2,bytes:=32,offs:=[(0,1),(1,1)],zero:=[.string ByteArray.empty,.string ByteArray.empty],flat:=some [.string,.string] }:=qw_ (by kernel_rfl)
@[go_sem] theorem tab200:tab 200={ ok:=true,kind:=.map,size:=1,bytes:=8,elem:=201,zero:=[.map none],mkey:=some (true,[.string,.string]) }:=qw_ (by kernel_rfl)
@[go_sem] theorem tab201:tab 201={ ok:=true,kind:=.slice,size:=1,bytes:=24,elem:=204,zero:=[.slice none 0 0] }:=qw_ (by kernel_rfl)
@[go_sem] theorem tab204:tab 204={ ok:=true,kind:=.struct,size:=3,bytes:=40,offs:=[(0,2),(2,1)],zero:=[.string ByteArray.empty,.string ByteArray.empty,.int .i64 0],flat:=some [.string,.string,.int .i64] }:=qw_ (by kernel_rfl)
@[go_sem] theorem tab243:tab 243={ ok:=true,kind:=.slice,size:=1,bytes:=24,elem:=201,zero:=[.slice none 0 0] }:=qw_ (by kernel_rfl)
end Go.Proofs.YtnmkbmefohakmaaGreat.Ab
namespace Go.Proofs.YtnmkbmefohakmaaGreat.Ab
open Go.RowKit
structure GSub where
 type_:ByteArray
 id_:ByteArray
 rel:ByteArray
 deriving DecidableEq,Inhabited
abbrev eGSub (x:GSub):List D:=[D.v (.string x.type_),D.v (.string x.id_),D.v (.string x.rel)]
def z2_ (x:GSub):Value:=.agg #[.string x.type_,.string x.id_,.string x.rel]
theorem r9_:KeyE (true,[.string,.string,.string]) z2_:=fun a b=>by
 have e:(a==b)=((a.type_==b.type_)&&(a.id_==b.id_)&&(a.rel==b.rel)):=by
  obtain⟨a1,a2,a3⟩:=a;obtain⟨b1,b2,b3⟩:=b;rw[Bool.eq_iff_iff];simp[and_assoc]
 rw[e];simp[z2_,kS_,eqK,eq1,Bool.and_assoc]
structure GStep where
 kind:Int
 a:ByteArray
 b:ByteArray
 deriving DecidableEq,Inhabited
abbrev eGStep (x:GStep):List D:=[D.v (.int .i64 x.kind),D.v (.string x.a),D.v (.string x.b)]
structure GRel where
 name:ByteArray
 subs:List GSub
 expr:List GStep
 deriving DecidableEq,Inhabited
abbrev eGRel (x:GRel):List D:=[D.v (.string x.name),D.sl (List.map eGSub x.subs),D.sl (List.map eGStep x.expr)]
structure GType where
 name:ByteArray
 rels:List GRel
 deriving DecidableEq,Inhabited
abbrev eGType (x:GType):List D:=[D.v (.string x.name),D.sl (List.map eGRel x.rels)]
structure GObj where
 type_:ByteArray
 id_:ByteArray
 deriving DecidableEq,Inhabited
abbrev eGObj (x:GObj):List D:=[D.v (.string x.type_),D.v (.string x.id_)]
structure GTuple where
 obj:GObj
 rel:ByteArray
 sub_:GSub
 deriving DecidableEq,Inhabited
abbrev eGTuple (x:GTuple):List D:=[D.v (.string x.obj.type_),D.v (.string x.obj.id_),D.v (.string x.rel),D.v (.string x.sub_.type_),D.v (.string x.sub_.id_),D.v (.string x.sub_.rel)]
structure GRef where
 obj:GObj
 rel:ByteArray
 deriving DecidableEq,Inhabited
abbrev eGRef (x:GRef):List D:=[D.v (.string x.obj.type_),D.v (.string x.obj.id_),D.v (.string x.rel)]
def zf_ (x:GRef):Value:=.agg #[.string x.obj.type_,.string x.obj.id_,.string x.rel]
theorem zR_:KeyE (true,[.string,.string,.string]) zf_:=fun a b=>by
 have e:(a==b)=((a.obj.type_==b.obj.type_)&&(a.obj.id_==b.obj.id_)&&(a.rel==b.rel)):=by
  obtain⟨⟨a1,a2⟩,a3⟩:=a;obtain⟨⟨b1,b2⟩,b3⟩:=b;rw[Bool.eq_iff_iff];simp[and_assoc]
 rw[e];simp[zf_,kS_,eqK,eq1,Bool.and_assoc]
structure LookLeft where
 subs:List (GRef × (List GSub))
 objs:List (ByteArray × (List ByteArray))
 deriving DecidableEq,Inhabited
abbrev eLookLeft (x:LookLeft):List D:=[D.mp (qs_ zf_ false (eL eGSub) x.subs),D.mp (qs_ Value.string false (eL eS) x.objs)]
structure WellName where
 typ:ByteArray
 rel:ByteArray
 deriving DecidableEq,Inhabited
abbrev eWellName (x:WellName):List D:=[D.v (.string x.typ),D.v (.string x.rel)]
def qd_ (x:WellName):Value:=.agg #[.string x.typ,.string x.rel]
theorem q3_:KeyE (true,[.string,.string]) qd_:=fun a b=>by
 have e:(a==b)=((a.typ==b.typ)&&(a.rel==b.rel)):=by
  obtain⟨a1,a2⟩:=a;obtain⟨b1,b2⟩:=b;rw[Bool.eq_iff_iff];simp
 rw[e];simp[qd_,kS_,eqK,eq1]
structure WellSchema where
 types:List (ByteArray × Int)
 rels:List (WellName × GRel)
 ranks:List (WellName × Int)
 deriving DecidableEq,Inhabited
abbrev eWellSchema (x:WellSchema):List D:=[D.mp (qs_ Value.string false eI x.types),D.mp (qs_ qd_ true eGRel x.rels),D.mp (qs_ qd_ false eI x.ranks)]
structure LookRight where
 refs:List (GSub × (List GRef))
 users:List (ByteArray × (List ByteArray))
 deriving DecidableEq,Inhabited
abbrev eLookRight (x:LookRight):List D:=[D.mp (qs_ z2_ false (eL eGRef) x.refs),D.mp (qs_ Value.string false (eL eS) x.users)]
structure LookIndex where
 left:LookLeft
 right:LookRight
 deriving DecidableEq,Inhabited
abbrev eLookIndex (x:LookIndex):List D:=[D.mp (qs_ zf_ false (eL eGSub) x.left.subs),D.mp (qs_ Value.string false (eL eS) x.left.objs),D.mp (qs_ z2_ false (eL eGRef) x.right.refs),D.mp (qs_ Value.string false (eL eS) x.right.users)]
structure SeekGraph where
 schema:WellSchema
 index:LookIndex
 rows_:List GTuple
 deriving DecidableEq,Inhabited
abbrev eSeekGraph (x:SeekGraph):List D:=[D.pt (eWellSchema x.schema) 0,D.pt (eLookIndex x.index) 0,D.sl (List.map eGTuple x.rows_)]
section
variable {P:Program}{tab:Nat->TI}
theorem Z0 {p q:Prop}(k:q)(e:p=q:=by conv=>lhs;try simp -implicitDefEqProofs only[go_sem,Bool.false_and,Int.reduceToNat,Int.reduceLT,Int.reduceLE,Int.reduceBEq,Int.reduceBNe,Nat.reduceLT,Nat.reduceBEq,Int.reduceEq,Nat.reduceEqDiff,Nat.reduceAdd,Nat.reduceSub,Nat.reduceMul,Nat.reduceLeDiff,reduceCtorEq, ↓reduceIte,or_true,or_false,true_or,false_or,jS_,jl_,eGSub,eGStep,eGRel,eGType,eGObj,eGTuple,eGRef,eLookLeft,eWellName,eWellSchema,eLookRight,eLookIndex,eSeekGraph]):p:=
 (e).mpr k
theorem Z1 {p q:Prop}{F:Prop}(w:F)(k:q)(e:F->p=q:=by intro w;conv=>lhs;try simp -implicitDefEqProofs only[go_sem,Bool.false_and,Int.reduceToNat,Int.reduceLT,Int.reduceLE,Int.reduceBEq,Int.reduceBNe,Nat.reduceLT,Nat.reduceBEq,Int.reduceEq,Nat.reduceEqDiff,Nat.reduceAdd,Nat.reduceSub,Nat.reduceMul,Nat.reduceLeDiff,reduceCtorEq, ↓reduceIte,or_true,or_false,true_or,false_or,jS_,jl_,eGSub,eGStep,eGRel,eGType,eGObj,eGTuple,eGRef,eLookLeft,eWellName,eWellSchema,eLookRight,eLookIndex,eSeekGraph,w]):p:=
 (e w).mpr k
theorem ZC0 {ops:Array Oper}{nx0:Nat}{k:List It}{Q:Ex->St->Prop}{i:Nat}{r:List Oper}{dst:Option Nat}{s:St}{g:FuncId}{caps vs:List AV}{b:Bool}{is:List Nat}{d:D}{f:Bool}{ds:List D}(h2:PureOK P g ds d f)(h:Rt P tab ops nx0 k Q i r ⟨putS dst (lift (!f&&b) d) s.fr,s.hp,s.nx⟩)(h1:toDl s.hp (vs++caps)=some (ds,b,is):=by first |rfl |(simp -implicitDefEqProofs only[go_sem,Bool.false_and,Int.reduceToNat,Int.reduceLT,Int.reduceLE,Int.reduceBEq,Int.reduceBNe,Nat.reduceLT,Nat.reduceBEq,Int.reduceEq,Nat.reduceEqDiff,Nat.reduceAdd,Nat.reduceSub,Nat.reduceMul,Nat.reduceLeDiff,reduceCtorEq, ↓reduceIte,or_true,or_false,true_or,false_or,jS_,jl_,eGSub,eGStep,eGRel,eGType,eGObj,eGTuple,eGRef,eLookLeft,eWellName,eWellSchema,eLookRight,eLookIndex,eSeekGraph];done) |(simp -implicitDefEqProofs only[go_sem,Bool.false_and,Int.reduceToNat,Int.reduceLT,Int.reduceLE,Int.reduceBEq,Int.reduceBNe,Nat.reduceLT,Nat.reduceBEq,Int.reduceEq,Nat.reduceEqDiff,Nat.reduceAdd,Nat.reduceSub,Nat.reduceMul,Nat.reduceLeDiff,reduceCtorEq, ↓reduceIte,or_true,or_false,true_or,false_or,jS_,jl_,eGSub,eGStep,eGRel,eGType,eGObj,eGTuple,eGRef,eLookLeft,eWellName,eWellSchema,eLookRight,eLookIndex,eSeekGraph];rfl))(h3:is= []\/f=true:=by first |exact .inr rfl |exact .inl rfl):wm_ P tab ops nx0 k Q i r dst s (.fn g caps) vs:=
 js_ (h1) h2 h3 h
theorem ZD0 {ops:Array Oper}{nx0 nx:Nat}{k:List It}{Q:Ex->St->Prop}{i:Nat}{r:List Oper}{dst:Option Nat}{acc:List Rec}{ids:List Nat}{fr:Fr}{hp:Hp}{g:FuncId}{caps vs:List AV}{b:Bool}{is:List Nat}{d:D}{f:Bool}{ds:List D}(h2:PureOK P g ds d f)(h:Rd P tab ops nx0 nx k Q i r (⟨ids,[],false⟩::acc) (putS dst (lift (!f&&b) d) fr) hp)(h1:toDl hp (vs++caps)=some (ds,b,is):=by first |rfl |(simp -implicitDefEqProofs only[go_sem,Bool.false_and,Int.reduceToNat,Int.reduceLT,Int.reduceLE,Int.reduceBEq,Int.reduceBNe,Nat.reduceLT,Nat.reduceBEq,Int.reduceEq,Nat.reduceEqDiff,Nat.reduceAdd,Nat.reduceSub,Nat.reduceMul,Nat.reduceLeDiff,reduceCtorEq, ↓reduceIte,or_true,or_false,true_or,false_or,jS_,jl_,eGSub,eGStep,eGRel,eGType,eGObj,eGTuple,eGRef,eLookLeft,eWellName,eWellSchema,eLookRight,eLookIndex,eSeekGraph];done) |(simp -implicitDefEqProofs only[go_sem,Bool.false_and,Int.reduceToNat,Int.reduceLT,Int.reduceLE,Int.reduceBEq,Int.reduceBNe,Nat.reduceLT,Nat.reduceBEq,Int.reduceEq,Nat.reduceEqDiff,Nat.reduceAdd,Nat.reduceSub,Nat.reduceMul,Nat.reduceLeDiff,reduceCtorEq, ↓reduceIte,or_true,or_false,true_or,false_or,jS_,jl_,eGSub,eGStep,eGRel,eGType,eGObj,eGTuple,eGRef,eLookLeft,eWellName,eWellSchema,eLookRight,eLookIndex,eSeekGraph];rfl))(h3:is= []\/f=true:=by first |exact .inr rfl |exact .inl rfl):vb_ P tab ops nx0 nx k Q i r dst acc ids fr hp (.fn g caps) vs:=
 bn_ (h1) h2 h3 h
theorem ZA0 {ops:Array Oper}{nx0:Nat}{k:List It}{Q:Ex->St->Prop}{i:Nat}{r:List Oper}{dst:Option Nat}{s:St}{g:FuncId}{caps vs:List AV}{b:Bool}{is:List Nat}{d:D}{f:Bool}{zs:List DA}(h2:PureA P g zs d f)(h:Rt P tab ops nx0 k Q i r ⟨putS dst (lift (!f&&b) d) s.fr,s.hp,s.nx⟩)(h1:toAl s.hp (vs++caps)=some (zs,b,is):=by first |rfl |(simp -implicitDefEqProofs only[go_sem,Bool.false_and,Int.reduceToNat,Int.reduceLT,Int.reduceLE,Int.reduceBEq,Int.reduceBNe,Nat.reduceLT,Nat.reduceBEq,Int.reduceEq,Nat.reduceEqDiff,Nat.reduceAdd,Nat.reduceSub,Nat.reduceMul,Nat.reduceLeDiff,reduceCtorEq, ↓reduceIte,or_true,or_false,true_or,false_or,jS_,jl_,eGSub,eGStep,eGRel,eGType,eGObj,eGTuple,eGRef,eLookLeft,eWellName,eWellSchema,eLookRight,eLookIndex,eSeekGraph];done) |(simp -implicitDefEqProofs only[go_sem,Bool.false_and,Int.reduceToNat,Int.reduceLT,Int.reduceLE,Int.reduceBEq,Int.reduceBNe,Nat.reduceLT,Nat.reduceBEq,Int.reduceEq,Nat.reduceEqDiff,Nat.reduceAdd,Nat.reduceSub,Nat.reduceMul,Nat.reduceLeDiff,reduceCtorEq, ↓reduceIte,or_true,or_false,true_or,false_or,jS_,jl_,eGSub,eGStep,eGRel,eGType,eGObj,eGTuple,eGRef,eLookLeft,eWellName,eWellSchema,eLookRight,eLookIndex,eSeekGraph];rfl))(h3:is= []\/f=true:=by first |exact .inr rfl |exact .inl rfl):wm_ P tab ops nx0 k Q i r dst s (.fn g caps) vs:=
 kd_ (h1) h2 h3 h
theorem ZA1 {ops:Array Oper}{nx0:Nat}{k:List It}{Q:Ex->St->Prop}{i:Nat}{r:List Oper}{dst:Option Nat}{s:St}{g:FuncId}{caps vs:List AV}{b:Bool}{is:List Nat}{d:D}{f:Bool}{zs:List DA}{F:Prop}(w:F)(h2:PureA P g zs d f)(h:Rt P tab ops nx0 k Q i r ⟨putS dst (lift (!f&&b) d) s.fr,s.hp,s.nx⟩)(h1:F->toAl s.hp (vs++caps)=some (zs,b,is):=by intro w;first |rfl |(simp -implicitDefEqProofs only[go_sem,Bool.false_and,Int.reduceToNat,Int.reduceLT,Int.reduceLE,Int.reduceBEq,Int.reduceBNe,Nat.reduceLT,Nat.reduceBEq,Int.reduceEq,Nat.reduceEqDiff,Nat.reduceAdd,Nat.reduceSub,Nat.reduceMul,Nat.reduceLeDiff,reduceCtorEq, ↓reduceIte,or_true,or_false,true_or,false_or,jS_,jl_,eGSub,eGStep,eGRel,eGType,eGObj,eGTuple,eGRef,eLookLeft,eWellName,eWellSchema,eLookRight,eLookIndex,eSeekGraph,w];done) |(simp -implicitDefEqProofs only[go_sem,Bool.false_and,Int.reduceToNat,Int.reduceLT,Int.reduceLE,Int.reduceBEq,Int.reduceBNe,Nat.reduceLT,Nat.reduceBEq,Int.reduceEq,Nat.reduceEqDiff,Nat.reduceAdd,Nat.reduceSub,Nat.reduceMul,Nat.reduceLeDiff,reduceCtorEq, ↓reduceIte,or_true,or_false,true_or,false_or,jS_,jl_,eGSub,eGStep,eGRel,eGType,eGObj,eGTuple,eGRef,eLookLeft,eWellName,eWellSchema,eLookRight,eLookIndex,eSeekGraph,w];rfl))(h3:is= []\/f=true:=by first |exact .inr rfl |exact .inl rfl):wm_ P tab ops nx0 k Q i r dst s (.fn g caps) vs:=
 kd_ (h1 w) h2 h3 h
theorem ZE0 {rs:Array ResultVar}{d:D}{fr b:Bool}{is:List Nat}{s:St}{v:AV}(h1:resA tab rs s=some v:=by first |(simp -implicitDefEqProofs only[go_sem,Bool.false_and,Int.reduceToNat,Int.reduceLT,Int.reduceLE,Int.reduceBEq,Int.reduceBNe,Nat.reduceLT,Nat.reduceBEq,Int.reduceEq,Nat.reduceEqDiff,Nat.reduceAdd,Nat.reduceSub,Nat.reduceMul,Nat.reduceLeDiff,reduceCtorEq, ↓reduceIte,or_true,or_false,true_or,false_or,jS_,jl_,eGSub,eGStep,eGRel,eGType,eGObj,eGTuple,eGRef,eLookLeft,eWellName,eWellSchema,eLookRight,eLookIndex,eSeekGraph]<;>rfl) |rfl)(h2:toR s.hp v=some (d,b,is):=by first |rfl |(simp -implicitDefEqProofs only[go_sem,Bool.false_and,Int.reduceToNat,Int.reduceLT,Int.reduceLE,Int.reduceBEq,Int.reduceBNe,Nat.reduceLT,Nat.reduceBEq,Int.reduceEq,Nat.reduceEqDiff,Nat.reduceAdd,Nat.reduceSub,Nat.reduceMul,Nat.reduceLeDiff,reduceCtorEq, ↓reduceIte,or_true,or_false,true_or,false_or,jS_,jl_,eGSub,eGStep,eGRel,eGType,eGObj,eGTuple,eGRef,eLookLeft,eWellName,eWellSchema,eLookRight,eLookIndex,eSeekGraph];done) |(simp -implicitDefEqProofs only[go_sem,Bool.false_and,Int.reduceToNat,Int.reduceLT,Int.reduceLE,Int.reduceBEq,Int.reduceBNe,Nat.reduceLT,Nat.reduceBEq,Int.reduceEq,Nat.reduceEqDiff,Nat.reduceAdd,Nat.reduceSub,Nat.reduceMul,Nat.reduceLeDiff,reduceCtorEq, ↓reduceIte,or_true,or_false,true_or,false_or,jS_,jl_,eGSub,eGStep,eGRel,eGType,eGObj,eGTuple,eGRef,eLookLeft,eWellName,eWellSchema,eLookRight,eLookIndex,eSeekGraph];rfl))(h4:fr=true->b=false:=by intro h;first |rfl |cases h):EndW tab rs (EndP d fr) .ret s:=
 j9_ h1 (h2) rfl h4
theorem ZE1 {rs:Array ResultVar}{d:D}{fr b:Bool}{is:List Nat}{s:St}{v:AV}{F:Prop}(w:F)(h1:resA tab rs s=some v:=by first |(simp -implicitDefEqProofs only[go_sem,Bool.false_and,Int.reduceToNat,Int.reduceLT,Int.reduceLE,Int.reduceBEq,Int.reduceBNe,Nat.reduceLT,Nat.reduceBEq,Int.reduceEq,Nat.reduceEqDiff,Nat.reduceAdd,Nat.reduceSub,Nat.reduceMul,Nat.reduceLeDiff,reduceCtorEq, ↓reduceIte,or_true,or_false,true_or,false_or,jS_,jl_,eGSub,eGStep,eGRel,eGType,eGObj,eGTuple,eGRef,eLookLeft,eWellName,eWellSchema,eLookRight,eLookIndex,eSeekGraph]<;>rfl) |rfl)(h2:F->toR s.hp v=some (d,b,is):=by intro w;first |rfl |(simp -implicitDefEqProofs only[go_sem,Bool.false_and,Int.reduceToNat,Int.reduceLT,Int.reduceLE,Int.reduceBEq,Int.reduceBNe,Nat.reduceLT,Nat.reduceBEq,Int.reduceEq,Nat.reduceEqDiff,Nat.reduceAdd,Nat.reduceSub,Nat.reduceMul,Nat.reduceLeDiff,reduceCtorEq, ↓reduceIte,or_true,or_false,true_or,false_or,jS_,jl_,eGSub,eGStep,eGRel,eGType,eGObj,eGTuple,eGRef,eLookLeft,eWellName,eWellSchema,eLookRight,eLookIndex,eSeekGraph,w];done) |(simp -implicitDefEqProofs only[go_sem,Bool.false_and,Int.reduceToNat,Int.reduceLT,Int.reduceLE,Int.reduceBEq,Int.reduceBNe,Nat.reduceLT,Nat.reduceBEq,Int.reduceEq,Nat.reduceEqDiff,Nat.reduceAdd,Nat.reduceSub,Nat.reduceMul,Nat.reduceLeDiff,reduceCtorEq, ↓reduceIte,or_true,or_false,true_or,false_or,jS_,jl_,eGSub,eGStep,eGRel,eGType,eGObj,eGTuple,eGRef,eLookLeft,eWellName,eWellSchema,eLookRight,eLookIndex,eSeekGraph,w];rfl))(h4:fr=true->b=false:=by intro h;first |rfl |cases h):EndW tab rs (EndP d fr) .ret s:=
 j9_ h1 (h2 w) rfl h4
theorem ZP (ht:TabOk P tab)(_:P.follows .mixedOrders=true){rs:Array ResultVar}{f:FuncId}{fn:Func}{code:Code}{ds:List D}{d:D}{fresh:Bool}(hf:P.funcs[f]? =some fn)(h:runR 0 P [.c code] (EndW tab rs (EndP d fresh)) ⟨frOf (ds.map (lift true)),noHp,0⟩)(hr:fn.results=rs:=by rfl)(hb:fn.body=some code:=by rfl)(hname:(fn.name== "runtime.NumGoroutine")=false:=by kernel_rfl)(hd:jC_ fn.ntmps code=true:=by kernel_rfl)(hl:Nat.ble ds.length fn.ntmps=true:=by rfl):PureOK P f ds d fresh:=by
 subst hr;exact np_ ht hf hb hname hd (Nat.le_of_ble_eq_true hl) h
theorem ZPX (ht:TabOk P tab)(_:P.follows .mixedOrders=true){rs:Array ResultVar}{f:FuncId}{fn:Func}{code:Code}{zs:List DA}{d:D}{fresh:Bool}(hf:P.funcs[f]? =some fn)(h:runR 0 P [.c code] (EndW tab rs (EndX d fresh)) ⟨frOf (zs.map DA.av),noHp,0⟩)(hr:fn.results=rs:=by rfl)(hb:fn.body=some code:=by rfl)(hname:(fn.name== "runtime.NumGoroutine")=false:=by kernel_rfl)(hd:jC_ fn.ntmps code=true:=by kernel_rfl)(hl:Nat.ble zs.length fn.ntmps=true:=by rfl):PureA P f zs d fresh:=by
 subst hr;exact hP_ ht hf hb hname hd (Nat.le_of_ble_eq_true hl) h
theorem ZB {ρ:Nat->Option Nat}{hp:Hp}{k j:Nat}{cs ds:List AV}(h1:ρ k=some j)(h3:hp j=some (.bx ds))(h2:renL ρ cs=some ds):∀p,some (AO.bx cs)=some p->∃j o',ρ k=some j/\renO ρ p=some o'/\hp j=some o':=uC_ h1 (tX_ h2) h3
theorem ZR {n N nx:Nat}{fr' fr:Fr}{hp' hp:Hp}(L:List (Nat × Nat))(h1:(Nat.ble n N&&okL n N L)=true:=by rfl)(h2:∀t,fr' t= .un\/renA (lk n L) (fr' t)=some (fr t):=by repeat' (first |exact rf_no _ |refine fP_ (by rfl) ?_ |refine fP_ (nj_ (by rfl)) ?_ |refine fP_ (fQ_ (by rfl) (by assumption)) ?_))(h3:∀i o,hp' i=some o->∃j o',lk n L i=some j/\renO (lk n L) o=some o'/\hp j=some o':=by repeat' (first |exact rh_no _ |refine wu_ (uC_ (by rfl) (by rfl) (by rfl)) ?_ |refine wu_ (sE_ (by rfl) (by rfl)) ?_ |refine wu_ (tY_ (by rfl) (by assumption) (by rfl)) ?_ |refine wu_ tZ_ ?_ |refine wu_ (ZB (by rfl) (by rfl) (by repeat' (first |exact rA_ _ |refine yr_ (by rfl) ?_ |refine yr_ (nj_ (by rfl)) ?_ |refine yr_ (fQ_ (by rfl) (by assumption)) ?_))) ?_)):WeakR n ⟨fr',hp',N⟩ ⟨fr,hp,nx⟩:=ren_mk L h1 h2 h3
theorem Y2 {A0 A1:Prop}(a0:A0)(a1:A1):A0/\A1:=⟨a0,a1⟩
theorem Y3 {A0 A1 A2:Prop}(a0:A0)(a1:A1)(a2:A2):A0/\A1/\A2:=⟨a0,a1,a2⟩
theorem Y4 {A0 A1 A2 A3:Prop}(a0:A0)(a1:A1)(a2:A2)(a3:A3):A0/\A1/\A2/\A3:=⟨a0,a1,a2,a3⟩
theorem Y5 {A0 A1 A2 A3 A4:Prop}(a0:A0)(a1:A1)(a2:A2)(a3:A3)(a4:A4):A0/\A1/\A2/\A3/\A4:=⟨a0,a1,a2,a3,a4⟩
theorem Y6 {A0 A1 A2 A3 A4 A5:Prop}(a0:A0)(a1:A1)(a2:A2)(a3:A3)(a4:A4)(a5:A5):A0/\A1/\A2/\A3/\A4/\A5:=⟨a0,a1,a2,a3,a4,a5⟩
theorem YV {α:Type}{f:α->List D}{xs:List α}(h:0<xs.length):∀id ver,accV id ver (xs.map f)= .so id ver 0 xs.length:=fun _ _=>jP_ h
theorem YO {α:Type}{f:α->List D}{xs:List α}(h:0<xs.length):∀sz ver br,accO sz ver br (xs.map f)=some (.rw (xs.map f) sz ver br false):=fun _ _ _=>vC_ h
theorem Zi {α:Type}{a b:α}(h:some a=some b):a=b:=Option.some.inj h
end
theorem ZT {n:Nat}{k:List It}{Q:Ex->St->Prop}{s:St}(m:Nat)(h:run Tryz.prog tab (k.take m) (jI_ n Tryz.prog (k.drop m) Q) s):runR n Tryz.prog k Q s:=no_ qh_ fol m h
theorem Zo {α β:Type}(a:α)(f:α->Option β):(some a).bind f=f a:=rfl
theorem Zx {α:Type}{x:α}{C:Prop}(h:none=some x):C:=nomatch h
def dP_ (T E I B F V:TypeId):Code:=
  (Go.Code.seq (Go.Code.region 0 #[{ dst:=(some 4),op:=(Go.Op.assign (Go.Operand.const (Go.Value.int Go.IntKind.i64 0))),type:=I,pos:= "slices.go:107",after:= #[],guard:=none }] false) (Go.Code.seq (Go.Code.seq (Go.Code.region 1 #[{ dst:=(some 6),op:=(Go.Op.move (Go.Operand.tmp 0)),type:=T,pos:= "slices.go:108",after:= #[],guard:=none },{ dst:=(some 7),op:=(Go.Op.call { callee:=(Go.Callee.builtin Go.Builtin.len),args:= #[(Go.Operand.tmp 6)],argTypes:= #[T] }),type:=I,pos:= "slices.go:108",after:= #[{ on:=0,ground:=Go.Ground.data }],guard:=none },{ dst:=(some 8),op:=(Go.Op.move (Go.Operand.const (Go.Value.int Go.IntKind.i64 0))),type:=I,pos:= "slices.go:108",after:= #[],guard:=none }] false) (Go.Code.block 0 (Go.Code.loop (Go.Code.seq (Go.Code.region 2 #[{ dst:=(some 9),op:=(Go.Op.binOp Go.BinOp.lss I (Go.Operand.tmp 8) (Go.Operand.tmp 7) I),type:=B,pos:= "slices.go:108",after:= #[],guard:=none }] false) (Go.Code.seq (Go.Code.cond (Go.Operand.tmp 9) Go.Code.skip (Go.Code.exit 0)) (Go.Code.seq (Go.Code.block 1 (Go.Code.seq (Go.Code.region 3 #[{ dst:=(some 10),op:=(Go.Op.move (Go.Operand.tmp 8)),type:=I,pos:= "slices.go:108",after:= #[],guard:=none },{ dst:=(some 5),op:=(Go.Op.assign (Go.Operand.tmp 10)),type:=I,pos:= "slices.go:108",after:= #[{ on:=0,ground:=Go.Ground.data },{ on:=0,ground:=Go.Ground.phase }],guard:=none }] false) (Go.Code.seq (Go.Code.region 4 #[{ dst:=(some 11),op:=(Go.Op.move (Go.Operand.tmp 1)),type:=F,pos:= "slices.go:109",after:= #[],guard:=none },{ dst:=(some 12),op:=(Go.Op.move (Go.Operand.tmp 0)),type:=T,pos:= "slices.go:109",after:= #[],guard:=none },{ dst:=(some 13),op:=(Go.Op.move (Go.Operand.tmp 5)),type:=I,pos:= "slices.go:109",after:= #[],guard:=none },{ dst:=(some 14),op:=(Go.Op.indexAddr T (Go.Operand.tmp 12) (Go.Operand.tmp 13)),type:=B,pos:= "slices.go:109",after:= #[{ on:=1,ground:=Go.Ground.data },{ on:=2,ground:=Go.Ground.data }],guard:=none },{ dst:=(some 15),op:=(Go.Op.load E (Go.Operand.tmp 14)),type:=E,pos:= "slices.go:109",after:= #[{ on:=3,ground:=Go.Ground.data }],guard:=none },{ dst:=(some 16),op:=(Go.Op.call { callee:=(Go.Callee.value (Go.Operand.tmp 11)),args:= #[(Go.Operand.tmp 15)],argTypes:= #[E] }),type:=V,pos:= "slices.go:109",after:= #[{ on:=0,ground:=Go.Ground.data },{ on:=4,ground:=Go.Ground.data }],guard:=none }] false) (Go.Code.cond (Go.Operand.tmp 16) (Go.Code.seq (Go.Code.region 5 #[{ dst:=(some 17),op:=(Go.Op.move (Go.Operand.tmp 5)),type:=I,pos:= "slices.go:110",after:= #[],guard:=none },{ dst:=(some 4),op:=(Go.Op.assign (Go.Operand.tmp 17)),type:=I,pos:= "slices.go:110",after:= #[{ on:=0,ground:=Go.Ground.data },{ on:=0,ground:=Go.Ground.phase }],guard:=none }] false) Go.Code.ret) Go.Code.skip)))) (Go.Code.region 6 #[{ dst:=(some 18),op:=(Go.Op.binOp Go.BinOp.add I (Go.Operand.tmp 8) (Go.Operand.const (Go.Value.int Go.IntKind.i64 1)) I),type:=I,pos:= "slices.go:108",after:= #[],guard:=none },{ dst:=(some 8),op:=(Go.Op.move (Go.Operand.tmp 18)),type:=I,pos:= "slices.go:108",after:= #[{ on:=0,ground:=Go.Ground.data }],guard:=none }] false))))))) (Go.Code.seq (Go.Code.region 7 #[{ dst:=(some 4),op:=(Go.Op.assign (Go.Operand.const (Go.Value.int Go.IntKind.i64 (-1)))),type:=I,pos:= "slices.go:113",after:= #[],guard:=none }] false) Go.Code.ret)))
def dQ_ (T _ I _ F V:TypeId)(g:FuncId):Code:=
  (Go.Code.seq (Go.Code.region 0 #[{ dst:=(some 4),op:=(Go.Op.assign (Go.Operand.const (Go.Value.bool false))),type:=V,pos:= "slices.go:124",after:= #[],guard:=none }] false) (Go.Code.seq (Go.Code.region 1 #[{ dst:=(some 5),op:=(Go.Op.move (Go.Operand.tmp 0)),type:=T,pos:= "slices.go:125",after:= #[],guard:=none },{ dst:=(some 6),op:=(Go.Op.move (Go.Operand.tmp 1)),type:=F,pos:= "slices.go:125",after:= #[],guard:=none },{ dst:=(some 7),op:=(Go.Op.call { callee:=(Go.Callee.value (Go.Operand.func g)),args:= #[(Go.Operand.tmp 5),(Go.Operand.tmp 6)],argTypes:= #[T,F] }),type:=I,pos:= "slices.go:125",after:= #[{ on:=0,ground:=Go.Ground.data },{ on:=1,ground:=Go.Ground.data }],guard:=none },{ dst:=(some 8),op:=(Go.Op.binOp Go.BinOp.geq I (Go.Operand.tmp 7) (Go.Operand.const (Go.Value.int Go.IntKind.i64 0)) I),type:=V,pos:= "slices.go:125",after:= #[{ on:=2,ground:=Go.Ground.data }],guard:=none },{ dst:=(some 4),op:=(Go.Op.assign (Go.Operand.tmp 8)),type:=V,pos:= "slices.go:125",after:= #[{ on:=3,ground:=Go.Ground.data },{ on:=2,ground:=Go.Ground.chain },{ on:=0,ground:=Go.Ground.phase },{ on:=1,ground:=Go.Ground.phase },{ on:=2,ground:=Go.Ground.phase },{ on:=3,ground:=Go.Ground.phase }],guard:=none }] false) Go.Code.ret))
structure ElOK (tab:Nat->TI) (T E:Nat) (n:Nat):Prop where
 sl:(tab T).kind= .slice
 el:(tab T).elem=E
 ok:(tab E).ok=true
 size:(tab E).size=n
 agg:(tab E).agg=true\/((tab E).agg=false/\n=1)
def PrdOK {α:Type}(P:Program)(f:FuncId)(caps:List AV)(ld:α->AV)(S:α->Prop)(pr:α->Bool)(ids:List Nat)(hp0:Hp):Prop:=
 ∀(x:α),S x->∀(nx:Nat),∃nx',nx<=nx'/\∀hp:Hp,(∀i∈ids,hp i=hp0 i)->InlOK P f ([ld x]++caps) hp nx fun v2 hp2 nx2=>v2= .v (.bool (pr x))/\hp2=hp/\nx2=nx'
open Classical in
noncomputable def PrdOK.nx {α:Type} {P:Program} {f:FuncId} {caps:List AV} {ld:α->AV} {S:α->Prop} {pr:α->Bool} {ids:List Nat} {hp0:Hp} (h:PrdOK P f caps ld S pr ids hp0) (x:α) (n:Nat):Nat:=if hx:S x then(h x hx n).choose else n
theorem PrdOK.le {α:Type}{P:Program}{f:FuncId}{caps:List AV}{ld:α->AV}{S:α->Prop}{pr:α->Bool}{ids:List Nat}{hp0:Hp}(h:PrdOK P f caps ld S pr ids hp0)(x:α)(n:Nat):n<=h.nx x n:=by
 unfold PrdOK.nx;split
 ·rename_i hx
  exact(h x hx n).choose_spec.1
 ·exact Nat.le_refl _
theorem PrdOK.inl {α:Type}{P:Program}{f:FuncId}{caps:List AV}{ld:α->AV}{S:α->Prop}{pr:α->Bool}{ids:List Nat}{hp0:Hp}(h:PrdOK P f caps ld S pr ids hp0)(x:α)(hx:S x)(n:Nat){hp:Hp}(hh:∀i∈ids,hp i=hp0 i):InlOK P f ([ld x]++caps) hp n fun v2 hp2 nx2=>v2= .v (.bool (pr x))/\hp2=hp/\nx2=h.nx x n:=by
 have:=(h x hx n).choose_spec.2 hp hh
 unfold PrdOK.nx;rw[dif_pos hx];exact this
def idxB {α:Type}(pr:α->Bool):List α->Nat->Int
 |[],_=> -1
 |x::r,k=>if pr x then k else idxB pr r (k+1)
theorem fT_ {α:Type}(pr:α->Bool):∀(l:List α) (k:Nat),decide (idxB pr l k>=0)=l.any pr
 |[],_=>rfl
 |x::r,k=>by
  have ih:=fT_ pr r (k+1);by_cases e:pr x=true
  ·simp[idxB,e]
  ·simpa [idxB,e] using ih
noncomputable def ixNx {α:Type} (pr:α->Bool) (nxf:α->Nat->Nat):List α->Nat->Nat
 |[],n=>n+2
 |x::r,n=>if pr x then nxf x (n+9)+2 else ixNx pr nxf r (nxf x (n+9)+2)
section
variable {P:Program}{tab:Nat->TI}
theorem nu_ {α:Type}{pr:α->Bool}{nxf:α->Nat->Nat}(h:∀x n,n<=nxf x n):∀(l:List α) (n:Nat),n<=ixNx pr nxf l n
 |[],n=>by simp[ixNx]
 |x::r,n=>by
  unfold ixNx;have h1:=h x (n+9);split
  ·omega
  ·have:=nu_ (pr:=pr) h r (nxf x (n+9)+2)
   omega
theorem hL_ (ht:TabOk P tab)(hm:P.follows .mixedOrders=true){f:FuncId}{fn:Func}{T E I B F V n:Nat}(hf:P.funcs[f]? =some fn)(hb:fn.body=some (dP_ T E I B F V))(hname:(fn.name== "runtime.NumGoroutine")=false)(hd:jC_ fn.ntmps (dP_ T E I B F V)=true)(hl:2<=fn.ntmps)(hr:fn.results= #[.tmp 4])
  (hE:ElOK tab T E n) (hkE:(tab E).kind= .struct) {α:Type} (enc:α->List D) (hn:∀x,(enc x).length=n) (pr:α->Bool) {g:FuncId} {caps:List AV} {ids:List Nat} {hp0:Hp} {b:Bool} (S:α->Prop) (hP:PrdOK P g caps (fun x=>.d (.ag (enc x)) b) S pr ids hp0) (xs:List α) (hS:∀x∈xs,S x) (hx:xs.length<4611686018427387904) (nx:Nat):
  ∃nx',nx<=nx'/\∀hp:Hp,(∀i∈ids,hp i=hp0 i)->InlOK P f [.d (.sl (xs.map enc)) b,.fn g caps] hp nx fun v hp2 nx2=>v= .v (.int .i64 (idxB pr xs 0))/\hp2=hp/\nx2=nx':=by
 refine⟨ixNx pr hP.nx xs (nx+4),Nat.le_trans (by omega) (nu_ hP.le xs (nx+4)),fun hp hh=> ?_⟩;refine InlOK.up (jd_ ht hm hf hb hname hd (by simpa using hl) ?_);rw[hr];unfold dP_;have e1:=hE.sl;have e2:=hE.el;have e3:=hE.ok;have e4:=hE.size
 simp -implicitDefEqProofs only[go_sem,Nat.reduceAdd,reduceCtorEq, ↓reduceIte,e1]
 refine nf_ (α:={ p:Nat × Nat // p.1<=xs.length/\idxB pr (xs.drop p.1) p.1=idxB pr xs 0/\ixNx pr hP.nx (xs.drop p.1) (nx+4+p.2)=ixNx pr hP.nx xs (nx+4) }) [(4,5),(8,18)] (fun p fr=>upd 8 (.v (.int .i64 (p.1.1:Int))) fr) (fun p=>p.1.2) (fun p=>xs.length-p.1.1) ⟨(0,0),by simp⟩ ⟨qa_ (by first |rfl |simp[x1_,yq_]) (tU_ _ _),m0_ _,by simp⟩ ?_
 rintro⟨⟨k,m⟩,hI⟩;simp only at hI;obtain⟨hk1,hk2,hk3⟩:=hI;by_cases hk:k<xs.length
 ·have c1:=fN_ hk
  rw[List.drop_eq_getElem_cons hk] at hk2 hk3;simp only[idxB,ixNx] at hk2 hk3;have tk:(enc xs[k]).take n=enc xs[k]:=List.take_of_length_le (by rw[hn];exact Nat.le_refl _)
  simp -implicitDefEqProofs only[go_sem,Nat.reduceEqDiff,Nat.reduceAdd,Nat.reduceLeDiff,reduceCtorEq, ↓reduceIte,c1,e1,e2,e3,e4,hkE,at_map hk,hn,tk,Nat.le_refl];refine qe_ ?_
  refine(hP.inl xs[k] (hS _ (List.getElem_mem _)) _ hh).mono fun v2 hp2 nx2 hq=> ?_;obtain⟨rfl,rfl,rfl⟩:=hq;simp -implicitDefEqProofs only[go_sem, ↓reduceIte]
  refine yj_ (fun h=> ?_) (fun h=> ?_)
  ·rw[if_pos h] at hk2 hk3
   simp -implicitDefEqProofs only[go_sem,Nat.reduceEqDiff,Nat.reduceAdd, ↓reduceIte]
   exact xM_ (by simp -implicitDefEqProofs only[go_sem, ↓reduceIte]<;>rfl) ⟨_,by rw[<-hk3,show nx+1+3+m+1+2+6=nx+4+m+9 by omega];exact Nat.le_refl _,by rw[hk2],rfl,rfl⟩
  ·rw[if_neg (by simp[h])] at hk2 hk3
   have hle:=hP.le xs[k] (nx+4+m+9);have w1:IntKind.i64.wrap ((k:Int)+1)=((k+1:Nat):Int):=vB_ (by omega);have e6:nx+1+3+m+1+2+6=nx+4+m+9:=by omega
   simp -implicitDefEqProofs only[go_sem,Nat.reduceEqDiff,Nat.reduceAdd, ↓reduceIte,h,w1,e6]
   exact⟨⟨(k+1,hP.nx xs[k] (nx+4+m+9)+2-(nx+4)),⟨by omega,hk2,by simp only;rw[show nx+4+(hP.nx xs[k] (nx+4+m+9)+2-(nx+4))=hP.nx xs[k] (nx+4+m+9)+2 by omega];exact hk3⟩⟩,⟨qa_ (by first |rfl |simp[x1_,yq_]) ((by repeat first |exact tV_ _ _ |refine tW_ rfl ?_)),m0_ _,by simp only;omega⟩,by simp only;omega⟩
 ·have c1:=dN_ (Nat.le_of_not_lt hk)
  rw[List.drop_eq_nil_of_le (by omega)] at hk2 hk3;simp only[idxB,ixNx] at hk2 hk3;simp -implicitDefEqProofs only[go_sem,Nat.reduceEqDiff,Nat.reduceLeDiff, ↓reduceIte,c1]
  exact xM_ (by simp -implicitDefEqProofs only[go_sem, ↓reduceIte]<;>rfl) ⟨_,Nat.le_of_eq hk3,by rw[hk2],rfl,rfl⟩
theorem ctf_ok (ht:TabOk P tab)(hm:P.follows .mixedOrders=true){f gi:FuncId}{fn:Func}{T E I B F V:Nat}(hf:P.funcs[f]? =some fn)(hb:fn.body=some (dQ_ T E I B F V gi))(hname:(fn.name== "runtime.NumGoroutine")=false)(hd:jC_ fn.ntmps (dQ_ T E I B F V gi)=true)(hl:2<=fn.ntmps)(hr:fn.results= #[.tmp 4])
  {L:List (List D)} {b:Bool} {g:FuncId} {caps:List AV} {ids:List Nat} {hp0:Hp} {z:Int} (hix:∀nx,∃nx',nx<=nx'/\∀hp:Hp,(∀i∈ids,hp i=hp0 i)->InlOK P gi [.d (.sl L) b,.fn g caps] hp nx fun v hp2 nx2=>v= .v (.int .i64 z)/\hp2=hp/\nx2=nx') (nx:Nat):
  ∃nx',nx<=nx'/\∀hp:Hp,(∀i∈ids,hp i=hp0 i)->InlOK P f [.d (.sl L) b,.fn g caps] hp nx fun v hp2 nx2=>v= .v (.bool (decide (z>=0)))/\hp2=hp/\nx2=nx':=by
 obtain⟨n2,h1,h2⟩:=hix (nx+1+5);refine⟨n2,by omega,fun hp hh=>jd_ ht hm hf hb hname hd (by simpa using hl) ?_⟩;rw[hr];unfold dQ_
 simp -implicitDefEqProofs only[go_sem,Nat.reduceEqDiff,Nat.reduceAdd,reduceCtorEq, ↓reduceIte];refine qe_ ?_;refine(h2 _ hh).mono fun v2 hp2 nx2 hq=> ?_;obtain⟨rfl,rfl,rfl⟩:=hq
 simp -implicitDefEqProofs only[go_sem,Nat.reduceAdd, ↓reduceIte]
 exact xM_ (by simp -implicitDefEqProofs only[go_sem, ↓reduceIte]<;>rfl) ⟨rfl,rfl,rfl⟩
end
end Go.Proofs.YtnmkbmefohakmaaGreat.Ab
namespace Go.Proofs.YtnmkbmefohakmaaGreat.Ab
open Go.RowKit
def vm_ (f:Nat->Nat)(a:Rec):Rec:=⟨a.ids.map f,a.ks.map f,a.g⟩
theorem gM_ {f:Nat->Nat}{xs ys:List Nat}(h:meet xs ys=true):meet (xs.map f) (ys.map f)=true:=by
 unfold meet at h⊢;simp only[List.any_eq_true,List.mem_map,List.contains_iff_mem] at h⊢;obtain⟨i,hi,hk⟩:=h;exact⟨_,⟨i,hi,rfl⟩,⟨i,hk,rfl⟩⟩
theorem sa_ {f:Nat->Nat}{a b:Rec}(ha:a.g=false)(hb:b.g=false)(h:xK_ a b=true):xK_ (vm_ f a) (vm_ f b)=true:=by
 simp only[xK_,zq_,wild,ha,hb,Bool.or_eq_true,Bool.false_and,Bool.false_eq_true,or_false] at h;apply xL_;simp only[zq_,Bool.or_eq_true];rcases h with h |h
 ·have:=gM_ (f:=f) h
  rw[List.map_append] at this;exact .inl (.inl this)
 ·exact .inl (.inr (gM_ h))
theorem sb_ {f:Nat->Nat}{ops:Array Oper}{rs:List Rec}(hg:rs.all (fun a=> !a.g)=true)(h:vY_ ops (rs.map (vm_ f))=true):vY_ ops rs=true:=by
 have hg:∀a∈rs,a.g=false:=by simpa using hg
 simp only[vY_,wU_,Bool.and_eq_true,List.all_eq_true] at h⊢;refine⟨h.1,fun j hj i hi=> ?_⟩;have h1:=h.2 j hj i hi;rw[List.getElem?_map,List.getElem?_map] at h1;cases hx:rs[i]? with
 |none=>
  rw[hx] at h1;exact h1
 |some a=>
  cases hy:rs[j]? with
  |none=>
   rw[hx,hy] at h1;exact h1
  |some b=>
   rw[hx,hy] at h1;simp only[Option.map_some] at h1⊢;cases hc:xK_ a b with
   |false=>
    rw[Bool.or_eq_true] at h1⊢;rcases h1 with h1 |h1
    ·exact .inl h1
    ·refine .inr ?_
     rw[Bool.and_eq_true] at h1⊢;exact⟨h1.1,rfl⟩
   |true=>
    rw[sa_ (hg a (List.mem_of_getElem? hx)) (hg b (List.mem_of_getElem? hy)) hc] at h1;simpa using h1
def nw (nx i:Nat):Nat:=i+1-nx
theorem sT_ {nx i:Nat}(h:i<nx):nw nx i=0:=by
 unfold nw;omega
theorem pi_ {nx:Nat}:nw nx nx=1:=by
 unfold nw;omega
theorem xx_ {P:Program}{tab:Nat->TI}{ops:Array Oper}{nx0 nx i:Nat}{k:List It}{Q:Ex->St->Prop}{acc:List Rec}{fr:Fr}{hp:Hp}(f:Nat->Nat)(rs:List Rec)(hr:acc.reverse.map (vm_ f)=rs)(h1:yg_ ops rs=true)(hg:acc.reverse.all (fun a=> !a.g)=true)(h2:run P tab k Q ⟨fr,hp,nx⟩):Rd P tab ops nx0 nx k Q i [] acc fr hp:=
 ⟨sb_ hg (va_ (hr▸h1)),h2⟩
abbrev NodeAt (es:List (Value × AV))(r:GRef)(id:Nat):Prop:=j8_ (true,[.string,.string,.string]) (.agg #[.string r.obj.type_,.string r.obj.id_,.string r.rel]) (.v (.pointer none)) false es=some (.pt id 0,[])
theorem jw_ {hp:Hp}{nx i:Nat}{o:AO}(hf:∀j,nx<=j->hp j=none)(h:hp i=some o):(i=nx)=False:=eq_false fun e=>by
 have:=hf i (by omega)
 rw[h] at this;cases this
theorem gN_ {hp:Hp}{nx:Nat}{x:Option AO}(hf:∀j,nx<=j->hp j=none):Less hp (upd nx x hp):=⟨fun i=>by
 by_cases h:i=nx
 ·subst h
  exact .inl (hf i (Nat.le_refl _))
 ·exact .inr (by simp[upd,h])⟩
theorem any1 {hp:Hp}{nx q c m id:Nat}{r:GRef}{b:Bool}{g o rk dp ab:AV}{s1 s2 s3:AV}{es:List (Value × AV)}{dl is:Bool}
  (hc:hp c=some (.bx [.pt q 0])) (hq:hp q=some (.bx [g,s1,s2,s3,.mo m,o])) (hm:hp m=some (.mo es dl)) (hl:NodeAt es r id)
  (hn:hp id=some (.bx [rk,dp,ab,.v (.bool is)])):
  InlOK Tryz.prog 149 [.d (.ag (eGRef r)) b,.pt c 0] hp nx fun v hp2 nx2=>v= .v (.bool is)/\hp2=hp/\nx2=nx+12:=by
 refine InlOK.fresh (fun hf=> ?_) ⟨Tryz.f149,Tryz.func149,by kernel_rfl,by kernel_rfl⟩;refine InlOK.up (jd_ qh_ fol Tryz.func149 (by rfl) (by kernel_rfl) (by kernel_rfl) (by exact Nat.le_of_ble_eq_true rfl) ?_);have w:=And.intro (jw_ hf hc) (And.intro (jw_ hf hq) (And.intro (jw_ hf hm) (And.intro (jw_ hf hn) (And.intro hc (And.intro hq (And.intro hm (And.intro hl hn)))))));refine Z1 w ?_
 refine qj_ (by rfl) ?_;refine Z1 w ?_;exact⟨_,hp,rfl,gN_ hf,nx+12,Nat.le_refl _,rfl,rfl,rfl⟩
theorem sc_ {hp:Hp}{q c m:Nat}{g o:AV}{s1 s2 s3:AV}{es:List (Value × AV)}{dl b:Bool}{is:GRef->Bool}{ids:List Nat}
  (hc:hp c=some (.bx [.pt q 0])) (hq:hp q=some (.bx [g,s1,s2,s3,.mo m,o])) (hm:hp m=some (.mo es dl)):
  PrdOK Tryz.prog 149 [.pt c 0] (fun r:GRef=>.d (.ag (eGRef r)) b) (fun r=>∃id rk dp ab,NodeAt es r id/\hp id=some (.bx [rk,dp,ab,.v (.bool (is r))])/\id∈ids) is (c::q::m::ids) hp:=by
 rintro r ⟨id,rk,dp,ab,hl,hn,hi⟩ nx;refine⟨nx+12,by omega,fun hp1 h1=> ?_⟩;exact any1 (by rw[h1 c (by simp)];exact hc) (by rw[h1 q (by simp)];exact hq) (by rw[h1 m (by simp)];exact hm) hl (by rw[h1 id (by simp[hi])];exact hn)
theorem el_ref:ElOK tab 81 120 3:=⟨by simp only[go_sem],by simp only[go_sem],by simp only[go_sem],by simp only[go_sem],.inl (by simp only[go_sem])⟩
theorem cy_ {S:GRef->Prop}{pr:GRef->Bool}{g:FuncId}{caps:List AV}{ids:List Nat}{hp0:Hp}(b:Bool)(hP:PrdOK Tryz.prog g caps (fun x=>.d (.ag (eGRef x)) b) S pr ids hp0)(xs:List GRef)(hS:∀x∈xs,S x)(hx:xs.length<4611686018427387904)(nx:Nat):
  ∃nx',nx<=nx'/\∀hp:Hp,(∀i∈ids,hp i=hp0 i)->InlOK Tryz.prog 148 [.d (.sl (xs.map eGRef)) b,.fn g caps] hp nx fun v hp2 nx2=>v= .v (.bool (xs.any pr))/\hp2=hp/\nx2=nx':=by
 rw[<-fT_ pr xs 0];exact ctf_ok qh_ fol (T:=81) (E:=120) (I:=3) (B:=0) (F:=150) (V:=4) Tryz.func148 rfl (by kernel_rfl) (by kernel_rfl) (by decide) rfl
  (fun nx=>hL_ qh_ fol (T:=81) (E:=120) (I:=3) (B:=0) (F:=150) (V:=4) (n:=3) Tryz.func102 rfl (by kernel_rfl) (by kernel_rfl) (by decide) rfl el_ref (by simp only[go_sem]) eGRef (fun _=>rfl) pr S hP xs hS hx nx) nx
end Go.Proofs.YtnmkbmefohakmaaGreat.Ab
