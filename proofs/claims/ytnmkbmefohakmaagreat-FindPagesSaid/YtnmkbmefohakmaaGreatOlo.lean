/-
 look.once, where what it answers is a row of one's own.
-/
import Derived.Test.YtnmkbmefohakmaaGreatAbU
import Derived.Test.YtnmkbmefohakmaaGreatProg
import Derived.IntWalk
import Derived.KernelRfl
import Derived.Deep.LoopGhost
import Derived.Ground.NamesProg
import Derived.Ground.Names2Prog
import Derived.Shelf.Slices.In.CompactS
import Derived.Shelf.Slices.In.SortNone
import Derived.Sort.EveryDepth
namespace Go.Proofs.YtnmkbmefohakmaaGreat.Ab
end Go.Proofs.YtnmkbmefohakmaaGreat.Ab
namespace Go.Proofs.YtnmkbmefohakmaaGreat.Ab
open Go.RowKit
section
variable {hp hp':Hp}
end
@[go_sem] theorem toA_acc (hp:Hp)(id ver:Nat)(es:List (List D)):toA hp (accV id ver es)=(accT (hp id) ver id es).map fun(d,b,is)=>(.d d,b,is):=by
 rw[<-rV_];cases es<;>rfl
@[go_sem] theorem appB_nil {tab:Nat->TI}{nid T T':Nat}(h:T=T'/\(tab T).kind= .slice/\(tab (tab T).elem).ok/\0<(tab (tab T).elem).size)(ys:List (List D))(b:Bool)(is:List Nat)(id ver:Nat)(o:Option AO):
  appB tab nid T T' (some (ys,b,is)) id ver [] o=if chk (tab (tab T).elem).size ys/\(tab (tab T).elem).bytes<=32768/\ys.length<=4294967296 then
   (if ys.length=0 then some (.v (.slice none 0 0),[]) else some (.so nid 0 0 ys.length,[(nid,.rw ys (tab (tab T).elem).size 0 b false)])) else none:=by
 unfold appB;rw[if_pos h]
@[go_sem] theorem appB_pos {tab:Nat->TI}{nid T T':Nat}(h:T=T'/\(tab T).kind= .slice/\(tab (tab T).elem).ok/\0<(tab (tab T).elem).size)(ys:List (List D))(b:Bool)(is:List Nat)(id ver:Nat)(es es':List (List D))(sz v:Nat)(br:Bool)(hp:0<es.length):
  appB tab nid T T' (some (ys,b,is)) id ver es (some (.rw es' sz v br false))=if ver=v/\es.length<=es'.length/\sz=(tab (tab T).elem).size/\chk sz ys/\(tab (tab T).elem).bytes<=32768/\es.length+ys.length<=4294967296 then
      some (.so id (v+1) 0 (es.length+ys.length),[(id,.rw (es'.take es.length++ys) sz (v+1) (br||b) false)]) else none:=by
 unfold appB;grind
theorem part_mid {α:Type}{xs ys:List α}{lo hi:Nat}(f:α->List D)(h:ys=List.drop lo (List.take hi xs)):List.take ys.length (List.drop lo (List.map f xs))=List.map f ys:=by
 grind [List.drop_take,List.map_drop,List.length_take,List.map_take,List.take_eq_take_min,List.length_map]
theorem hm_ {α:Type}{xs ys:List α}{hi:Nat}(f:α->List D)(h:ys=List.drop 0 (List.take hi xs)):List.take ys.length (List.map f xs)=List.map f ys:=by
 simp_all
end Go.Proofs.YtnmkbmefohakmaaGreat.Ab
namespace Go.Proofs.YtnmkbmefohakmaaGreat.Ab
theorem tn_:∃t,t=tabP Tryz.prog:=⟨_,rfl⟩
noncomputable def tab:Nat->TI:=Classical.choose tn_
theorem to_:tab=tabP Tryz.prog:=Classical.choose_spec tn_
theorem qf_:TabOk Tryz.prog tab:=to_▸t5_ _
theorem qC_ {k:Nat}{x:TI}(h:tabP Tryz.prog k=x):tab k=x:=by rw[to_];exact h
theorem fol:Tryz.prog.follows .mixedOrders=true:=by kernel_rfl
@[go_sem] theorem tab2:tab 2={ ok:=true,kind:=.int .i64,size:=1,bytes:=8,zero:=[.int .i64 0] }:=qC_ (by kernel_rfl)
@[go_sem] theorem tab3:tab 3={ ok:=true,kind:=.int .i64,size:=1,bytes:=8,zero:=[.int .i64 0] }:=qC_ (by kernel_rfl)
@[go_sem] theorem tab4:tab 4={ ok:=true,kind:=.bool,size:=1,bytes:=1,zero:=[.bool false] }:=qC_ (by kernel_rfl)
@[go_sem] theorem tab9:tab 9={ ok:=true,kind:=.string,size:=1,bytes:=16,zero:=[.string ByteArray.empty] }:=qC_ (by kernel_rfl)
@[go_sem] theorem tab22:tab 22={ ok:=true,kind:=.slice,size:=1,bytes:=24,elem:=2,zero:=[.slice none 0 0] }:=qC_ (by kernel_rfl)
@[go_sem] theorem tab23:tab 23={ ok:=true,kind:=.slice,size:=1,bytes:=24,elem:=88,zero:=[.slice none 0 0] }:=qC_ (by kernel_rfl)
@[go_sem] theorem tab26:tab 26={ ok:=true,kind:=.slice,size:=1,bytes:=24,elem:=35,zero:=[.slice none 0 0] }:=qC_ (by kernel_rfl)
@[go_sem] theorem tab29:tab 29={ ok:=true,kind:=.struct,size:=2,bytes:=32,offs:=[(0,1),(1,1)],zero:=[.string ByteArray.empty,.string ByteArray.empty],flat:=some [.string,.string] }:=qC_ (by kernel_rfl)
@[go_sem] theorem tab31:tab 31={ ok:=true,kind:=.struct,size:=3,bytes:=48,offs:=[(0,1),(1,1),(2,1)],zero:=[.string ByteArray.empty,.string ByteArray.empty,.string ByteArray.empty],flat:=some [.string,.string,.string] }:=qC_ (by kernel_rfl)
@[go_sem] theorem tab35:tab 35={ ok:=true,kind:=.struct,size:=6,bytes:=96,offs:=[(0,2),(2,1),(3,3)],zero:=[.string ByteArray.empty,.string ByteArray.empty,.string ByteArray.empty,.string ByteArray.empty,.string ByteArray.empty,.string ByteArray.empty],flat:=some [.string,.string,.string,.string,.string,.string] }:=qC_ (by kernel_rfl)
@[go_sem] theorem tab47:tab 47={ ok:=true,kind:=.slice,size:=1,bytes:=24,elem:=9,zero:=[.slice none 0 0] }:=qC_ (by kernel_rfl)
@[go_sem] theorem tab48:tab 48={ ok:=true,kind:=.int .u64,size:=1,bytes:=8,zero:=[.int .u64 0] }:=qC_ (by kernel_rfl)
@[go_sem] theorem tab49:tab 49={ ok:=true,kind:=.slice,size:=1,bytes:=24,elem:=31,zero:=[.slice none 0 0] }:=qC_ (by kernel_rfl)
@[go_sem] theorem tab50:tab 50={ ok:=true,kind:=.slice,size:=1,bytes:=24,elem:=57,zero:=[.slice none 0 0] }:=qC_ (by kernel_rfl)
@[go_sem] theorem tab52:tab 52={ ok:=true,kind:=.struct,size:=3,bytes:=64,offs:=[(0,1),(1,1),(2,1)],zero:=[.string ByteArray.empty,.slice none 0 0,.slice none 0 0] }:=qC_ (by kernel_rfl)
@[go_sem] theorem tab55:tab 55={ ok:=true,kind:=.slice,size:=1,bytes:=24,elem:=4,zero:=[.slice none 0 0] }:=qC_ (by kernel_rfl)
@[go_sem] theorem tab57:tab 57={ ok:=true,kind:=.struct,size:=3,bytes:=40,offs:=[(0,1),(1,1),(2,1)],zero:=[.int .i64 0,.string ByteArray.empty,.string ByteArray.empty],flat:=some [.int .i64,.string,.string] }:=qC_ (by kernel_rfl)
@[go_sem] theorem tab60:tab 60={ ok:=true,kind:=.struct,size:=2,bytes:=24,offs:=[(0,1),(1,1)],zero:=[.string ByteArray.empty,.int .i64 0],flat:=some [.string,.int .i64] }:=qC_ (by kernel_rfl)
@[go_sem] theorem tab75:tab 75={ ok:=true,kind:=.ptr,size:=1,bytes:=8,elem:=103,zero:=[.pointer none] }:=qC_ (by kernel_rfl)
@[go_sem] theorem tab81:tab 81={ ok:=true,kind:=.slice,size:=1,bytes:=24,elem:=120,zero:=[.slice none 0 0] }:=qC_ (by kernel_rfl)
@[go_sem] theorem tab86:tab 86={ ok:=true,kind:=.slice,size:=1,bytes:=24,elem:=52,zero:=[.slice none 0 0] }:=qC_ (by kernel_rfl)
@[go_sem] theorem tab88:tab 88={ ok:=true,kind:=.struct,size:=2,bytes:=40,offs:=[(0,1),(1,1)],zero:=[.string ByteArray.empty,.slice none 0 0] }:=qC_ (by kernel_rfl)
@[go_sem] theorem tab91:tab 91={ ok:=true,kind:=.slice,size:=1,bytes:=24,elem:=3,zero:=[.slice none 0 0] }:=qC_ (by kernel_rfl)
@[go_sem] theorem tab100:tab 100={ ok:=true,kind:=.ptr,size:=1,bytes:=8,elem:=176,zero:=[.pointer none] }:=qC_ (by kernel_rfl)
@[go_sem] theorem tab101:tab 101={ ok:=true,kind:=.ptr,size:=1,bytes:=8,elem:=113,zero:=[.pointer none] }:=qC_ (by kernel_rfl)
@[go_sem] theorem tab103:tab 103={ ok:=true,kind:=.struct,size:=3,bytes:=40,offs:=[(0,1),(1,1),(2,1)],zero:=[.pointer none,.pointer none,.slice none 0 0] }:=qC_ (by kernel_rfl)
@[go_sem] theorem tab105:tab 105={ ok:=true,kind:=.map,size:=1,bytes:=8,elem:=49,zero:=[.map none],mkey:=some (true,[.string,.string,.string]) }:=qC_ (by kernel_rfl)
@[go_sem] theorem tab106:tab 106={ ok:=true,kind:=.map,size:=1,bytes:=8,elem:=47,zero:=[.map none],mkey:=some (false,[.string]) }:=qC_ (by kernel_rfl)
@[go_sem] theorem tab108:tab 108={ ok:=true,kind:=.struct,size:=2,bytes:=16,offs:=[(0,1),(1,1)],zero:=[.map none,.map none] }:=qC_ (by kernel_rfl)
@[go_sem] theorem tab109:tab 109={ ok:=true,kind:=.map,size:=1,bytes:=8,elem:=81,zero:=[.map none],mkey:=some (true,[.string,.string,.string]) }:=qC_ (by kernel_rfl)
@[go_sem] theorem tab111:tab 111={ ok:=true,kind:=.struct,size:=2,bytes:=16,offs:=[(0,1),(1,1)],zero:=[.map none,.map none] }:=qC_ (by kernel_rfl)
@[go_sem] theorem tab113:tab 113={ ok:=true,kind:=.struct,size:=4,bytes:=32,offs:=[(0,2),(2,2)],zero:=[.map none,.map none,.map none,.map none] }:=qC_ (by kernel_rfl)
@[go_sem] theorem tab120:tab 120={ ok:=true,kind:=.struct,size:=3,bytes:=48,offs:=[(0,2),(2,1)],zero:=[.string ByteArray.empty,.string ByteArray.empty,.string ByteArray.empty],flat:=some [.string,.string,.string] }:=qC_ (by kernel_rfl)
@[go_sem] theorem tab121:tab 121={ ok:=true,kind:=.slice,size:=1,bytes:=24,elem:=129,zero:=[.slice none 0 0] }:=qC_ (by kernel_rfl)
@[go_sem] theorem tab126:tab 126={ ok:=true,kind:=.struct,size:=8,bytes:=96,offs:=[(0,1),(1,1),(2,1),(3,1),(4,1),(5,1),(6,1),(7,1)],zero:=[.slice none 0 0,.int .i64 0,.int .i64 0,.int .i64 0,.int .i64 0,.int .i64 0,.slice none 0 0,.int .i64 0] }:=qC_ (by kernel_rfl)
@[go_sem] theorem tab129:tab 129={ ok:=true,kind:=.struct,size:=3,bytes:=32,offs:=[(0,1),(1,1),(2,1)],zero:=[.int .i64 0,.int .i64 0,.string ByteArray.empty],flat:=some [.int .i64,.int .i64,.string] }:=qC_ (by kernel_rfl)
@[go_sem] theorem tab137:tab 137={ ok:=true,kind:=.ptr,size:=1,bytes:=8,elem:=140,zero:=[.pointer none] }:=qC_ (by kernel_rfl)
@[go_sem] theorem tab138:tab 138={ ok:=true,kind:=.map,size:=1,bytes:=8,elem:=144,zero:=[.map none],mkey:=some (true,[.string,.string,.string]) }:=qC_ (by kernel_rfl)
@[go_sem] theorem tab140:tab 140={ ok:=true,kind:=.struct,size:=6,bytes:=88,offs:=[(0,1),(1,3),(4,1),(5,1)],zero:=[.pointer none,.string ByteArray.empty,.string ByteArray.empty,.string ByteArray.empty,.map none,.slice none 0 0] }:=qC_ (by kernel_rfl)
@[go_sem] theorem tab143:tab 143={ ok:=true,kind:=.struct,size:=4,bytes:=64,offs:=[(0,1),(1,1),(2,1),(3,1)],zero:=[.int .i64 0,.slice none 0 0,.slice none 0 0,.bool false] }:=qC_ (by kernel_rfl)
@[go_sem] theorem tab144:tab 144={ ok:=true,kind:=.ptr,size:=1,bytes:=8,elem:=143,zero:=[.pointer none] }:=qC_ (by kernel_rfl)
@[go_sem] theorem tab172:tab 172={ ok:=true,kind:=.map,size:=1,bytes:=8,elem:=3,zero:=[.map none],mkey:=some (false,[.string]) }:=qC_ (by kernel_rfl)
@[go_sem] theorem tab173:tab 173={ ok:=true,kind:=.map,size:=1,bytes:=8,elem:=52,zero:=[.map none],mkey:=some (true,[.string,.string]) }:=qC_ (by kernel_rfl)
@[go_sem] theorem tab174:tab 174={ ok:=true,kind:=.map,size:=1,bytes:=8,elem:=3,zero:=[.map none],mkey:=some (true,[.string,.string]) }:=qC_ (by kernel_rfl)
@[go_sem] theorem tab176:tab 176={ ok:=true,kind:=.struct,size:=3,bytes:=24,offs:=[(0,1),(1,1),(2,1)],zero:=[.map none,.map none,.map none] }:=qC_ (by kernel_rfl)
@[go_sem] theorem tab178:tab 178={ ok:=true,kind:=.slice,size:=1,bytes:=24,elem:=181,zero:=[.slice none 0 0] }:=qC_ (by kernel_rfl)
@[go_sem] theorem tab181:tab 181={ ok:=true,kind:=.struct,size:=2,bytes:=32,offs:=[(0,1),(1,1)],zero:=[.string ByteArray.empty,.string ByteArray.empty],flat:=some [.string,.string] }:=qC_ (by kernel_rfl)
@[go_sem] theorem tab200:tab 200={ ok:=true,kind:=.map,size:=1,bytes:=8,elem:=201,zero:=[.map none],mkey:=some (true,[.string,.string]) }:=qC_ (by kernel_rfl)
@[go_sem] theorem tab201:tab 201={ ok:=true,kind:=.slice,size:=1,bytes:=24,elem:=204,zero:=[.slice none 0 0] }:=qC_ (by kernel_rfl)
@[go_sem] theorem tab204:tab 204={ ok:=true,kind:=.struct,size:=3,bytes:=40,offs:=[(0,2),(2,1)],zero:=[.string ByteArray.empty,.string ByteArray.empty,.int .i64 0],flat:=some [.string,.string,.int .i64] }:=qC_ (by kernel_rfl)
@[go_sem] theorem tab243:tab 243={ ok:=true,kind:=.slice,size:=1,bytes:=24,elem:=201,zero:=[.slice none 0 0] }:=qC_ (by kernel_rfl)
end Go.Proofs.YtnmkbmefohakmaaGreat.Ab
namespace Go.Proofs.YtnmkbmefohakmaaGreat.Ab
open Go.RowKit
structure GSub where
 type_:ByteArray
 id_:ByteArray
 rel:ByteArray
 deriving DecidableEq,Inhabited
abbrev eGSub (x:GSub):List D:=[D.v (.string x.type_),D.v (.string x.id_),D.v (.string x.rel)]
def xK_ (x:GSub):Value:=.agg #[.string x.type_,.string x.id_,.string x.rel]
theorem sw_:KeyE (true,[.string,.string,.string]) xK_:=fun a b=>by
 have e:(a==b)=((a.type_==b.type_)&&(a.id_==b.id_)&&(a.rel==b.rel)):=by
  obtain⟨a1,a2,a3⟩:=a;obtain⟨b1,b2,b3⟩:=b;rw[Bool.eq_iff_iff];simp[and_assoc]
 rw[e];simp[xK_,yo_,eqK,eq1,Bool.and_assoc]
structure GStep where
 kind:Int
 a:ByteArray
 b:ByteArray
 deriving DecidableEq,Inhabited
abbrev eGStep (x:GStep):List D:=[D.v (.int .i64 x.kind),D.v (.string x.a),D.v (.string x.b)]
structure GRel where
 name:ByteArray
 subs:List GSub
 expr:List GStep
 deriving DecidableEq,Inhabited
abbrev eGRel (x:GRel):List D:=[D.v (.string x.name),D.sl (List.map eGSub x.subs),D.sl (List.map eGStep x.expr)]
structure GType where
 name:ByteArray
 rels:List GRel
 deriving DecidableEq,Inhabited
abbrev eGType (x:GType):List D:=[D.v (.string x.name),D.sl (List.map eGRel x.rels)]
structure GObj where
 type_:ByteArray
 id_:ByteArray
 deriving DecidableEq,Inhabited
abbrev eGObj (x:GObj):List D:=[D.v (.string x.type_),D.v (.string x.id_)]
structure GTuple where
 obj:GObj
 rel:ByteArray
 sub_:GSub
 deriving DecidableEq,Inhabited
abbrev eGTuple (x:GTuple):List D:=[D.v (.string x.obj.type_),D.v (.string x.obj.id_),D.v (.string x.rel),D.v (.string x.sub_.type_),D.v (.string x.sub_.id_),D.v (.string x.sub_.rel)]
structure WellName where
 typ:ByteArray
 rel:ByteArray
 deriving DecidableEq,Inhabited
abbrev eWellName (x:WellName):List D:=[D.v (.string x.typ),D.v (.string x.rel)]
def qc_ (x:WellName):Value:=.agg #[.string x.typ,.string x.rel]
theorem jn_:KeyE (true,[.string,.string]) qc_:=fun a b=>by
 have e:(a==b)=((a.typ==b.typ)&&(a.rel==b.rel)):=by
  obtain⟨a1,a2⟩:=a;obtain⟨b1,b2⟩:=b;rw[Bool.eq_iff_iff];simp
 rw[e];simp[qc_,yo_,eqK,eq1]
structure WellSchema where
 types:List (ByteArray × Int)
 rels:List (WellName × GRel)
 ranks:List (WellName × Int)
 deriving DecidableEq,Inhabited
abbrev eWellSchema (x:WellSchema):List D:=[D.mp (qi_ Value.string false eI x.types),D.mp (qi_ qc_ true eGRel x.rels),D.mp (qi_ qc_ false eI x.ranks)]
structure GRef where
 obj:GObj
 rel:ByteArray
 deriving DecidableEq,Inhabited
abbrev eGRef (x:GRef):List D:=[D.v (.string x.obj.type_),D.v (.string x.obj.id_),D.v (.string x.rel)]
def xs_ (x:GRef):Value:=.agg #[.string x.obj.type_,.string x.obj.id_,.string x.rel]
theorem vj_:KeyE (true,[.string,.string,.string]) xs_:=fun a b=>by
 have e:(a==b)=((a.obj.type_==b.obj.type_)&&(a.obj.id_==b.obj.id_)&&(a.rel==b.rel)):=by
  obtain⟨⟨a1,a2⟩,a3⟩:=a;obtain⟨⟨b1,b2⟩,b3⟩:=b;rw[Bool.eq_iff_iff];simp[and_assoc]
 rw[e];simp[xs_,yo_,eqK,eq1,Bool.and_assoc]
structure LookLeft where
 subs:List (GRef × (List GSub))
 objs:List (ByteArray × (List ByteArray))
 deriving DecidableEq,Inhabited
abbrev eLookLeft (x:LookLeft):List D:=[D.mp (qi_ xs_ false (eL eGSub) x.subs),D.mp (qi_ Value.string false (eL eS) x.objs)]
structure LookRight where
 refs:List (GSub × (List GRef))
 users:List (ByteArray × (List ByteArray))
 deriving DecidableEq,Inhabited
abbrev eLookRight (x:LookRight):List D:=[D.mp (qi_ xK_ false (eL eGRef) x.refs),D.mp (qi_ Value.string false (eL eS) x.users)]
structure LookIndex where
 left:LookLeft
 right:LookRight
 deriving DecidableEq,Inhabited
abbrev eLookIndex (x:LookIndex):List D:=[D.mp (qi_ xs_ false (eL eGSub) x.left.subs),D.mp (qi_ Value.string false (eL eS) x.left.objs),D.mp (qi_ xK_ false (eL eGRef) x.right.refs),D.mp (qi_ Value.string false (eL eS) x.right.users)]
structure SeekGraph where
 schema:WellSchema
 index:LookIndex
 rows_:List GTuple
 deriving DecidableEq,Inhabited
abbrev eSeekGraph (x:SeekGraph):List D:=[D.pt (eWellSchema x.schema) 0,D.pt (eLookIndex x.index) 0,D.sl (List.map eGTuple x.rows_)]
structure GPage where
 after:ByteArray
 most:Int
 deriving DecidableEq,Inhabited
abbrev eGPage (x:GPage):List D:=[D.v (.string x.after),D.v (.int .i64 x.most)]
section
variable {P:Program}{tab:Nat->TI}
theorem Z0 {p q:Prop}(k:q)(e:p=q:=by conv=>lhs;try simp -implicitDefEqProofs only[go_sem,Bool.false_and,Int.reduceToNat,Int.reduceLT,Int.reduceLE,Int.reduceBEq,Int.reduceBNe,Nat.reduceLT,Nat.reduceBEq,Int.reduceEq,Nat.reduceEqDiff,Nat.reduceAdd,Nat.reduceSub,Nat.reduceMul,Nat.reduceLeDiff,reduceCtorEq, ↓reduceIte,or_true,or_false,true_or,false_or,jW_,js_,eGSub,eGStep,eGRel,eGType,eGObj,eGTuple,eWellName,eWellSchema,eGRef,eLookLeft,eLookRight,eLookIndex,eSeekGraph,eGPage]):p:=
 (e).mpr k
theorem Z1 {p q:Prop}{F:Prop}(w:F)(k:q)(e:F->p=q:=by intro w;conv=>lhs;try simp -implicitDefEqProofs only[go_sem,Bool.false_and,Int.reduceToNat,Int.reduceLT,Int.reduceLE,Int.reduceBEq,Int.reduceBNe,Nat.reduceLT,Nat.reduceBEq,Int.reduceEq,Nat.reduceEqDiff,Nat.reduceAdd,Nat.reduceSub,Nat.reduceMul,Nat.reduceLeDiff,reduceCtorEq, ↓reduceIte,or_true,or_false,true_or,false_or,jW_,js_,eGSub,eGStep,eGRel,eGType,eGObj,eGTuple,eWellName,eWellSchema,eGRef,eLookLeft,eLookRight,eLookIndex,eSeekGraph,eGPage,w]):p:=
 (e w).mpr k
theorem ZC0 {ops:Array Oper}{nx0:Nat}{k:List It}{Q:Ex->St->Prop}{i:Nat}{r:List Oper}{dst:Option Nat}{s:St}{g:FuncId}{caps vs:List AV}{b:Bool}{is:List Nat}{d:D}{f:Bool}{ds:List D}(h2:PureOK P g ds d f)(h:Rt P tab ops nx0 k Q i r ⟨putS dst (lift (!f&&b) d) s.fr,s.hp,s.nx⟩)(h1:toDl s.hp (vs++caps)=some (ds,b,is):=by first |rfl |(simp -implicitDefEqProofs only[go_sem,Bool.false_and,Int.reduceToNat,Int.reduceLT,Int.reduceLE,Int.reduceBEq,Int.reduceBNe,Nat.reduceLT,Nat.reduceBEq,Int.reduceEq,Nat.reduceEqDiff,Nat.reduceAdd,Nat.reduceSub,Nat.reduceMul,Nat.reduceLeDiff,reduceCtorEq, ↓reduceIte,or_true,or_false,true_or,false_or,jW_,js_,eGSub,eGStep,eGRel,eGType,eGObj,eGTuple,eWellName,eWellSchema,eGRef,eLookLeft,eLookRight,eLookIndex,eSeekGraph,eGPage];done) |(simp -implicitDefEqProofs only[go_sem,Bool.false_and,Int.reduceToNat,Int.reduceLT,Int.reduceLE,Int.reduceBEq,Int.reduceBNe,Nat.reduceLT,Nat.reduceBEq,Int.reduceEq,Nat.reduceEqDiff,Nat.reduceAdd,Nat.reduceSub,Nat.reduceMul,Nat.reduceLeDiff,reduceCtorEq, ↓reduceIte,or_true,or_false,true_or,false_or,jW_,js_,eGSub,eGStep,eGRel,eGType,eGObj,eGTuple,eWellName,eWellSchema,eGRef,eLookLeft,eLookRight,eLookIndex,eSeekGraph,eGPage];rfl))(h3:is= []\/f=true:=by first |exact .inr rfl |exact .inl rfl):wf_ P tab ops nx0 k Q i r dst s (.fn g caps) vs:=
 zl_ (h1) h2 h3 h
theorem ZC1 {ops:Array Oper}{nx0:Nat}{k:List It}{Q:Ex->St->Prop}{i:Nat}{r:List Oper}{dst:Option Nat}{s:St}{g:FuncId}{caps vs:List AV}{b:Bool}{is:List Nat}{d:D}{f:Bool}{ds:List D}{F:Prop}(w:F)(h2:PureOK P g ds d f)(h:Rt P tab ops nx0 k Q i r ⟨putS dst (lift (!f&&b) d) s.fr,s.hp,s.nx⟩)(h1:F->toDl s.hp (vs++caps)=some (ds,b,is):=by intro w;first |rfl |(simp -implicitDefEqProofs only[go_sem,Bool.false_and,Int.reduceToNat,Int.reduceLT,Int.reduceLE,Int.reduceBEq,Int.reduceBNe,Nat.reduceLT,Nat.reduceBEq,Int.reduceEq,Nat.reduceEqDiff,Nat.reduceAdd,Nat.reduceSub,Nat.reduceMul,Nat.reduceLeDiff,reduceCtorEq, ↓reduceIte,or_true,or_false,true_or,false_or,jW_,js_,eGSub,eGStep,eGRel,eGType,eGObj,eGTuple,eWellName,eWellSchema,eGRef,eLookLeft,eLookRight,eLookIndex,eSeekGraph,eGPage,w];done) |(simp -implicitDefEqProofs only[go_sem,Bool.false_and,Int.reduceToNat,Int.reduceLT,Int.reduceLE,Int.reduceBEq,Int.reduceBNe,Nat.reduceLT,Nat.reduceBEq,Int.reduceEq,Nat.reduceEqDiff,Nat.reduceAdd,Nat.reduceSub,Nat.reduceMul,Nat.reduceLeDiff,reduceCtorEq, ↓reduceIte,or_true,or_false,true_or,false_or,jW_,js_,eGSub,eGStep,eGRel,eGType,eGObj,eGTuple,eWellName,eWellSchema,eGRef,eLookLeft,eLookRight,eLookIndex,eSeekGraph,eGPage,w];rfl))(h3:is= []\/f=true:=by first |exact .inr rfl |exact .inl rfl):wf_ P tab ops nx0 k Q i r dst s (.fn g caps) vs:=
 zl_ (h1 w) h2 h3 h
theorem ZD0 {ops:Array Oper}{nx0 nx:Nat}{k:List It}{Q:Ex->St->Prop}{i:Nat}{r:List Oper}{dst:Option Nat}{acc:List Rec}{ids:List Nat}{fr:Fr}{hp:Hp}{g:FuncId}{caps vs:List AV}{b:Bool}{is:List Nat}{d:D}{f:Bool}{ds:List D}(h2:PureOK P g ds d f)(h:Rd P tab ops nx0 nx k Q i r (⟨ids,[],false⟩::acc) (putS dst (lift (!f&&b) d) fr) hp)(h1:toDl hp (vs++caps)=some (ds,b,is):=by first |rfl |(simp -implicitDefEqProofs only[go_sem,Bool.false_and,Int.reduceToNat,Int.reduceLT,Int.reduceLE,Int.reduceBEq,Int.reduceBNe,Nat.reduceLT,Nat.reduceBEq,Int.reduceEq,Nat.reduceEqDiff,Nat.reduceAdd,Nat.reduceSub,Nat.reduceMul,Nat.reduceLeDiff,reduceCtorEq, ↓reduceIte,or_true,or_false,true_or,false_or,jW_,js_,eGSub,eGStep,eGRel,eGType,eGObj,eGTuple,eWellName,eWellSchema,eGRef,eLookLeft,eLookRight,eLookIndex,eSeekGraph,eGPage];done) |(simp -implicitDefEqProofs only[go_sem,Bool.false_and,Int.reduceToNat,Int.reduceLT,Int.reduceLE,Int.reduceBEq,Int.reduceBNe,Nat.reduceLT,Nat.reduceBEq,Int.reduceEq,Nat.reduceEqDiff,Nat.reduceAdd,Nat.reduceSub,Nat.reduceMul,Nat.reduceLeDiff,reduceCtorEq, ↓reduceIte,or_true,or_false,true_or,false_or,jW_,js_,eGSub,eGStep,eGRel,eGType,eGObj,eGTuple,eWellName,eWellSchema,eGRef,eLookLeft,eLookRight,eLookIndex,eSeekGraph,eGPage];rfl))(h3:is= []\/f=true:=by first |exact .inr rfl |exact .inl rfl):vz_ P tab ops nx0 nx k Q i r dst acc ids fr hp (.fn g caps) vs:=
 bU_ (h1) h2 h3 h
theorem ZA0 {ops:Array Oper}{nx0:Nat}{k:List It}{Q:Ex->St->Prop}{i:Nat}{r:List Oper}{dst:Option Nat}{s:St}{g:FuncId}{caps vs:List AV}{b:Bool}{is:List Nat}{d:D}{f:Bool}{zs:List DA}(h2:PureA P g zs d f)(h:Rt P tab ops nx0 k Q i r ⟨putS dst (lift (!f&&b) d) s.fr,s.hp,s.nx⟩)(h1:toAl s.hp (vs++caps)=some (zs,b,is):=by first |rfl |(simp -implicitDefEqProofs only[go_sem,Bool.false_and,Int.reduceToNat,Int.reduceLT,Int.reduceLE,Int.reduceBEq,Int.reduceBNe,Nat.reduceLT,Nat.reduceBEq,Int.reduceEq,Nat.reduceEqDiff,Nat.reduceAdd,Nat.reduceSub,Nat.reduceMul,Nat.reduceLeDiff,reduceCtorEq, ↓reduceIte,or_true,or_false,true_or,false_or,jW_,js_,eGSub,eGStep,eGRel,eGType,eGObj,eGTuple,eWellName,eWellSchema,eGRef,eLookLeft,eLookRight,eLookIndex,eSeekGraph,eGPage];done) |(simp -implicitDefEqProofs only[go_sem,Bool.false_and,Int.reduceToNat,Int.reduceLT,Int.reduceLE,Int.reduceBEq,Int.reduceBNe,Nat.reduceLT,Nat.reduceBEq,Int.reduceEq,Nat.reduceEqDiff,Nat.reduceAdd,Nat.reduceSub,Nat.reduceMul,Nat.reduceLeDiff,reduceCtorEq, ↓reduceIte,or_true,or_false,true_or,false_or,jW_,js_,eGSub,eGStep,eGRel,eGType,eGObj,eGTuple,eWellName,eWellSchema,eGRef,eLookLeft,eLookRight,eLookIndex,eSeekGraph,eGPage];rfl))(h3:is= []\/f=true:=by first |exact .inr rfl |exact .inl rfl):wf_ P tab ops nx0 k Q i r dst s (.fn g caps) vs:=
 kD_ (h1) h2 h3 h
theorem ZA1 {ops:Array Oper}{nx0:Nat}{k:List It}{Q:Ex->St->Prop}{i:Nat}{r:List Oper}{dst:Option Nat}{s:St}{g:FuncId}{caps vs:List AV}{b:Bool}{is:List Nat}{d:D}{f:Bool}{zs:List DA}{F:Prop}(w:F)(h2:PureA P g zs d f)(h:Rt P tab ops nx0 k Q i r ⟨putS dst (lift (!f&&b) d) s.fr,s.hp,s.nx⟩)(h1:F->toAl s.hp (vs++caps)=some (zs,b,is):=by intro w;first |rfl |(simp -implicitDefEqProofs only[go_sem,Bool.false_and,Int.reduceToNat,Int.reduceLT,Int.reduceLE,Int.reduceBEq,Int.reduceBNe,Nat.reduceLT,Nat.reduceBEq,Int.reduceEq,Nat.reduceEqDiff,Nat.reduceAdd,Nat.reduceSub,Nat.reduceMul,Nat.reduceLeDiff,reduceCtorEq, ↓reduceIte,or_true,or_false,true_or,false_or,jW_,js_,eGSub,eGStep,eGRel,eGType,eGObj,eGTuple,eWellName,eWellSchema,eGRef,eLookLeft,eLookRight,eLookIndex,eSeekGraph,eGPage,w];done) |(simp -implicitDefEqProofs only[go_sem,Bool.false_and,Int.reduceToNat,Int.reduceLT,Int.reduceLE,Int.reduceBEq,Int.reduceBNe,Nat.reduceLT,Nat.reduceBEq,Int.reduceEq,Nat.reduceEqDiff,Nat.reduceAdd,Nat.reduceSub,Nat.reduceMul,Nat.reduceLeDiff,reduceCtorEq, ↓reduceIte,or_true,or_false,true_or,false_or,jW_,js_,eGSub,eGStep,eGRel,eGType,eGObj,eGTuple,eWellName,eWellSchema,eGRef,eLookLeft,eLookRight,eLookIndex,eSeekGraph,eGPage,w];rfl))(h3:is= []\/f=true:=by first |exact .inr rfl |exact .inl rfl):wf_ P tab ops nx0 k Q i r dst s (.fn g caps) vs:=
 kD_ (h1 w) h2 h3 h
theorem ZE0 {rs:Array ResultVar}{d:D}{fr b:Bool}{is:List Nat}{s:St}{v:AV}(h1:resA tab rs s=some v:=by first |(simp -implicitDefEqProofs only[go_sem,Bool.false_and,Int.reduceToNat,Int.reduceLT,Int.reduceLE,Int.reduceBEq,Int.reduceBNe,Nat.reduceLT,Nat.reduceBEq,Int.reduceEq,Nat.reduceEqDiff,Nat.reduceAdd,Nat.reduceSub,Nat.reduceMul,Nat.reduceLeDiff,reduceCtorEq, ↓reduceIte,or_true,or_false,true_or,false_or,jW_,js_,eGSub,eGStep,eGRel,eGType,eGObj,eGTuple,eWellName,eWellSchema,eGRef,eLookLeft,eLookRight,eLookIndex,eSeekGraph,eGPage]<;>rfl) |rfl)(h2:toR s.hp v=some (d,b,is):=by first |rfl |(simp -implicitDefEqProofs only[go_sem,Bool.false_and,Int.reduceToNat,Int.reduceLT,Int.reduceLE,Int.reduceBEq,Int.reduceBNe,Nat.reduceLT,Nat.reduceBEq,Int.reduceEq,Nat.reduceEqDiff,Nat.reduceAdd,Nat.reduceSub,Nat.reduceMul,Nat.reduceLeDiff,reduceCtorEq, ↓reduceIte,or_true,or_false,true_or,false_or,jW_,js_,eGSub,eGStep,eGRel,eGType,eGObj,eGTuple,eWellName,eWellSchema,eGRef,eLookLeft,eLookRight,eLookIndex,eSeekGraph,eGPage];done) |(simp -implicitDefEqProofs only[go_sem,Bool.false_and,Int.reduceToNat,Int.reduceLT,Int.reduceLE,Int.reduceBEq,Int.reduceBNe,Nat.reduceLT,Nat.reduceBEq,Int.reduceEq,Nat.reduceEqDiff,Nat.reduceAdd,Nat.reduceSub,Nat.reduceMul,Nat.reduceLeDiff,reduceCtorEq, ↓reduceIte,or_true,or_false,true_or,false_or,jW_,js_,eGSub,eGStep,eGRel,eGType,eGObj,eGTuple,eWellName,eWellSchema,eGRef,eLookLeft,eLookRight,eLookIndex,eSeekGraph,eGPage];rfl))(h4:fr=true->b=false:=by intro h;first |rfl |cases h):EndW tab rs (EndP d fr) .ret s:=
 xM_ h1 (h2) rfl h4
theorem ZE1 {rs:Array ResultVar}{d:D}{fr b:Bool}{is:List Nat}{s:St}{v:AV}{F:Prop}(w:F)(h1:resA tab rs s=some v:=by first |(simp -implicitDefEqProofs only[go_sem,Bool.false_and,Int.reduceToNat,Int.reduceLT,Int.reduceLE,Int.reduceBEq,Int.reduceBNe,Nat.reduceLT,Nat.reduceBEq,Int.reduceEq,Nat.reduceEqDiff,Nat.reduceAdd,Nat.reduceSub,Nat.reduceMul,Nat.reduceLeDiff,reduceCtorEq, ↓reduceIte,or_true,or_false,true_or,false_or,jW_,js_,eGSub,eGStep,eGRel,eGType,eGObj,eGTuple,eWellName,eWellSchema,eGRef,eLookLeft,eLookRight,eLookIndex,eSeekGraph,eGPage]<;>rfl) |rfl)(h2:F->toR s.hp v=some (d,b,is):=by intro w;first |rfl |(simp -implicitDefEqProofs only[go_sem,Bool.false_and,Int.reduceToNat,Int.reduceLT,Int.reduceLE,Int.reduceBEq,Int.reduceBNe,Nat.reduceLT,Nat.reduceBEq,Int.reduceEq,Nat.reduceEqDiff,Nat.reduceAdd,Nat.reduceSub,Nat.reduceMul,Nat.reduceLeDiff,reduceCtorEq, ↓reduceIte,or_true,or_false,true_or,false_or,jW_,js_,eGSub,eGStep,eGRel,eGType,eGObj,eGTuple,eWellName,eWellSchema,eGRef,eLookLeft,eLookRight,eLookIndex,eSeekGraph,eGPage,w];done) |(simp -implicitDefEqProofs only[go_sem,Bool.false_and,Int.reduceToNat,Int.reduceLT,Int.reduceLE,Int.reduceBEq,Int.reduceBNe,Nat.reduceLT,Nat.reduceBEq,Int.reduceEq,Nat.reduceEqDiff,Nat.reduceAdd,Nat.reduceSub,Nat.reduceMul,Nat.reduceLeDiff,reduceCtorEq, ↓reduceIte,or_true,or_false,true_or,false_or,jW_,js_,eGSub,eGStep,eGRel,eGType,eGObj,eGTuple,eWellName,eWellSchema,eGRef,eLookLeft,eLookRight,eLookIndex,eSeekGraph,eGPage,w];rfl))(h4:fr=true->b=false:=by intro h;first |rfl |cases h):EndW tab rs (EndP d fr) .ret s:=
 xM_ h1 (h2 w) rfl h4
theorem ZP (ht:TabOk P tab)(_:P.follows .mixedOrders=true){rs:Array ResultVar}{f:FuncId}{fn:Func}{code:Code}{ds:List D}{d:D}{fresh:Bool}(hf:P.funcs[f]? =some fn)(h:runR 0 P [.c code] (EndW tab rs (EndP d fresh)) ⟨frOf (ds.map (lift true)),noHp,0⟩)(hr:fn.results=rs:=by rfl)(hb:fn.body=some code:=by rfl)(hname:(fn.name== "runtime.NumGoroutine")=false:=by kernel_rfl)(hd:jK_ fn.ntmps code=true:=by kernel_rfl)(hl:Nat.ble ds.length fn.ntmps=true:=by rfl):PureOK P f ds d fresh:=by
 subst hr;exact nJ_ ht hf hb hname hd (Nat.le_of_ble_eq_true hl) h
theorem ZPA (ht:TabOk P tab)(_:P.follows .mixedOrders=true){rs:Array ResultVar}{f:FuncId}{fn:Func}{code:Code}{zs:List DA}{d:D}{fresh:Bool}(hf:P.funcs[f]? =some fn)(h:runR 0 P [.c code] (EndW tab rs (EndP d fresh)) ⟨frOf (zs.map DA.av),noHp,0⟩)(hr:fn.results=rs:=by rfl)(hb:fn.body=some code:=by rfl)(hname:(fn.name== "runtime.NumGoroutine")=false:=by kernel_rfl)(hd:jK_ fn.ntmps code=true:=by kernel_rfl)(hl:Nat.ble zs.length fn.ntmps=true:=by rfl):PureA P f zs d fresh:=by
 subst hr;exact h6_ ht hf hb hname hd (Nat.le_of_ble_eq_true hl) h
theorem ZPX (ht:TabOk P tab)(_:P.follows .mixedOrders=true){rs:Array ResultVar}{f:FuncId}{fn:Func}{code:Code}{zs:List DA}{d:D}{fresh:Bool}(hf:P.funcs[f]? =some fn)(h:runR 0 P [.c code] (EndW tab rs (EndX d fresh)) ⟨frOf (zs.map DA.av),noHp,0⟩)(hr:fn.results=rs:=by rfl)(hb:fn.body=some code:=by rfl)(hname:(fn.name== "runtime.NumGoroutine")=false:=by kernel_rfl)(hd:jK_ fn.ntmps code=true:=by kernel_rfl)(hl:Nat.ble zs.length fn.ntmps=true:=by rfl):PureA P f zs d fresh:=by
 subst hr;exact mb_ ht hf hb hname hd (Nat.le_of_ble_eq_true hl) h
theorem ZB {ρ:Nat->Option Nat}{hp:Hp}{k j:Nat}{cs ds:List AV}(h1:ρ k=some j)(h3:hp j=some (.bx ds))(h2:renL ρ cs=some ds):∀p,some (AO.bx cs)=some p->∃j o',ρ k=some j/\renO ρ p=some o'/\hp j=some o':=gb_ h1 (cg_ h2) h3
theorem ZR {n N nx:Nat}{fr' fr:Fr}{hp' hp:Hp}(L:List (Nat × Nat))(h1:(Nat.ble n N&&okL n N L)=true:=by rfl)(h2:∀t,fr' t= .un\/renA (lk n L) (fr' t)=some (fr t):=by repeat' (first |exact rf_no _ |refine hc_ (by rfl) ?_ |refine hc_ (nD_ (by rfl)) ?_ |refine hc_ (hd_ (by rfl) (by assumption)) ?_))(h3:∀i o,hp' i=some o->∃j o',lk n L i=some j/\renO (lk n L) o=some o'/\hp j=some o':=by repeat' (first |exact rh_no _ |refine wT_ (gb_ (by rfl) (by rfl) (by rfl)) ?_ |refine wT_ (sY_ (by rfl) (by rfl)) ?_ |refine wT_ (ch_ (by rfl) (by assumption) (by rfl)) ?_ |refine wT_ ci_ ?_ |refine wT_ (ZB (by rfl) (by rfl) (by repeat' (first |exact rU_ _ |refine yY_ (by rfl) ?_ |refine yY_ (nD_ (by rfl)) ?_ |refine yY_ (hd_ (by rfl) (by assumption)) ?_))) ?_)):WeakR n ⟨fr',hp',N⟩ ⟨fr,hp,nx⟩:=ren_mk L h1 h2 h3
theorem Y2 {A0 A1:Prop}(a0:A0)(a1:A1):A0/\A1:=⟨a0,a1⟩
theorem Y3 {A0 A1 A2:Prop}(a0:A0)(a1:A1)(a2:A2):A0/\A1/\A2:=⟨a0,a1,a2⟩
theorem Y4 {A0 A1 A2 A3:Prop}(a0:A0)(a1:A1)(a2:A2)(a3:A3):A0/\A1/\A2/\A3:=⟨a0,a1,a2,a3⟩
theorem Y5 {A0 A1 A2 A3 A4:Prop}(a0:A0)(a1:A1)(a2:A2)(a3:A3)(a4:A4):A0/\A1/\A2/\A3/\A4:=⟨a0,a1,a2,a3,a4⟩
theorem Y6 {A0 A1 A2 A3 A4 A5:Prop}(a0:A0)(a1:A1)(a2:A2)(a3:A3)(a4:A4)(a5:A5):A0/\A1/\A2/\A3/\A4/\A5:=⟨a0,a1,a2,a3,a4,a5⟩
theorem YV {α:Type}{f:α->List D}{xs:List α}(h:0<xs.length):∀id ver,accV id ver (xs.map f)= .so id ver 0 xs.length:=fun _ _=>xh_ h
theorem YO {α:Type}{f:α->List D}{xs:List α}(h:0<xs.length):∀sz ver br,accO sz ver br (xs.map f)=some (.rw (xs.map f) sz ver br false):=fun _ _ _=>wU_ h
theorem Zi {α:Type}{a b:α}(h:some a=some b):a=b:=Option.some.inj h
end
theorem ZT {n:Nat}{k:List It}{Q:Ex->St->Prop}{s:St}(m:Nat)(h:run Tryz.prog tab (k.take m) (j0_ n Tryz.prog (k.drop m) Q) s):runR n Tryz.prog k Q s:=nI_ qf_ fol m h
theorem Zo {α β:Type}(a:α)(f:α->Option β):(some a).bind f=f a:=rfl
theorem Zx {α:Type}{x:α}{C:Prop}(h:none=some x):C:=nomatch h
end Go.Proofs.YtnmkbmefohakmaaGreat.Ab

namespace Go.Proofs
open Go.Shelf Go.RowKit Go.Sort
def Tryz.laysSort_ren:Go.Shelf.Ren:=⟨fun |190=>108 |125=>104 |258=>139 |128=>136 |129=>137 |302=>156 |303=>157 |304=>158 |305=>159 |306=>160 |307=>161 |308=>162 |309=>163 |310=>164 |333=>178 |329=>151 |330=>152 |334=>179 |335=>180 |336=>181 |344=>187 |n=>n,fun |31=>47 |9=>9 |3=>3 |46=>48 |0=>0 |51=>223 |53=>225 |4=>4 |183=>216 |182=>215 |131=>220 |5=>5 |218=>232 |222=>236 |228=>252 |229=>94 |n=>n,fun |n=>n⟩
theorem Tryz.laysSort:Go.Proofs.Lays.n190 Tryz.prog Tryz.laysSort_ren:={
 mixed:=by kernel_rfl
 f125:=Tryz.func104.trans (congrArg some (by kernel_rfl))
 f128:=Tryz.func136.trans (congrArg some (by kernel_rfl))
 f129:=Tryz.func137.trans (congrArg some (by kernel_rfl))
 f190:=Tryz.func108.trans (congrArg some (by kernel_rfl))
 f258:=Tryz.func139.trans (congrArg some (by kernel_rfl))
 f302:=Tryz.func156.trans (congrArg some (by kernel_rfl))
 f303:=Tryz.func157.trans (congrArg some (by kernel_rfl))
 f304:=Tryz.func158.trans (congrArg some (by kernel_rfl))
 f305:=Tryz.func159.trans (congrArg some (by kernel_rfl))
 f306:=Tryz.func160.trans (congrArg some (by kernel_rfl))
 f307:=Tryz.func161.trans (congrArg some (by kernel_rfl))
 f308:=Tryz.func162.trans (congrArg some (by kernel_rfl))
 f309:=Tryz.func163.trans (congrArg some (by kernel_rfl))
 f310:=Tryz.func164.trans (congrArg some (by kernel_rfl))
 f329:=Tryz.func151.trans (congrArg some (by kernel_rfl))
 f330:=Tryz.func152.trans (congrArg some (by kernel_rfl))
 f333:=Tryz.func178.trans (congrArg some (by kernel_rfl))
 f334:=Tryz.func179.trans (congrArg some (by kernel_rfl))
 f335:=Tryz.func180.trans (congrArg some (by kernel_rfl))
 f336:=Tryz.func181.trans (congrArg some (by kernel_rfl))
 f344:=Tryz.func187.trans (congrArg some (by kernel_rfl))
 t0:=Tryz.underlying0
 a0:=Tryz.isAgg0
 z0:=Tryz.sizeOf0
 v0:=Tryz.zeroValue0
 t3:=Tryz.underlying3
 a3:=Tryz.isAgg3
 z3:=Tryz.sizeOf3
 v3:=Tryz.zeroValue3
 t4:=Tryz.underlying4
 a4:=Tryz.isAgg4
 z4:=Tryz.sizeOf4
 v4:=Tryz.zeroValue4
 t5:=Tryz.underlying5
 a5:=Tryz.isAgg5
 z5:=Tryz.sizeOf5
 v5:=Tryz.zeroValue5
 t9:=Tryz.underlying9
 a9:=Tryz.isAgg9
 z9:=Tryz.sizeOf9
 v9:=Tryz.zeroValue9
 t31:=Tryz.underlying47
 a31:=Tryz.isAgg47
 z31:=Tryz.sizeOf47
 v31:=Tryz.zeroValue47
 t46:=Tryz.underlying48
 a46:=Tryz.isAgg48
 z46:=Tryz.sizeOf48
 v46:=Tryz.zeroValue48
 t51:=Tryz.underlying223
 a51:=Tryz.isAgg223
 z51:=Tryz.sizeOf223
 v51:=Tryz.zeroValue223
 t53:=Tryz.underlying225
 a53:=Tryz.isAgg225
 z53:=Tryz.sizeOf225
 v53:=Tryz.zeroValue225
 t131:=Tryz.underlying220
 a131:=Tryz.isAgg220
 z131:=Tryz.sizeOf220
 v131:=Tryz.zeroValue220
 t182:=Tryz.underlying215
 a182:=Tryz.isAgg215
 z182:=Tryz.sizeOf215
 v182:=Tryz.zeroValue215
 t183:=Tryz.underlying216
 a183:=Tryz.isAgg216
 z183:=Tryz.sizeOf216
 v183:=Tryz.zeroValue216
 t218:=Tryz.underlying232
 a218:=Tryz.isAgg232
 z218:=Tryz.sizeOf232
 v218:=Tryz.zeroValue232
 t222:=Tryz.underlying236
 a222:=Tryz.isAgg236
 z222:=Tryz.sizeOf236
 v222:=Tryz.zeroValue236
 t228:=Tryz.underlying252
 a228:=Tryz.isAgg252
 z228:=Tryz.sizeOf252
 v228:=Tryz.zeroValue252
 t229:=Tryz.underlying94
 a229:=Tryz.isAgg94
 z229:=Tryz.sizeOf94
 v229:=Tryz.zeroValue94 }
def Tryz.laysCompact_ren:Go.Shelf.Ren:=⟨fun |194=>109 |n=>n,fun |31=>47 |9=>9 |3=>3 |4=>4 |0=>0 |n=>n,fun |n=>n⟩
theorem Tryz.laysCompact:Go.Proofs.Lays.n194 Tryz.prog Tryz.laysCompact_ren:={
 mixed:=by kernel_rfl
 f194:=Tryz.func109.trans (congrArg some (by kernel_rfl))
 t0:=Tryz.underlying0
 a0:=Tryz.isAgg0
 z0:=Tryz.sizeOf0
 v0:=Tryz.zeroValue0
 t3:=Tryz.underlying3
 a3:=Tryz.isAgg3
 z3:=Tryz.sizeOf3
 v3:=Tryz.zeroValue3
 t4:=Tryz.underlying4
 a4:=Tryz.isAgg4
 z4:=Tryz.sizeOf4
 v4:=Tryz.zeroValue4
 t9:=Tryz.underlying9
 a9:=Tryz.isAgg9
 z9:=Tryz.sizeOf9
 v9:=Tryz.zeroValue9
 t31:=Tryz.underlying47
 a31:=Tryz.isAgg47
 z31:=Tryz.sizeOf47
 v31:=Tryz.zeroValue47 }
end Go.Proofs
namespace Go.Proofs.YtnmkbmefohakmaaGreat.Ab
open Go.Shelf Go.RowKit Go.Sort
theorem sort_c (blk cap:Nat)(zs:List (List UInt8))(w:World)(hH:Holds encStr w blk 0 zs.toArray)(hblk:blk<w.heap.size)(hsz:zs.length<4611686018427387904):
  Calls Tryz.prog 108 #[.slice (some ⟨blk,0,none⟩) zs.length cap] w fun e w'=>
   e= .returned (.tuple #[])/\∃n os,w'=grow (putRow encStr (Sort.ahead w n) blk 0 (zs.mergeSort fun x y=>decide (x<=y)).toArray) os:=
 calls_of_every_depth fun D=>AnyS.slices_Sort_string_alone Tryz.laysSort D blk 0 cap zs w hH hblk hsz
theorem pr_ (blk cap:Nat)(zs:List (List UInt8))(w:World)(hH:Holds encStr w blk 0 zs.toArray)(hsz:zs.length<=9223372036854775807)(hcap:zs.length<=cap):
  Calls Tryz.prog 109 #[.slice (some ⟨blk,0,none⟩) zs.length cap] w fun e w'=>e= .returned (.slice (some ⟨blk,0,none⟩) (Lib.compact zs).length cap)/\∃q,w'=putRow encStr (Sort.ahead w q) blk 0 (Lib.compact zs++List.replicate (zs.length-(Lib.compact zs).length) []).toArray:=
 calls_of_every_depth fun D=>AnyS.slices_Compact_string_in Tryz.laysCompact D blk 0 cap zs w hH hsz hcap
theorem tb_:vn_ Tryz.prog 108:=⟨_,Tryz.func108,by kernel_rfl,by kernel_rfl⟩
theorem dk_:vn_ Tryz.prog 109:=⟨_,Tryz.func109,by kernel_rfl,by kernel_rfl⟩
theorem cM_ {w:World}{I:Nat->Prop}{args:Array Value}(hs:args.size=1)(h:∀(j:Nat) (x:D),[D.sl []][j]? =some x->∃u,args[j]? =some u/\RV1 w I x u):∃a c,args= #[.slice a 0 c]:=by
 obtain⟨u,h1,h2⟩:=h 0 _ rfl
 have:∃a c,u= .slice a 0 c:=by
  cases(show RC w I (.sl []) u from h2) with
  |nl a c=>exact⟨a,c,rfl⟩
  |sl _ b o c=>exact⟨_,_,rfl⟩
 obtain⟨a,c,rfl⟩:=this;refine⟨a,c,?_⟩;apply Array.ext
 ·simpa using hs
 ·intro j h3 h4
  have hj:j=0:=by omega
  subst hj;simpa [h3] using h1
theorem si_:PureOK Tryz.prog 108 [.sl []] (.tu []) true:=by
 refine⟨tb_,fun w M0 args _ hs h=> ?_⟩;obtain⟨a,c,rfl⟩:=cM_ hs h;refine Calls.mono (calls_of_every_depth fun D=>AnyS.slices_Sort_string_none_alone Tryz.laysSort D a c w) ?_;rintro e w' ⟨rfl,rfl⟩;exact⟨_,rfl,⟨Below.refl _ _,Nat.le_refl _⟩, #[],rfl,rfl,fun j d e=>by simp at e⟩
theorem ml_ (x:ByteArray)(xs:List ByteArray)(hn:xs.length<4294967296){b:Bool}{hp:Hp}{nx:Nat}:
  InlOK Tryz.prog 47 [.d (.sl ((x::xs).map eT)) b] hp nx fun v hp2 nx2=>nx2=nx+7/\v= .so (nx+3) 1 0 (x::xs).length/\hp2=upd (nx+3) (some (.rw ((x::xs).map eT) 1 1 false false)) hp:=by
 have h:=b8_ (x:=eT x) (es:=xs.map eT) (b:=b) (hp:=hp) (nx:=nx) qf_ fol Tryz.func47 (T:=47) (B:=4) rfl (by kernel_rfl) (by kernel_rfl) (by decide) rfl (by simp only[go_sem]) (by simp only[go_sem]) (by simp only[go_sem];decide) (by simp only[go_sem];decide)
  (by simp only[go_sem];simp) (by simp;omega)
 refine h.mono ?_;rintro v hp2 nx2 ⟨h1,h2,h3⟩;refine⟨h1,by simpa using h2,h3.trans ?_⟩;have hp:zV_ (xs.map eT)=true:=by simp[zV_,zU_,isV]
 simp only[go_sem,hp,Bool.and_self,Bool.not_true,Bool.and_false]
def onceT (xs:List ByteArray):List ByteArray:=cmpT (srtT xs)
end Go.Proofs.YtnmkbmefohakmaaGreat.Ab
namespace Go.Proofs.YtnmkbmefohakmaaGreat.Ab
open Go.RowKit
def vG_ (_n:Nat)(xs:List ByteArray):Option (List ByteArray):=if xs.length<=4294967296 then some (onceT xs) else none
theorem sj_ {P:Program}{f:FuncId}{vs:List AV}{hp0 hp:Hp}{nx id ver sz m N:Nat}{br:Bool}{es:List (List D)}(h:InlOK P f vs hp0 nx fun v hp2 nx2=>∃es',m<=es'.length/\es'.take m=es/\v= .so id ver 0 m/\hp2=upd id (some (.rw es' sz ver br false)) hp/\nx2=N):
  InlOK P f vs hp0 nx fun v hp2 nx2=>v= .so id (ver+1) 0 m/\hp2=upd id (some (.rw es sz (ver+1) br false)) hp/\nx2=N:=by
 refine⟨h.1,fun g c args hhp hkn hr hsz hargs=>(h.2 g c args hhp hkn hr hsz hargs).mono ?_⟩;rintro e w' ⟨u,v,c',nx',he,⟨es',hm,rfl,rfl,e2,hN⟩,rfl,e5,e6,e7,e8,e9⟩;have hi:c'.hp id=some (.rw es' sz ver br false):=by rw[e2,qd_]
 obtain⟨hk0,hz,T,cur,C,h3,h4,h5,h6,h7⟩:=e6.obj id _ hi;obtain⟨_,_,hbs⟩:=e6.dom id _ hi;have hext:Ext c' ⟨upd id (some (.rw (es'.take m) sz (ver+1) br false)) c'.hp,upd id (c'.φ id) c'.φ,c'.w,c'.kn⟩:=by
  refine Ext.chg e6 hi rfl rfl rfl rfl (Nat.le_refl _) (fun _ _ _=>rfl) (.inl rfl) (fun _ h=>h) (fun h=>by cases h) (fun es2 sz2 v2 br2 fz2 e=> ?_) (Nat.le_refl _);cases e;exact⟨es',ver,br,false,rfl,Nat.le_succ _,fun e=>by omega⟩
 have hh:HR g ⟨upd id (some (.rw (es'.take m) sz (ver+1) br false)) c'.hp,upd id (c'.φ id) c'.φ,c'.w,c'.kn⟩:=by
  refine HR.chg e6 hi hext (fun _ _ _=>rfl) (.inl rfl) hbs ⟨hk0,fun i cs hi2=> ?_,T,cur,C,by simp only[qd_];exact h3,h4,by rw[List.length_take];omega,h6,fun i j cs d hi2 hj=> ?_⟩
  ·rw[List.getElem?_take] at hi2
   split at hi2
   ·exact hz i cs hi2
   ·cases hi2
  ·rw[List.getElem?_take] at hi2
   split at hi2
   ·obtain⟨u2,k1,k2⟩:=h7 i j cs d hi2 hj
    exact⟨u2,k1,k2.ext hext⟩
   ·cases hi2
 refine⟨u,.so id (ver+1) 0 m,⟨upd id (some (.rw (es'.take m) sz (ver+1) br false)) c'.hp,upd id (c'.φ id) c'.φ,c'.w,c'.kn⟩,nx',he,⟨rfl,?_,hN⟩,rfl,e5.trans hext,hh,?_,e8,e9⟩
 ·show upd id (some (.rw (es'.take m) sz (ver+1) br false)) c'.hp=_
  rw[e2,qI_]
 ·have h8:RA g c' (.so id ver 0 m) u:=e7
  cases h8 with
  |so _ _ _ _ _ hkn2 hp2 h9=>
   obtain⟨_,k2⟩:=h9 _ _ _ _ _ hi;obtain⟨k3,cur2,T2,C2,k4,k5,k6⟩:=k2 rfl;refine(show RA g _ (.so id (ver+1) 0 m) _ from RA.so id (ver+1) 0 m _ hkn2 hp2 fun es2 sz2 v2 br2 fz2 e=> ?_);have e':=(qd_ id (some (AO.rw (es'.take m) sz (ver+1) br false)) c'.hp).symm.trans e;cases e';refine⟨Nat.le_refl _,fun _=>⟨by rw[List.length_take];omega,cur2,T2,C2,?_,k5,?_⟩⟩
   ·simp only[qd_];exact k4
   ·simp only[qd_];exact k6
theorem kH_ {n:Nat}{xs r:List ByteArray}(h:vG_ n xs=some r)(h0:0<xs.length){b:Bool}{hp:Hp}{nx:Nat}:
  InlOK Tryz.prog 79 [.d (.sl (List.map eS xs)) b] hp nx fun v hp2 nx2=>v= .so (nx+7) 2 0 r.length/\hp2=upd (nx+7) (some (.rw (List.map eS r) 1 2 false false)) hp/\nx2=nx+16:=by
 unfold vG_ at h;split at h
 ·rename_i hn
  obtain rfl:=Option.some.inj h;refine sj_ (qN_ (tab:=tab) qf_ fol Tryz.func79 rfl (by kernel_rfl) (by kernel_rfl) (by simp[Tryz.f79]) ?_);simp -implicitDefEqProofs only[go_sem,Nat.reduceAdd,reduceCtorEq, ↓reduceIte];cases xs with
  |nil=>simp at h0
  |cons x r=>
   refine qe_ ((ml_ x r (by simp at hn;omega)).mono ?_);rintro v hp2 nx2 ⟨rfl,rfl,rfl⟩;simp -implicitDefEqProofs only[go_sem,Nat.reduceAdd, ↓reduceIte];refine qe_ ((nQ_ tb_ sort_c (x::r) (by simp at hn⊢;omega) (by simp -implicitDefEqProofs only[go_sem, ↓reduceIte]<;>rfl)).mono ?_);rintro v hp2 nx2 ⟨rfl,rfl,rfl⟩
   simp -implicitDefEqProofs only[go_sem,Nat.reduceEqDiff,Nat.reduceAdd, ↓reduceIte];have hl:r.length+1=(srtT (x::r)).length:=by rw[hh_];rfl
   have hb:(srtT (x::r)).length<=4294967296:=by rw[hh_];exact hn
   unfold onceT;rw[hl];generalize srtT (x::r)=ys at hb;refine qe_ ((da_ dk_ pr_ ys (by omega) (by simp -implicitDefEqProofs only[go_sem, ↓reduceIte]<;>rfl)).mono ?_);rintro v hp2 nx2 ⟨rfl,rfl,rfl⟩;simp -implicitDefEqProofs only[go_sem,Nat.reduceAdd, ↓reduceIte]
   refine jM_ (v:=.so (nx+7) 1 0 (cmpT ys).length) (by simp -implicitDefEqProofs only[go_sem, ↓reduceIte,Tryz.f79]<;>rfl) ⟨(cmpT ys++List.replicate (ys.length-(cmpT ys).length) (ofT [])).map eT,?_,?_,rfl,?_,?_⟩
   ·simp
   ·rw[List.map_append,show(cmpT ys).length=((cmpT ys).map eT).length from(List.length_map _).symm,List.take_left]
   ·rw[List.map_append]
    exact(qI_ (nx+7) _ _ _).trans (qI_ (nx+7) _ _ _)
   ·rfl
 ·cases h
end Go.Proofs.YtnmkbmefohakmaaGreat.Ab
