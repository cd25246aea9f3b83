/-
 The program's structures.
-/
import Derived.Test.YtnmkbmefohakmaaGreatAbU
import Derived.Test.YtnmkbmefohakmaaGreatProg
import Derived.IntWalk
import Derived.KernelRfl
set_option linter.all false
namespace Go.Proofs.YtnmkbmefohakmaaGreat.Ab
end Go.Proofs.YtnmkbmefohakmaaGreat.Ab
namespace Go.Proofs.YtnmkbmefohakmaaGreat.Ab
open Go.RowKit
@[go_sem] theorem XH (hp:Hp)(id ver:Nat)(es:List (List D)):Mo hp (Aa id ver es)=(FM (hp id) ver id es).map fun(d,b,is)=>(.d d,b,is):=by
 rw[<-qt];cases es<;>rfl
@[go_sem] theorem Ub {tab:Nat->TI}{nid T T':Nat}(h:T=T'/\(tab T).kind= .slice/\(tab (tab T).elem).ok/\0<(tab (tab T).elem).size)(ys:List (List D))(b:Bool)(is:List Nat)(id ver:Nat)(o:Option AO):
  F7 tab nid T T' (some (ys,b,is)) id ver [] o=if ED (tab (tab T).elem).size ys/\(tab (tab T).elem).bytes<=32768/\ys.length<=4294967296 then
   (if ys.length=0 then some (.v (.slice none 0 0),[]) else some (.so nid 0 0 ys.length,[(nid,.rw ys (tab (tab T).elem).size 0 b false)])) else none:=by
 unfold F7;rw[if_pos h]
@[go_sem] theorem Uc {tab:Nat->TI}{nid T T':Nat}(h:T=T'/\(tab T).kind= .slice/\(tab (tab T).elem).ok/\0<(tab (tab T).elem).size)(ys:List (List D))(b:Bool)(is:List Nat)(id ver:Nat)(es es':List (List D))(sz v:Nat)(br:Bool)(hp:0<es.length):
  F7 tab nid T T' (some (ys,b,is)) id ver es (some (.rw es' sz v br false))=if ver=v/\es.length<=es'.length/\sz=(tab (tab T).elem).size/\ED sz ys/\(tab (tab T).elem).bytes<=32768/\es.length+ys.length<=4294967296 then
      some (.so id (v+1) 0 (es.length+ys.length),[(id,.rw (es'.take es.length++ys) sz (v+1) (br||b) false)]) else none:=by
 unfold F7;rw[if_pos h];cases es with
 |nil=>simp at hp
 |cons e r=>rfl
theorem sK {α:Type}{xs ys:List α}{lo hi:Nat}(f:α->List D)(h:ys=List.drop lo (List.take hi xs)):List.take ys.length (List.drop lo (List.map f xs))=List.map f ys:=by
 rw[h,List.drop_take,<-OY,Lw,Be];conv=>rhs;rw[List.take_eq_take_min]
 rw[LC]
theorem iF {α:Type}{xs ys:List α}{hi:Nat}(f:α->List D)(h:ys=List.drop 0 (List.take hi xs)):List.take ys.length (List.map f xs)=List.map f ys:=by
 have:=sK f h;rwa [Nt] at this
end Go.Proofs.YtnmkbmefohakmaaGreat.Ab
namespace Go.Proofs.YtnmkbmefohakmaaGreat.Ab
theorem mN:∃t,t=IG Tryz.prog:=⟨_,rfl⟩
noncomputable def tab:Nat->TI:=Classical.choose mN
theorem mO:tab=IG Tryz.prog:=OO mN
theorem EO:AU Tryz.prog tab:=mO▸gC _
theorem C6 {k:Nat}{x:TI}(h:IG Tryz.prog k=x:=by kernel_rfl):tab k=x:=by rw[mO];exact h
theorem D7:Tryz.prog.follows .mixedOrders=true:=by kernel_rfl
@[go_sem] theorem vj:tab 2={ ok:=true,kind:=.int .i64,zero:=[.int .i64 0] }:=C6
@[go_sem] theorem vm:tab 3={ ok:=true,kind:=.int .i64,zero:=[.int .i64 0] }:=C6
@[go_sem] theorem vn:tab 4={ ok:=true,kind:=.bool,bytes:=1,zero:=[.bool false] }:=C6
@[go_sem] theorem vp:tab 9={ ok:=true,kind:=.string,bytes:=16,zero:=[.string ByteArray.empty] }:=C6
@[go_sem] theorem mP:tab 22={ ok:=true,kind:=.slice,bytes:=24,elem:=2,zero:=[.slice none 0 0] }:=C6
@[go_sem] theorem mQ:tab 23={ ok:=true,kind:=.slice,bytes:=24,elem:=88,zero:=[.slice none 0 0] }:=C6
@[go_sem] theorem mR:tab 26={ ok:=true,kind:=.slice,bytes:=24,elem:=35,zero:=[.slice none 0 0] }:=C6
@[go_sem] theorem mS:tab 29={ ok:=true,kind:=.struct,size:=2,bytes:=32,offs:=[(0,1),(1,1)],zero:=[.string ByteArray.empty,.string ByteArray.empty],flat:=some [.string,.string] }:=C6
@[go_sem] theorem mT:tab 31={ ok:=true,kind:=.struct,size:=3,bytes:=48,offs:=[(0,1),(1,1),(2,1)],zero:=[.string ByteArray.empty,.string ByteArray.empty,.string ByteArray.empty],flat:=some [.string,.string,.string] }:=C6
@[go_sem] theorem mV:tab 35={ ok:=true,kind:=.struct,size:=6,bytes:=96,offs:=[(0,2),(2,1),(3,3)],zero:=[.string ByteArray.empty,.string ByteArray.empty,.string ByteArray.empty,.string ByteArray.empty,.string ByteArray.empty,.string ByteArray.empty],flat:=some [.string,.string,.string,.string,.string,.string] }:=C6
@[go_sem] theorem mW:tab 47={ ok:=true,kind:=.slice,bytes:=24,elem:=9,zero:=[.slice none 0 0] }:=C6
@[go_sem] theorem mX:tab 48={ ok:=true,kind:=.int .u64,zero:=[.int .u64 0] }:=C6
@[go_sem] theorem mY:tab 49={ ok:=true,kind:=.slice,bytes:=24,elem:=31,zero:=[.slice none 0 0] }:=C6
@[go_sem] theorem mZ:tab 50={ ok:=true,kind:=.slice,bytes:=24,elem:=57,zero:=[.slice none 0 0] }:=C6
@[go_sem] theorem ma:tab 52={ ok:=true,kind:=.struct,size:=3,bytes:=64,offs:=[(0,1),(1,1),(2,1)],zero:=[.string ByteArray.empty,.slice none 0 0,.slice none 0 0] }:=C6
@[go_sem] theorem mb:tab 55={ ok:=true,kind:=.slice,bytes:=24,elem:=4,zero:=[.slice none 0 0] }:=C6
@[go_sem] theorem mc:tab 57={ ok:=true,kind:=.struct,size:=3,bytes:=40,offs:=[(0,1),(1,1),(2,1)],zero:=[.int .i64 0,.string ByteArray.empty,.string ByteArray.empty],flat:=some [.int .i64,.string,.string] }:=C6
@[go_sem] theorem me:tab 75={ ok:=true,kind:=.ptr,elem:=103,zero:=[.pointer none] }:=C6
@[go_sem] theorem mf:tab 81={ ok:=true,kind:=.slice,bytes:=24,elem:=120,zero:=[.slice none 0 0] }:=C6
@[go_sem] theorem mg:tab 86={ ok:=true,kind:=.slice,bytes:=24,elem:=52,zero:=[.slice none 0 0] }:=C6
@[go_sem] theorem mh:tab 88={ ok:=true,kind:=.struct,size:=2,bytes:=40,offs:=[(0,1),(1,1)],zero:=[.string ByteArray.empty,.slice none 0 0] }:=C6
@[go_sem] theorem mi:tab 91={ ok:=true,kind:=.slice,bytes:=24,elem:=3,zero:=[.slice none 0 0] }:=C6
@[go_sem] theorem cZ:tab 100={ ok:=true,kind:=.ptr,elem:=176,zero:=[.pointer none] }:=C6
@[go_sem] theorem ca:tab 101={ ok:=true,kind:=.ptr,elem:=113,zero:=[.pointer none] }:=C6
@[go_sem] theorem cc:tab 103={ ok:=true,kind:=.struct,size:=3,bytes:=40,offs:=[(0,1),(1,1),(2,1)],zero:=[.pointer none,.pointer none,.slice none 0 0] }:=C6
@[go_sem] theorem cd:tab 105={ ok:=true,kind:=.map,elem:=49,zero:=[.map none],mkey:=some (true,[.string,.string,.string]) }:=C6
@[go_sem] theorem ce:tab 106={ ok:=true,kind:=.map,elem:=47,zero:=[.map none],mkey:=some (false,[.string]) }:=C6
@[go_sem] theorem cg:tab 108={ ok:=true,kind:=.struct,size:=2,bytes:=16,offs:=[(0,1),(1,1)],zero:=[.map none,.map none] }:=C6
@[go_sem] theorem ci:tab 109={ ok:=true,kind:=.map,elem:=81,zero:=[.map none],mkey:=some (true,[.string,.string,.string]) }:=C6
@[go_sem] theorem cj:tab 111={ ok:=true,kind:=.struct,size:=2,bytes:=16,offs:=[(0,1),(1,1)],zero:=[.map none,.map none] }:=C6
@[go_sem] theorem ck:tab 113={ ok:=true,kind:=.struct,size:=4,bytes:=32,offs:=[(0,2),(2,2)],zero:=[.map none,.map none,.map none,.map none] }:=C6
@[go_sem] theorem cl:tab 120={ ok:=true,kind:=.struct,size:=3,bytes:=48,offs:=[(0,2),(2,1)],zero:=[.string ByteArray.empty,.string ByteArray.empty,.string ByteArray.empty],flat:=some [.string,.string,.string] }:=C6
@[go_sem] theorem cm:tab 121={ ok:=true,kind:=.slice,bytes:=24,elem:=129,zero:=[.slice none 0 0] }:=C6
@[go_sem] theorem cn:tab 126={ ok:=true,kind:=.struct,size:=8,bytes:=96,offs:=[(0,1),(1,1),(2,1),(3,1),(4,1),(5,1),(6,1),(7,1)],zero:=[.slice none 0 0,.int .i64 0,.int .i64 0,.int .i64 0,.int .i64 0,.int .i64 0,.slice none 0 0,.int .i64 0] }:=C6
@[go_sem] theorem co:tab 129={ ok:=true,kind:=.struct,size:=3,bytes:=32,offs:=[(0,1),(1,1),(2,1)],zero:=[.int .i64 0,.int .i64 0,.string ByteArray.empty],flat:=some [.int .i64,.int .i64,.string] }:=C6
@[go_sem] theorem cr:tab 137={ ok:=true,kind:=.ptr,elem:=140,zero:=[.pointer none] }:=C6
@[go_sem] theorem ct:tab 138={ ok:=true,kind:=.map,elem:=144,zero:=[.map none],mkey:=some (true,[.string,.string,.string]) }:=C6
@[go_sem] theorem cu:tab 140={ ok:=true,kind:=.struct,size:=6,bytes:=88,offs:=[(0,1),(1,3),(4,1),(5,1)],zero:=[.pointer none,.string ByteArray.empty,.string ByteArray.empty,.string ByteArray.empty,.map none,.slice none 0 0] }:=C6
@[go_sem] theorem cv:tab 143={ ok:=true,kind:=.struct,size:=4,bytes:=64,offs:=[(0,1),(1,1),(2,1),(3,1)],zero:=[.int .i64 0,.slice none 0 0,.slice none 0 0,.bool false] }:=C6
@[go_sem] theorem cw:tab 144={ ok:=true,kind:=.ptr,elem:=143,zero:=[.pointer none] }:=C6
@[go_sem] theorem cy:tab 172={ ok:=true,kind:=.map,elem:=3,zero:=[.map none],mkey:=some (false,[.string]) }:=C6
@[go_sem] theorem cz:tab 173={ ok:=true,kind:=.map,elem:=52,zero:=[.map none],mkey:=some (true,[.string,.string]) }:=C6
@[go_sem] theorem c8:tab 174={ ok:=true,kind:=.map,elem:=3,zero:=[.map none],mkey:=some (true,[.string,.string]) }:=C6
@[go_sem] theorem dA:tab 176={ ok:=true,kind:=.struct,size:=3,bytes:=24,offs:=[(0,1),(1,1),(2,1)],zero:=[.map none,.map none,.map none] }:=C6
@[go_sem] theorem dB:tab 178={ ok:=true,kind:=.slice,bytes:=24,elem:=181,zero:=[.slice none 0 0] }:=C6
@[go_sem] theorem dC:tab 181={ ok:=true,kind:=.struct,size:=2,bytes:=32,offs:=[(0,1),(1,1)],zero:=[.string ByteArray.empty,.string ByteArray.empty],flat:=some [.string,.string] }:=C6
@[go_sem] theorem dD:tab 200={ ok:=true,kind:=.map,elem:=201,zero:=[.map none],mkey:=some (true,[.string,.string]) }:=C6
@[go_sem] theorem dE:tab 201={ ok:=true,kind:=.slice,bytes:=24,elem:=204,zero:=[.slice none 0 0] }:=C6
@[go_sem] theorem dF:tab 204={ ok:=true,kind:=.struct,size:=3,bytes:=40,offs:=[(0,2),(2,1)],zero:=[.string ByteArray.empty,.string ByteArray.empty,.int .i64 0],flat:=some [.string,.string,.int .i64] }:=C6
@[go_sem] theorem dG:tab 243={ ok:=true,kind:=.slice,bytes:=24,elem:=201,zero:=[.slice none 0 0] }:=C6
end Go.Proofs.YtnmkbmefohakmaaGreat.Ab
namespace Go.Proofs.YtnmkbmefohakmaaGreat.Ab
open Go.RowKit
structure AL where
 type_:ByteArray
 id_:ByteArray
 rel:ByteArray
 deriving DecidableEq,Inhabited
abbrev AZ (x:AL):List D:=[D.v (.string x.type_),D.v (.string x.id_),D.v (.string x.rel)]
def GS (x:AL):Value:=.agg #[.string x.type_,.string x.id_,.string x.rel]
theorem uc:Ec (true,[.string,.string,.string]) GS:=fun a b=>by
 have e:(a==b)=((a.type_==b.type_)&&(a.id_==b.id_)&&(a.rel==b.rel)):=by
  obtain⟨a1,a2,a3⟩:=a;obtain⟨b1,b2,b3⟩:=b;rw[NF];simp[and_assoc]
 rw[e];simp[GS,JQ,Dy,F2,Ok]
structure AY where
 kind:Int
 a:ByteArray
 b:ByteArray
 deriving DecidableEq,Inhabited
abbrev Aj (x:AY):List D:=[D.v (.int .i64 x.kind),D.v (.string x.a),D.v (.string x.b)]
structure Ac where
 name:ByteArray
 subs:List AL
 expr:List AY
 deriving DecidableEq,Inhabited
abbrev Al (x:Ac):List D:=[D.v (.string x.name),D.sl (List.map AZ x.subs),D.sl (List.map Aj x.expr)]
structure AT where
 name:ByteArray
 rels:List Ac
 deriving DecidableEq,Inhabited
abbrev Ak (x:AT):List D:=[D.v (.string x.name),D.sl (List.map Al x.rels)]
structure Ao where
 type_:ByteArray
 id_:ByteArray
 deriving DecidableEq,Inhabited
abbrev Du (x:Ao):List D:=[D.v (.string x.type_),D.v (.string x.id_)]
structure AE where
 obj:Ao
 rel:ByteArray
 sub_:AL
 deriving DecidableEq,Inhabited
abbrev AH (x:AE):List D:=[D.v (.string x.obj.type_),D.v (.string x.obj.id_),D.v (.string x.rel),D.v (.string x.sub_.type_),D.v (.string x.sub_.id_),D.v (.string x.sub_.rel)]
structure AA where
 typ:ByteArray
 rel:ByteArray
 deriving DecidableEq,Inhabited
abbrev AX (x:AA):List D:=[D.v (.string x.typ),D.v (.string x.rel)]
def qb_ (x:AA):Value:=.agg #[.string x.typ,.string x.rel]
theorem Kc:Ec (true,[.string,.string]) qb_:=fun a b=>by
 have e:(a==b)=((a.typ==b.typ)&&(a.rel==b.rel)):=by
  obtain⟨a1,a2⟩:=a;obtain⟨b1,b2⟩:=b;rw[NF];simp
 rw[e];simp[qb_,JQ,Dy,F2]
structure AC where
 types:List (ByteArray × Int)
 rels:List (AA × Ac)
 ranks:List (AA × Int)
 deriving DecidableEq,Inhabited
abbrev Ap (x:AC):List D:=[D.mp (CO Value.string false eI x.types),D.mp (CO qb_ true Al x.rels),D.mp (CO qb_ false eI x.ranks)]
structure AB where
 obj:Ao
 rel:ByteArray
 deriving DecidableEq,Inhabited
abbrev AF (x:AB):List D:=[D.v (.string x.obj.type_),D.v (.string x.obj.id_),D.v (.string x.rel)]
def Fs (x:AB):Value:=.agg #[.string x.obj.type_,.string x.obj.id_,.string x.rel]
theorem Qw:Ec (true,[.string,.string,.string]) Fs:=fun a b=>by
 have e:(a==b)=((a.obj.type_==b.obj.type_)&&(a.obj.id_==b.obj.id_)&&(a.rel==b.rel)):=by
  obtain⟨⟨a1,a2⟩,a3⟩:=a;obtain⟨⟨b1,b2⟩,b3⟩:=b;rw[NF];simp[and_assoc]
 rw[e];simp[Fs,JQ,Dy,F2,Ok]
structure DO where
 subs:List (AB × (List AL))
 objs:List (ByteArray × (List ByteArray))
 deriving DecidableEq,Inhabited
abbrev D6 (x:DO):List D:=[D.mp (CO Fs false (eL AZ) x.subs),D.mp (CO Value.string false (eL eS) x.objs)]
structure Di where
 refs:List (AL × (List AB))
 users:List (ByteArray × (List ByteArray))
 deriving DecidableEq,Inhabited
abbrev EK (x:Di):List D:=[D.mp (CO GS false (eL AF) x.refs),D.mp (CO Value.string false (eL eS) x.users)]
structure Cn where
 left:DO
 right:Di
 deriving DecidableEq,Inhabited
abbrev Cz (x:Cn):List D:=[D.mp (CO Fs false (eL AZ) x.left.subs),D.mp (CO Value.string false (eL eS) x.left.objs),D.mp (CO GS false (eL AF) x.right.refs),D.mp (CO Value.string false (eL eS) x.right.users)]
structure AM where
 schema:AC
 index:Cn
 rows_:List AE
 deriving DecidableEq,Inhabited
abbrev Aq (x:AM):List D:=[D.pt (Ap x.schema) 0,D.pt (Cz x.index) 0,D.sl (List.map AH x.rows_)]
structure VP where
 after:ByteArray
 most:Int
 deriving DecidableEq,Inhabited
abbrev KA (x:VP):List D:=[D.v (.string x.after),D.v (.int .i64 x.most)]
section
variable {P:Program}{tab:Nat->TI}
theorem Z0 {p q:Prop}(k:q)(e:p=q:=by conv=>lhs;try simp -implicitDefEqProofs only[go_sem,Nj,Int.reduceToNat,Int.reduceLT,Int.reduceLE,Int.reduceBEq,Int.reduceBNe,Nat.reduceLT,Nat.reduceBEq,Int.reduceEq,Nat.reduceEqDiff,Nat.reduceAdd,Nat.reduceSub,Nat.reduceMul,Nat.reduceLeDiff,reduceCtorEq, ↓reduceIte,or_true,or_false,true_or,false_or,gX,gY,AZ,Aj,Al,Ak,Du,AH,AX,Ap,AF,D6,EK,Cz,Aq,KA]):p:=
 (e).mpr k
theorem Z1 {p q:Prop}{F:Prop}(w:F)(k:q)(e:F->p=q:=by intro w;conv=>lhs;try simp -implicitDefEqProofs only[go_sem,Nj,Int.reduceToNat,Int.reduceLT,Int.reduceLE,Int.reduceBEq,Int.reduceBNe,Nat.reduceLT,Nat.reduceBEq,Int.reduceEq,Nat.reduceEqDiff,Nat.reduceAdd,Nat.reduceSub,Nat.reduceMul,Nat.reduceLeDiff,reduceCtorEq, ↓reduceIte,or_true,or_false,true_or,false_or,gX,gY,AZ,Aj,Al,Ak,Du,AH,AX,Ap,AF,D6,EK,Cz,Aq,KA,w]):p:=
 (e w).mpr k
theorem DB {ops:Array Oper}{nx0:Nat}{k:List It}{Q:Ex->St->Prop}{i:Nat}{r:List Oper}{dst:Option Nat}{s:St}{g:FuncId}{caps vs:List AV}{b:Bool}{is:List Nat}{d:D}{f:Bool}{ds:List D}(h2:AI P g ds d f)(h:Rt P tab ops nx0 k Q i r ⟨A7 dst (Aw (!f&&b) d) s.fr,s.hp,s.nx⟩)(h1:CT s.hp (vs++caps)=some (ds,b,is):=by first |rfl |(refine Z0 ?_;first |trivial |rfl))(h3:is= []\/f=true:=by first |exact .inr rfl |exact .inl rfl):Kv P tab ops nx0 k Q i r dst s (.fn g caps) vs:=
 Kx (h1) h2 h3 h
theorem Ea {ops:Array Oper}{nx0 nx:Nat}{k:List It}{Q:Ex->St->Prop}{i:Nat}{r:List Oper}{dst:Option Nat}{acc:List Cd}{ids:List Nat}{fr:Fr}{hp:Hp}{g:FuncId}{caps vs:List AV}{b:Bool}{is:List Nat}{d:D}{f:Bool}{ds:List D}(h2:AI P g ds d f)(h:Rd P tab ops nx0 nx k Q i r (⟨ids,[],false⟩::acc) (A7 dst (Aw (!f&&b) d) fr) hp)(h1:CT hp (vs++caps)=some (ds,b,is):=by first |rfl |(refine Z0 ?_;first |trivial |rfl))(h3:is= []\/f=true:=by first |exact .inr rfl |exact .inl rfl):Kw P tab ops nx0 nx k Q i r dst acc ids fr hp (.fn g caps) vs:=
 WR (h1) h2 h3 h
theorem ud {ops:Array Oper}{nx0 nx:Nat}{k:List It}{Q:Ex->St->Prop}{i:Nat}{r:List Oper}{dst:Option Nat}{acc:List Cd}{ids:List Nat}{fr:Fr}{hp:Hp}{g:FuncId}{caps vs:List AV}{b:Bool}{is:List Nat}{d:D}{f:Bool}{ds:List D}{F:Prop}(w:F)(h2:AI P g ds d f)(h:Rd P tab ops nx0 nx k Q i r (⟨ids,[],false⟩::acc) (A7 dst (Aw (!f&&b) d) fr) hp)(h1:F->CT hp (vs++caps)=some (ds,b,is):=by intro w;first |rfl |(refine Z1 w ?_;first |trivial |rfl))(h3:is= []\/f=true:=by first |exact .inr rfl |exact .inl rfl):Kw P tab ops nx0 nx k Q i r dst acc ids fr hp (.fn g caps) vs:=
 WR (h1 w) h2 h3 h
theorem kb {ops:Array Oper}{nx0:Nat}{k:List It}{Q:Ex->St->Prop}{i:Nat}{r:List Oper}{dst:Option Nat}{s:St}{g:FuncId}{caps vs:List AV}{b:Bool}{is:List Nat}{d:D}{f:Bool}{zs:List DA}(h2:CQ P g zs d f)(h:Rt P tab ops nx0 k Q i r ⟨A7 dst (Aw (!f&&b) d) s.fr,s.hp,s.nx⟩)(h1:ES s.hp (vs++caps)=some (zs,b,is):=by first |rfl |(refine Z0 ?_;first |trivial |rfl))(h3:is= []\/f=true:=by first |exact .inr rfl |exact .inl rfl):Kv P tab ops nx0 k Q i r dst s (.fn g caps) vs:=
 gm (h1) h2 h3 h
theorem Xv {ops:Array Oper}{nx0:Nat}{k:List It}{Q:Ex->St->Prop}{i:Nat}{r:List Oper}{dst:Option Nat}{s:St}{g:FuncId}{caps vs:List AV}{b:Bool}{is:List Nat}{d:D}{f:Bool}{zs:List DA}{F:Prop}(w:F)(h2:CQ P g zs d f)(h:Rt P tab ops nx0 k Q i r ⟨A7 dst (Aw (!f&&b) d) s.fr,s.hp,s.nx⟩)(h1:F->ES s.hp (vs++caps)=some (zs,b,is):=by intro w;first |rfl |(refine Z1 w ?_;first |trivial |rfl))(h3:is= []\/f=true:=by first |exact .inr rfl |exact .inl rfl):Kv P tab ops nx0 k Q i r dst s (.fn g caps) vs:=
 gm (h1 w) h2 h3 h
theorem CC {rs:Array ResultVar}{d:D}{fr b:Bool}{is:List Nat}{s:St}{v:AV}(h1:Dw tab rs s=some v:=by first |(refine Z0 ?_;first |trivial |rfl) |rfl)(h2:toR s.hp v=some (d,b,is):=by first |rfl |(refine Z0 ?_;first |trivial |rfl))(h4:fr=true->b=false:=by intro h;first |rfl |cases h):Cu tab rs (D9 d fr) .ret s:=
 HT h1 (h2) rfl h4
theorem bi {rs:Array ResultVar}{d:D}{fr b:Bool}{is:List Nat}{s:St}{v:AV}{F:Prop}(w:F)(h1:Dw tab rs s=some v:=by first |(refine Z0 ?_;first |trivial |rfl) |rfl)(h2:F->toR s.hp v=some (d,b,is):=by intro w;first |rfl |(refine Z1 w ?_;first |trivial |rfl))(h4:fr=true->b=false:=by intro h;first |rfl |cases h):Cu tab rs (D9 d fr) .ret s:=
 HT h1 (h2 w) rfl h4
theorem ZP (ht:AU P tab)(_:P.follows .mixedOrders=true){rs:Array ResultVar}{f:FuncId}{fn:Func}{code:Code}{ds:List D}{d:D}{fresh:Bool}(hf:P.funcs[f]? =some fn)(h:CA 0 P [.c code] (Cu tab rs (D9 d fresh)) ⟨Df (ds.map (Aw true)),AS,0⟩)(hr:fn.results=rs:=by rfl)(hb:fn.body=some code:=by rfl)(hname:(fn.name== "runtime.NumGoroutine")=false:=by kernel_rfl)(hd:DY fn.ntmps code=true:=by kernel_rfl)(hl:Nat.ble ds.length fn.ntmps=true:=by rfl):AI P f ds d fresh:=by
 subst hr;exact rN ht hf hb hname hd (NI hl) h
theorem bj (ht:AU P tab)(_:P.follows .mixedOrders=true){rs:Array ResultVar}{f:FuncId}{fn:Func}{code:Code}{zs:List DA}{d:D}{fresh:Bool}(hf:P.funcs[f]? =some fn)(h:CA 0 P [.c code] (Cu tab rs (K7 d fresh)) ⟨Df (zs.map DA.av),AS,0⟩)(hr:fn.results=rs:=by rfl)(hb:fn.body=some code:=by rfl)(hname:(fn.name== "runtime.NumGoroutine")=false:=by kernel_rfl)(hd:DY fn.ntmps code=true:=by kernel_rfl)(hl:Nat.ble zs.length fn.ntmps=true:=by rfl):CQ P f zs d fresh:=by
 subst hr;exact rp ht hf hb hname hd (NI hl) h
theorem ZB {ρ:Nat->Option Nat}{hp:Hp}{k j:Nat}{cs ds:List AV}(h1:ρ k=some j)(h3:hp j=some (.bx ds))(h2:Dv ρ cs=some ds):∀p,some (AO.bx cs)=some p->∃j o',ρ k=some j/\CP ρ p=some o'/\hp j=some o':=SR h1 (qq h2) h3
theorem ZR {n N nx:Nat}{fr' fr:Fr}{hp' hp:Hp}(L:List (Nat × Nat))(h1:(Nat.ble n N&&SQ n N L)=true:=by rfl)(h2:∀t,fr' t= .un\/CK (lk n L) (fr' t)=some (fr t):=by repeat' (first |exact Ml _ |refine Wu (by rfl) ?_ |refine Wu (gU (by rfl)) ?_ |refine Wu (gW (by rfl) (by assumption)) ?_))(h3:∀i o,hp' i=some o->∃j o',lk n L i=some j/\CP (lk n L) o=some o'/\hp j=some o':=by repeat' (first |exact Mm _ |refine K5 (SR (by rfl) (by rfl) (by rfl)) ?_ |refine K5 (gV (by rfl) (by rfl)) ?_ |refine K5 (qu (by rfl) (by assumption) (by rfl)) ?_ |refine K5 qv ?_ |refine K5 (ZB (by rfl) (by rfl) (by repeat' (first |exact qp _ |refine Zr (by rfl) ?_ |refine Zr (gU (by rfl)) ?_ |refine Zr (gW (by rfl) (by assumption)) ?_))) ?_)):A6 n ⟨fr',hp',N⟩ ⟨fr,hp,nx⟩:=QB L h1 h2 h3
theorem Y2 {A0 A1:Prop}(a0:A0)(a1:A1):A0/\A1:=⟨a0,a1⟩
theorem Y3 {A0 A1 A2:Prop}(a0:A0)(a1:A1)(a2:A2):A0/\A1/\A2:=⟨a0,a1,a2⟩
theorem Y4 {A0 A1 A2 A3:Prop}(a0:A0)(a1:A1)(a2:A2)(a3:A3):A0/\A1/\A2/\A3:=⟨a0,a1,a2,a3⟩
theorem Y5 {A0 A1 A2 A3 A4:Prop}(a0:A0)(a1:A1)(a2:A2)(a3:A3)(a4:A4):A0/\A1/\A2/\A3/\A4:=⟨a0,a1,a2,a3,a4⟩
theorem Y6 {A0 A1 A2 A3 A4 A5:Prop}(a0:A0)(a1:A1)(a2:A2)(a3:A3)(a4:A4)(a5:A5):A0/\A1/\A2/\A3/\A4/\A5:=⟨a0,a1,a2,a3,a4,a5⟩
theorem YV {α:Type}{f:α->List D}{xs:List α}(h:0<xs.length):∀id ver,Aa id ver (xs.map f)= .so id ver 0 xs.length:=fun _ _=>JC h
theorem YO {α:Type}{f:α->List D}{xs:List α}(h:0<xs.length):∀sz ver br,CD sz ver br (xs.map f)=some (.rw (xs.map f) sz ver br false):=fun _ _ _=>UL h
theorem Zi {α:Type}{a b:α}(h:some a=some b):a=b:=LI h
end
theorem ZT {n:Nat}{k:List It}{Q:Ex->St->Prop}{s:St}(m:Nat)(h:run Tryz.prog tab (k.take m) (DL n Tryz.prog (k.drop m) Q) s):CA n Tryz.prog k Q s:=rM EO D7 m h
theorem Zo {α β:Type}(a:α)(f:α->Option β):(some a).bind f=f a:=rfl
theorem Zx {α:Type}{x:α}{C:Prop}(h:none=some x):C:=nomatch h
def kp:List Nat->Fr->Fr->Fr
 |[],_,g=>g
 |a::l,f,g=>upd a (f a) (kp l f g)
def kh:List Nat->Hp->Hp->Hp
 |[],_,g=>g
 |a::l,f,g=>upd a (f a) (kh l f g)
attribute [go_sem] kp kh
section
variable {n:Nat}{P:Program}{k:List It}{Q:Ex->St->Prop}{fr:Fr}{hp:Hp}{nx m:Nat}{a:Code}{E T S G R:Type}{r:R}
theorem Su {X Y:St->Prop}{s:St}(H:CA n P [.c a,.lp X] (DL n P k Q) s)(h:∀s,X s->Y s):CA n P [.c a,.lp Y] (DL n P k Q) s:=
 Co.mono (fun e s' h'=>by cases e with |normal=>exact h _ h' |_=>exact h') (show Co n P a (DL n P [.lp X] (DL n P k Q)) s from H)
theorem zj {X:Option T}{f:T->Option R}(H:X.bind f=some r)(σ:Fr->Hp->T->St)(h1:∀y,X=some y->f y=some r->CA n P [.c a,.lp fun s'=>A6 n (σ fr hp y) s'] (DL n P k Q) ⟨fr,hp,nx⟩)(h2:∀y,f y=some r->CA n P k Q (σ fr hp y)):CA n P (.c a::k) Q ⟨fr,hp,nx⟩:=by
 obtain⟨e,E1,H2⟩:=AJ H;exact EI (α:={ y:T // e=y }) (fun y=>σ fr hp y.1) (Su (h1 e E1 H2) fun _ h=>⟨⟨e,rfl⟩,h⟩) fun⟨y,h⟩=>h2 y (h▸H2)
theorem GT {X:Option T}{f:T->Option R}(H:X.bind f=some r)(σ:Fr->Hp->T->G->St)(h1:∀y,X=some y->f y=some r->CA n P [.c a,.lp fun s'=>∃g,A6 n (σ fr hp y g) s'] (DL n P k Q) ⟨fr,hp,nx⟩)(h2:∀y g,f y=some r->CA n P k Q (σ fr hp y g)):CA n P (.c a::k) Q ⟨fr,hp,nx⟩:=by
 obtain⟨e,E1,H2⟩:=AJ H;exact EI (α:={ y:T // e=y } × G) (fun y=>σ fr hp y.1.1 y.2) (Su (h1 e E1 H2) fun _ ⟨g,h⟩=>⟨⟨⟨e,rfl⟩,g⟩,h⟩) fun⟨⟨y,h⟩,g⟩=>h2 y g (h▸H2)
theorem zi {X:Option (T ⊕ E)}{f:T ⊕ E->Option R}(H:X.bind f=some r)(σ:Fr->Hp->T->St)(h1:∀e,X=some e->f e=some r->CA n P [.c a,.lp fun s'=>∃y,e= .inl y/\A6 n (σ fr hp y) s'] (DL n P k Q) ⟨fr,hp,nx⟩)(h2:∀y,f (.inl y)=some r->CA n P k Q (σ fr hp y)):CA n P (.c a::k) Q ⟨fr,hp,nx⟩:=by
 obtain⟨e,E1,H2⟩:=AJ H;exact EI (α:={ y:T // e= .inl y }) (fun y=>σ fr hp y.1) (Su (h1 e E1 H2) fun _ ⟨y,h,h'⟩=>⟨⟨y,h⟩,h'⟩) fun⟨y,h⟩=>h2 y (h▸H2)
theorem kd {X:Option (T ⊕ E)}{f:T ⊕ E->Option R}(H:X.bind f=some r)(σ:Fr->Hp->T->G->St)(h1:∀e,X=some e->f e=some r->CA n P [.c a,.lp fun s'=>∃y g,e= .inl y/\A6 n (σ fr hp y g) s'] (DL n P k Q) ⟨fr,hp,nx⟩)(h2:∀y g,f (.inl y)=some r->CA n P k Q (σ fr hp y g)):CA n P (.c a::k) Q ⟨fr,hp,nx⟩:=by
 obtain⟨e,E1,H2⟩:=AJ H;exact EI (α:={ y:T // e= .inl y } × G) (fun y=>σ fr hp y.1.1 y.2) (Su (h1 e E1 H2) fun _ ⟨y,g,h,h'⟩=>⟨⟨⟨y,h⟩,g⟩,h'⟩) fun⟨⟨y,h⟩,g⟩=>h2 y g (h▸H2)
theorem kg {F:Nat->S->Option E}{e:E}{c0:Nat}{s0:S}(E0:F c0 s0=some e)(σ:Fr->Hp->S->G->St)(g0:G)(h0:A6 n (σ fr hp s0 g0) ⟨fr,hp,nx⟩)(step:∀c x g,F (c+1) x=some e->CA n P [.c a,.lp fun s'=>∃y g,F c y=some e/\A6 n (σ fr hp y g) s'] (DL n P k Q) (σ fr hp x g))(z:∀x,F 0 x=none:=by intro _;rfl):CA n P (.c (.loop a)::k) Q ⟨fr,hp,nx⟩:=by
 refine DS (α:={ q:(Nat × S) × G // F q.1.1 q.1.2=some e }) (fun q=>σ fr hp q.1.1.2 q.1.2) (fun q=>q.1.1.1) ⟨((c0,s0),g0),E0⟩ h0 ?_;rintro⟨⟨⟨c,x⟩,g⟩,h⟩;cases c with
 |zero=>exact nomatch (z x).symm.trans h
 |succ c=>exact Su (step c x g h) fun _ ⟨y,g,h,h'⟩=>⟨⟨((c,y),g),h⟩,h',LF _⟩
theorem zl {F:Nat->S->Option E}{e:E}{c0:Nat}{s0:S}(E0:F c0 s0=some e)(σ:Fr->Hp->S->St)(h0:A6 n (σ fr hp s0) ⟨fr,hp,nx⟩)(step:∀c x,F (c+1) x=some e->CA n P [.c a,.lp fun s'=>∃y,F c y=some e/\A6 n (σ fr hp y) s'] (DL n P k Q) (σ fr hp x))(z:∀x,F 0 x=none:=by intro _;rfl):CA n P (.c (.loop a)::k) Q ⟨fr,hp,nx⟩:=
 kg E0 (fun f h s (_:Unit)=>σ f h s) () h0 (fun c x _ h=>Su (step c x h) fun _ ⟨y,h,h'⟩=>⟨y,(),h,h'⟩) z
theorem IX {F:Nat->S->Option E}{e:E}{c0:Nat}{s0:S}(E0:F c0 s0=some e)(σ:Fr->Hp->S->St)(h0:A6 n (σ fr hp s0) ⟨fr,hp,nx⟩)(step:∀c x,F (c+1) x=some e->CA n P [.c a,.lp fun s'=>∃y,F c y=some e/\A6 n (σ fr hp y) s'] (DL n P (.blk m::k) Q) (σ fr hp x))(z:∀x,F 0 x=none:=by intro _;rfl):CA n P (.c (.block m (.loop a))::k) Q ⟨fr,hp,nx⟩:=
 CN (zl E0 σ h0 step z)
theorem Ft {F:Nat->S->Option E}{e:E}{c0:Nat}{s0:S}(E0:F c0 s0=some e)(σ:Fr->Hp->S->G->St)(g0:G)(h0:A6 n (σ fr hp s0 g0) ⟨fr,hp,nx⟩)(step:∀c x g,F (c+1) x=some e->CA n P [.c a,.lp fun s'=>∃y g,F c y=some e/\A6 n (σ fr hp y g) s'] (DL n P (.blk m::k) Q) (σ fr hp x g))(z:∀x,F 0 x=none:=by intro _;rfl):CA n P (.c (.block m (.loop a))::k) Q ⟨fr,hp,nx⟩:=
 CN (kg E0 σ g0 h0 step z)
end
theorem zI {α β R:Type}{xs:List α}{i:Int}{r:R}{k:Nat}{h:α->Option R}(f:α->β)(H:(C4 xs i).bind h=some r)(e:i.toNat=k:=by conv=>lhs;try simp only[Int.reduceToNat,Lv]):∃x,0<=i/\xs[k]? =some x/\(D8 (.v (.int .i64 i))=some k/\(xs.map f)[k]? =some (f x))/\h x=some r:=by
 subst e;obtain⟨x,b,H⟩:=AJ H;exact⟨x,(Je b).1,(Je b).2,⟨Cx .i64 (Je b).1,Cs f (Je b).2⟩,H⟩
theorem IY {α R:Type}{xs:List α}{i:Int}{r:R}{k:Nat}{h:α->Option R}(H:(C4 xs i).bind h=some r)(e:i.toNat=k:=by conv=>lhs;try simp only[Int.reduceToNat,Lv]):∃x,0<=i/\xs[k]? =some x/\h x=some r:=by
 subst e;obtain⟨x,b,H⟩:=AJ H;exact⟨x,(Je b).1,(Je b).2,H⟩
theorem DU {β:Type}{c:Bool}{a b:Option β}{r:β}{W:Prop}(w:W)(h:(if c then a else b)=some r):((W/\c=true)/\a=some r)\/((W/\c=false)/\b=some r):=by
 rcases CM h with⟨e,h⟩ |⟨e,h⟩
 · exact .inl ⟨⟨w,e⟩,h⟩
 · exact .inr ⟨⟨w,e⟩,h⟩
theorem CH {n nx:Nat}{fr fr':Fr}{hp:Hp}(h:∀t,fr' t= .un\/fr' t=fr t:=by repeat first |exact KP _ |refine Cv rfl ?_):A6 n ⟨fr',hp,nx⟩ ⟨fr,hp,nx⟩:=.weak ⟨h,fun _=>.inr rfl,Lc _⟩
theorem AN {p q:Prop}(k:q)(e:q->p:=by intro k;refine ZT 1 ?_;refine Z0 ?_;exact k):p:=e k
theorem Az {p q:Prop}(k:q)(e:q->p:=by intro k;refine AW (ZT 1 ?_);refine Z0 ?_;exact k):p:=e k
theorem D3 {p q:Prop}(k:q)(e:q->p:=by intro k;refine AW (ZT 1 ?_);refine Z0 ?_;refine AW (ZT 1 ?_);refine Z0 ?_;exact k):p:=e k
theorem ET {p q:Prop}(k:q)(e:q->p:=by intro k;refine AW (AW ?_);refine ZT 1 ?_;refine Z0 ?_;exact k):p:=e k
theorem GU {F p q:Prop}(w:F)(k:q)(e:F->q->p:=by intro w k;refine Z1 w ?_;refine DR (by rfl) ?_;refine Z1 w ?_;exact k):p:=e w k
theorem HG {F p q:Prop}(w:F)(k:q)(e:F->q->p:=by intro w k;refine ZT 1 ?_;refine Z1 w ?_;exact k):p:=e w k
theorem Qx {p q:Prop}(k:q)(e:q->p:=by intro k;refine AW (ZT 1 ?_);refine Z0 ?_;refine AW (AW ?_);refine ZT 1 ?_;refine Z0 ?_;exact k):p:=e k
theorem Ck {F p q:Prop}(w:F)(k:q)(e:F->q->p:=by intro w k;refine Z1 w ?_;refine AW (ZT 1 ?_);exact k):p:=e w k
theorem KB {F p q:Prop}(w:F)(k:q)(e:F->q->p:=by intro w k;refine Z1 w ?_;refine AW (CN ?_);refine AW (ZT 1 ?_);exact k):p:=e w k
theorem Qy {F p q:Prop}(w:F)(k:q)(e:F->q->p:=by intro w k;refine Z1 w ?_;refine AW (AW ?_);refine ZT 1 ?_;refine Z1 w ?_;exact k):p:=e w k
theorem Ep {F p q:Prop}(w:F)(k:q)(e:F->q->p:=by intro w k;refine Z1 w ?_;refine ZT 1 ?_;refine Z0 ?_;exact k):p:=e w k
theorem GI {p q:Prop}(k:q)(e:q->p:=by intro k;refine Z0 ?_;refine ZT 1 ?_;refine Z0 ?_;exact k):p:=e k
theorem Dj {p q:Prop}(k:q)(e:q->p:=by intro k;refine Z0 ?_;refine AW (ZT 1 ?_);exact k):p:=e k
theorem MP {F p q:Prop}(w:F)(k:q)(e:F->q->p:=by intro w k;refine Z1 w ?_;refine AW (ZT 1 ?_);refine Z1 w ?_;exact k):p:=e w k
theorem PP {p q:Prop}(k:q)(e:q->p:=by intro k;refine Z0 ?_;refine DR (by rfl) ?_;refine Z0 ?_;exact k):p:=e k
theorem zq {f:FuncId}{fn:Func}{code:Code}{vs:List AV}{hp:Hp}{nx:Nat}{R:AV->Hp->Nat->Prop}(hf:Tryz.prog.funcs[f]? =some fn)(h:CA nx Tryz.prog [.c code] (Cu tab fn.results R) ⟨Df vs,hp,nx⟩)(hb:fn.body=some code:=by rfl)(hname:(fn.name== "runtime.NumGoroutine")=false:=by kernel_rfl)(hd:DY fn.ntmps code=true:=by kernel_rfl)(hl:Nat.ble vs.length fn.ntmps=true:=by rfl):AK Tryz.prog f vs hp nx R:=
 Zt EO hf hb hname hd (NI hl) h
theorem zr {f:FuncId}{fn:Func}{code:Code}{vs:List AV}{hp:Hp}{nx:Nat}{R:AV->Hp->Nat->Prop}(hf:Tryz.prog.funcs[f]? =some fn)(h:run Tryz.prog tab [.c code] (Cu tab fn.results R) ⟨Df vs,hp,nx⟩)(hb:fn.body=some code:=by rfl)(hname:(fn.name== "runtime.NumGoroutine")=false:=by kernel_rfl)(hd:DY fn.ntmps code=true:=by kernel_rfl)(hl:Nat.ble vs.length fn.ntmps=true:=by rfl):AK Tryz.prog f vs hp nx R:=
 Ky EO D7 hf hb hname hd (NI hl) h
theorem zz {p:Prop}(e:p:=by refine Z0 ?_;first |trivial |rfl):p:=e
theorem zP (rs:Array ResultVar){f:FuncId}{fn:Func}{code:Code}{ds:List D}{d:D}{fresh:Bool}(hf:Tryz.prog.funcs[f]? =some fn)(h:CA 0 Tryz.prog [.c code] (Cu tab rs (D9 d fresh)) ⟨Df (ds.map (Aw true)),AS,0⟩)(hr:fn.results=rs:=by rfl)(hb:fn.body=some code:=by rfl)(hname:(fn.name== "runtime.NumGoroutine")=false:=by kernel_rfl)(hd:DY fn.ntmps code=true:=by kernel_rfl)(hl:Nat.ble ds.length fn.ntmps=true:=by rfl):AI Tryz.prog f ds d fresh:=
 ZP EO D7 hf h hr hb hname hd hl
end Go.Proofs.YtnmkbmefohakmaaGreat.Ab
