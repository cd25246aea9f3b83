/-
 The program's structures.
-/
import Derived.Test.YtnmkbmefohakmaaGreatAbU
import Derived.Test.YtnmkbmefohakmaaGreatProg
import Derived.IntWalk
import Derived.KernelRfl
set_option linter.all false
namespace Go.Proofs.YtnmkbmefohakmaaGreat.Ab
end Go.Proofs.YtnmkbmefohakmaaGreat.Ab
namespace Go.Proofs.YtnmkbmefohakmaaGreat.Ab
open Go.RowKit
@[go_sem] theorem ZI (hp:Hp)(id ver:Nat)(es:List (List D)):My hp (Ac id ver es)=(F3 (hp id) ver id es).map fun(d,b,is)=>(.d d,b,is):=by
 rw[<-uw];cases es<;>rfl
@[go_sem] theorem WG {tab:Nat->TI}{d T e:Nat}(h:T=e/\(tab T).kind= .slice/\(tab (tab T).elem).ok/\0<(tab (tab T).elem).size)(c:List (List D))(b:Bool)(is:List Nat)(id ver:Nat)(o:Option AO):
  Gl tab d T e (some (c,b,is)) id ver [] o=if EX (tab (tab T).elem).size c/\(tab (tab T).elem).bytes<=32768/\c.length<=4294967296 then
   (if c.length=0 then some (.v (.slice none 0 0),[]) else some (.so d 0 0 c.length,[(d,.rw c (tab (tab T).elem).size 0 b false)])) else none:=by
 unfold Gl;rw[if_pos h]
@[go_sem] theorem WI {tab:Nat->TI}{l T j:Nat}(h:T=j/\(tab T).kind= .slice/\(tab (tab T).elem).ok/\0<(tab (tab T).elem).size)(c:List (List D))(b:Bool)(is:List Nat)(id ver:Nat)(es d:List (List D))(sz v:Nat)(br:Bool)(hp:0<es.length):
  Gl tab l T j (some (c,b,is)) id ver es (some (.rw d sz v br false))=if ver=v/\es.length<=d.length/\sz=(tab (tab T).elem).size/\EX sz c/\(tab (tab T).elem).bytes<=32768/\es.length+c.length<=4294967296 then
      some (.so id (v+1) 0 (es.length+c.length),[(id,.rw (d.take es.length++c) sz (v+1) (br||b) false)]) else none:=by
 unfold Gl;rw[if_pos h];cases es with
 |nil=>simp at hp
 |cons e r=>rfl
theorem wO {α:Type}{xs b:List α}{c d:Nat}(f:α->List D)(h:b=List.drop c (List.take d xs)):List.take b.length (List.drop c (List.map f xs))=List.map f b:=by
 rw[h,List.drop_take,<-Ia,LC,N8];conv=>rhs;rw[List.take_eq_take_min]
 rw[LE]
theorem WJ {α:Type}{xs b:List α}{c:Nat}(f:α->List D)(h:b=List.drop 0 (List.take c xs)):List.take b.length (List.map f xs)=List.map f b:=by
 have:=wO f h;rwa [LJ] at this
end Go.Proofs.YtnmkbmefohakmaaGreat.Ab
namespace Go.Proofs.YtnmkbmefohakmaaGreat.Ab
theorem qR:∃t,t=Jc Tryz.prog:=⟨_,rfl⟩
noncomputable def tab:Nat->TI:=Classical.choose qR
theorem qS:tab=Jc Tryz.prog:=OX qR
theorem Ep:Ad Tryz.prog tab:=qS▸kJ _
theorem DL {k:Nat}{x:TI}(h:Jc Tryz.prog k=x:=by kernel_rfl):tab k=x:=by rw[qS];exact h
theorem EN:Tryz.prog.follows .mixedOrders=true:=by kernel_rfl
@[go_sem] theorem tab2:tab 2={ ok:=true,kind:=.int .i64,zero:=[.int .i64 0] }:=DL
@[go_sem] theorem tab3:tab 3={ ok:=true,kind:=.int .i64,zero:=[.int .i64 0] }:=DL
@[go_sem] theorem tab4:tab 4={ ok:=true,kind:=.bool,bytes:=1,zero:=[.bool false] }:=DL
@[go_sem] theorem tab9:tab 9={ ok:=true,kind:=.string,bytes:=16,zero:=[.string ByteArray.empty] }:=DL
@[go_sem] theorem qT:tab 22={ ok:=true,kind:=.slice,bytes:=24,elem:=2,zero:=[.slice none 0 0] }:=DL
@[go_sem] theorem qU:tab 23={ ok:=true,kind:=.slice,bytes:=24,elem:=88,zero:=[.slice none 0 0] }:=DL
@[go_sem] theorem qV:tab 26={ ok:=true,kind:=.slice,bytes:=24,elem:=35,zero:=[.slice none 0 0] }:=DL
@[go_sem] theorem qW:tab 29={ ok:=true,kind:=.struct,size:=2,bytes:=32,offs:=[(0,1),(1,1)],zero:=[.string ByteArray.empty,.string ByteArray.empty],flat:=some [.string,.string] }:=DL
@[go_sem] theorem qX:tab 31={ ok:=true,kind:=.struct,size:=3,bytes:=48,offs:=[(0,1),(1,1),(2,1)],zero:=[.string ByteArray.empty,.string ByteArray.empty,.string ByteArray.empty],flat:=some [.string,.string,.string] }:=DL
@[go_sem] theorem qY:tab 35={ ok:=true,kind:=.struct,size:=6,bytes:=96,offs:=[(0,2),(2,1),(3,3)],zero:=[.string ByteArray.empty,.string ByteArray.empty,.string ByteArray.empty,.string ByteArray.empty,.string ByteArray.empty,.string ByteArray.empty],flat:=some [.string,.string,.string,.string,.string,.string] }:=DL
@[go_sem] theorem qZ:tab 47={ ok:=true,kind:=.slice,bytes:=24,elem:=9,zero:=[.slice none 0 0] }:=DL
@[go_sem] theorem qd:tab 48={ ok:=true,kind:=.int .u64,zero:=[.int .u64 0] }:=DL
@[go_sem] theorem qe:tab 49={ ok:=true,kind:=.slice,bytes:=24,elem:=31,zero:=[.slice none 0 0] }:=DL
@[go_sem] theorem qg:tab 50={ ok:=true,kind:=.slice,bytes:=24,elem:=57,zero:=[.slice none 0 0] }:=DL
@[go_sem] theorem qh:tab 52={ ok:=true,kind:=.struct,size:=3,bytes:=64,offs:=[(0,1),(1,1),(2,1)],zero:=[.string ByteArray.empty,.slice none 0 0,.slice none 0 0] }:=DL
@[go_sem] theorem qi:tab 55={ ok:=true,kind:=.slice,bytes:=24,elem:=4,zero:=[.slice none 0 0] }:=DL
@[go_sem] theorem qj:tab 57={ ok:=true,kind:=.struct,size:=3,bytes:=40,offs:=[(0,1),(1,1),(2,1)],zero:=[.int .i64 0,.string ByteArray.empty,.string ByteArray.empty],flat:=some [.int .i64,.string,.string] }:=DL
@[go_sem] theorem qk:tab 75={ ok:=true,kind:=.ptr,elem:=103,zero:=[.pointer none] }:=DL
@[go_sem] theorem ql:tab 81={ ok:=true,kind:=.slice,bytes:=24,elem:=120,zero:=[.slice none 0 0] }:=DL
@[go_sem] theorem qm:tab 86={ ok:=true,kind:=.slice,bytes:=24,elem:=52,zero:=[.slice none 0 0] }:=DL
@[go_sem] theorem qo:tab 88={ ok:=true,kind:=.struct,size:=2,bytes:=40,offs:=[(0,1),(1,1)],zero:=[.string ByteArray.empty,.slice none 0 0] }:=DL
@[go_sem] theorem qp:tab 90={ ok:=true,kind:=.slice,bytes:=24,elem:=160,zero:=[.slice none 0 0] }:=DL
@[go_sem] theorem qq:tab 91={ ok:=true,kind:=.slice,bytes:=24,elem:=3,zero:=[.slice none 0 0] }:=DL
@[go_sem] theorem gK:tab 100={ ok:=true,kind:=.ptr,elem:=176,zero:=[.pointer none] }:=DL
@[go_sem] theorem gM:tab 101={ ok:=true,kind:=.ptr,elem:=113,zero:=[.pointer none] }:=DL
@[go_sem] theorem gN:tab 103={ ok:=true,kind:=.struct,size:=3,bytes:=40,offs:=[(0,1),(1,1),(2,1)],zero:=[.pointer none,.pointer none,.slice none 0 0] }:=DL
@[go_sem] theorem gO:tab 105={ ok:=true,kind:=.map,elem:=49,zero:=[.map none],mkey:=some (true,[.string,.string,.string]) }:=DL
@[go_sem] theorem gP:tab 106={ ok:=true,kind:=.map,elem:=47,zero:=[.map none],mkey:=some (false,[.string]) }:=DL
@[go_sem] theorem gQ:tab 108={ ok:=true,kind:=.struct,size:=2,bytes:=16,offs:=[(0,1),(1,1)],zero:=[.map none,.map none] }:=DL
@[go_sem] theorem gS:tab 109={ ok:=true,kind:=.map,elem:=81,zero:=[.map none],mkey:=some (true,[.string,.string,.string]) }:=DL
@[go_sem] theorem gT:tab 111={ ok:=true,kind:=.struct,size:=2,bytes:=16,offs:=[(0,1),(1,1)],zero:=[.map none,.map none] }:=DL
@[go_sem] theorem gU:tab 113={ ok:=true,kind:=.struct,size:=4,bytes:=32,offs:=[(0,2),(2,2)],zero:=[.map none,.map none,.map none,.map none] }:=DL
@[go_sem] theorem gV:tab 120={ ok:=true,kind:=.struct,size:=3,bytes:=48,offs:=[(0,2),(2,1)],zero:=[.string ByteArray.empty,.string ByteArray.empty,.string ByteArray.empty],flat:=some [.string,.string,.string] }:=DL
@[go_sem] theorem gW:tab 121={ ok:=true,kind:=.slice,bytes:=24,elem:=129,zero:=[.slice none 0 0] }:=DL
@[go_sem] theorem gX:tab 126={ ok:=true,kind:=.struct,size:=8,bytes:=96,offs:=[(0,1),(1,1),(2,1),(3,1),(4,1),(5,1),(6,1),(7,1)],zero:=[.slice none 0 0,.int .i64 0,.int .i64 0,.int .i64 0,.int .i64 0,.int .i64 0,.slice none 0 0,.int .i64 0] }:=DL
@[go_sem] theorem gY:tab 129={ ok:=true,kind:=.struct,size:=3,bytes:=32,offs:=[(0,1),(1,1),(2,1)],zero:=[.int .i64 0,.int .i64 0,.string ByteArray.empty],flat:=some [.int .i64,.int .i64,.string] }:=DL
@[go_sem] theorem gZ:tab 137={ ok:=true,kind:=.ptr,elem:=140,zero:=[.pointer none] }:=DL
@[go_sem] theorem ga:tab 138={ ok:=true,kind:=.map,elem:=144,zero:=[.map none],mkey:=some (true,[.string,.string,.string]) }:=DL
@[go_sem] theorem gc:tab 140={ ok:=true,kind:=.struct,size:=6,bytes:=88,offs:=[(0,1),(1,3),(4,1),(5,1)],zero:=[.pointer none,.string ByteArray.empty,.string ByteArray.empty,.string ByteArray.empty,.map none,.slice none 0 0] }:=DL
@[go_sem] theorem gf:tab 143={ ok:=true,kind:=.struct,size:=4,bytes:=64,offs:=[(0,1),(1,1),(2,1),(3,1)],zero:=[.int .i64 0,.slice none 0 0,.slice none 0 0,.bool false] }:=DL
@[go_sem] theorem gg:tab 144={ ok:=true,kind:=.ptr,elem:=143,zero:=[.pointer none] }:=DL
@[go_sem] theorem gj:tab 153={ ok:=true,kind:=.array 6,size:=6,bytes:=96,offs:=[(0,1),(1,1),(2,1),(3,1),(4,1),(5,1)],elem:=9,zero:=[.string ByteArray.empty,.string ByteArray.empty,.string ByteArray.empty,.string ByteArray.empty,.string ByteArray.empty,.string ByteArray.empty] }:=DL
@[go_sem] theorem gk:tab 157={ ok:=true,kind:=.slice,bytes:=24,elem:=162,zero:=[.slice none 0 0] }:=DL
@[go_sem] theorem gl:tab 160={ ok:=true,kind:=.struct,size:=2,bytes:=32,offs:=[(0,1),(1,1)],zero:=[.string ByteArray.empty,.string ByteArray.empty],flat:=some [.string,.string] }:=DL
@[go_sem] theorem gm:tab 162={ ok:=true,kind:=.struct,size:=3,bytes:=40,offs:=[(0,1),(1,1),(2,1)],zero:=[.string ByteArray.empty,.string ByteArray.empty,.bool false],flat:=some [.string,.string,.bool] }:=DL
@[go_sem] theorem gp:tab 172={ ok:=true,kind:=.map,elem:=3,zero:=[.map none],mkey:=some (false,[.string]) }:=DL
@[go_sem] theorem gq:tab 173={ ok:=true,kind:=.map,elem:=52,zero:=[.map none],mkey:=some (true,[.string,.string]) }:=DL
@[go_sem] theorem gr:tab 174={ ok:=true,kind:=.map,elem:=3,zero:=[.map none],mkey:=some (true,[.string,.string]) }:=DL
@[go_sem] theorem gt:tab 176={ ok:=true,kind:=.struct,size:=3,bytes:=24,offs:=[(0,1),(1,1),(2,1)],zero:=[.map none,.map none,.map none] }:=DL
@[go_sem] theorem gu:tab 178={ ok:=true,kind:=.slice,bytes:=24,elem:=181,zero:=[.slice none 0 0] }:=DL
@[go_sem] theorem gv:tab 181={ ok:=true,kind:=.struct,size:=2,bytes:=32,offs:=[(0,1),(1,1)],zero:=[.string ByteArray.empty,.string ByteArray.empty],flat:=some [.string,.string] }:=DL
@[go_sem] theorem gw:tab 200={ ok:=true,kind:=.map,elem:=201,zero:=[.map none],mkey:=some (true,[.string,.string]) }:=DL
@[go_sem] theorem gx:tab 201={ ok:=true,kind:=.slice,bytes:=24,elem:=204,zero:=[.slice none 0 0] }:=DL
@[go_sem] theorem gy:tab 204={ ok:=true,kind:=.struct,size:=3,bytes:=40,offs:=[(0,2),(2,1)],zero:=[.string ByteArray.empty,.string ByteArray.empty,.int .i64 0],flat:=some [.string,.string,.int .i64] }:=DL
@[go_sem] theorem gz:tab 243={ ok:=true,kind:=.slice,bytes:=24,elem:=201,zero:=[.slice none 0 0] }:=DL
end Go.Proofs.YtnmkbmefohakmaaGreat.Ab
namespace Go.Proofs.YtnmkbmefohakmaaGreat.Ab
open Go.RowKit
structure AN where
 type_:ByteArray
 id_:ByteArray
 rel:ByteArray
 deriving DecidableEq,Inhabited
abbrev AR (x:AN):List D:=[D.v (.string x.type_),D.v (.string x.id_),D.v (.string x.rel)]
def G8 (x:AN):Value:=.agg #[.string x.type_,.string x.id_,.string x.rel]
theorem y5:FF (true,[.string,.string,.string]) G8:=fun a b=>by
 have e:(a==b)=((a.type_==b.type_)&&(a.id_==b.id_)&&(a.rel==b.rel)):=by
  have⟨c,d,h⟩:=a;have⟨j,l,o⟩:=b;rw[Ni];simp[and_assoc]
 rw[e];simp[G8,KN,EH,Gf,Oz]
structure AS where
 kind:Int
 a:ByteArray
 b:ByteArray
 deriving DecidableEq,Inhabited
abbrev AX (x:AS):List D:=[D.v (.int .i64 x.kind),D.v (.string x.a),D.v (.string x.b)]
structure AW where
 name:ByteArray
 subs:List AN
 expr:List AS
 deriving DecidableEq,Inhabited
abbrev Ah (x:AW):List D:=[D.v (.string x.name),D.sl (List.map AR x.subs),D.sl (List.map AX x.expr)]
structure AG where
 name:ByteArray
 rels:List AW
 deriving DecidableEq,Inhabited
abbrev AQ (x:AG):List D:=[D.v (.string x.name),D.sl (List.map Ah x.rels)]
structure Ak where
 type_:ByteArray
 id_:ByteArray
 deriving DecidableEq,Inhabited
abbrev C3 (x:Ak):List D:=[D.v (.string x.type_),D.v (.string x.id_)]
structure AD where
 obj:Ak
 rel:ByteArray
 sub_:AN
 deriving DecidableEq,Inhabited
abbrev AE (x:AD):List D:=[D.v (.string x.obj.type_),D.v (.string x.obj.id_),D.v (.string x.rel),D.v (.string x.sub_.type_),D.v (.string x.sub_.id_),D.v (.string x.sub_.rel)]
structure AA where
 typ:ByteArray
 rel:ByteArray
 deriving DecidableEq,Inhabited
abbrev Ag (x:AA):List D:=[D.v (.string x.typ),D.v (.string x.rel)]
def qb_ (x:AA):Value:=.agg #[.string x.typ,.string x.rel]
theorem Mc:FF (true,[.string,.string]) qb_:=fun a b=>by
 have e:(a==b)=((a.typ==b.typ)&&(a.rel==b.rel)):=by
  have⟨c,d⟩:=a;have⟨h,j⟩:=b;rw[Ni];simp
 rw[e];simp[qb_,KN,EH,Gf]
structure AC where
 types:List (ByteArray × Int)
 rels:List (AA × AW)
 ranks:List (AA × Int)
 deriving DecidableEq,Inhabited
abbrev Az (x:AC):List D:=[D.mp (Cb Value.string false eI x.types),D.mp (Cb qb_ true Ah x.rels),D.mp (Cb qb_ false eI x.ranks)]
structure AB where
 obj:Ak
 rel:ByteArray
 deriving DecidableEq,Inhabited
abbrev AH (x:AB):List D:=[D.v (.string x.obj.type_),D.v (.string x.obj.id_),D.v (.string x.rel)]
def GU (x:AB):Value:=.agg #[.string x.obj.type_,.string x.obj.id_,.string x.rel]
theorem Sj:FF (true,[.string,.string,.string]) GU:=fun a b=>by
 have e:(a==b)=((a.obj.type_==b.obj.type_)&&(a.obj.id_==b.obj.id_)&&(a.rel==b.rel)):=by
  have⟨⟨c,d⟩,h⟩:=a;have⟨⟨j,l⟩,o⟩:=b;rw[Ni];simp[and_assoc]
 rw[e];simp[GU,KN,EH,Gf,Oz]
structure Dh where
 subs:List (AB × (List AN))
 objs:List (ByteArray × (List ByteArray))
 deriving DecidableEq,Inhabited
abbrev EP (x:Dh):List D:=[D.mp (Cb GU false (eL AR) x.subs),D.mp (Cb Value.string false (eL eS) x.objs)]
structure D0 where
 refs:List (AN × (List AB))
 users:List (ByteArray × (List ByteArray))
 deriving DecidableEq,Inhabited
abbrev Ei (x:D0):List D:=[D.mp (Cb G8 false (eL AH) x.refs),D.mp (Cb Value.string false (eL eS) x.users)]
structure C8 where
 left:Dh
 right:D0
 deriving DecidableEq,Inhabited
abbrev CA (x:C8):List D:=[D.mp (Cb GU false (eL AR) x.left.subs),D.mp (Cb Value.string false (eL eS) x.left.objs),D.mp (Cb G8 false (eL AH) x.right.refs),D.mp (Cb Value.string false (eL eS) x.right.users)]
structure AY where
 schema:AC
 index:C8
 rows_:List AD
 deriving DecidableEq,Inhabited
abbrev A7 (x:AY):List D:=[D.pt (Az x.schema) 0,D.pt (CA x.index) 0,D.sl (List.map AE x.rows_)]
structure XV where
 after:ByteArray
 most:Int
 deriving DecidableEq,Inhabited
abbrev DX (x:XV):List D:=[D.v (.string x.after),D.v (.int .i64 x.most)]
variable {A0 A1 A2 A3 F p q:Prop}{c0 i n nx0:Nat}{caps vs:List AV}{code:Code}{ds:List D}{dst:Option Nat}{f g:FuncId}{fr:Fr}{hp:Hp}{k:List It}{ops:Array Oper}{r:List Oper}{rs:Array ResultVar}{s:St}{α β:Type}{xs:List α}{zs:List DA}
section
variable {P:Program}{tab:Nat->TI}
theorem Z0 (k:q)(e:p=q:=by conv=>lhs;try simp -implicitDefEqProofs only[go_sem,LT,Int.reduceToNat,Int.reduceLT,Int.reduceLE,Int.reduceBEq,Int.reduceBNe,Nat.reduceLT,Nat.reduceBEq,Int.reduceEq,Nat.reduceEqDiff,Nat.reduceAdd,Nat.reduceSub,Nat.reduceMul,Nat.reduceLeDiff,reduceCtorEq, ↓reduceIte,or_true,or_false,true_or,false_or,kd,kg,AR,AX,Ah,AQ,C3,AE,Ag,Az,AH,EP,Ei,CA,A7,DX]):p:=
 (e).mpr k
theorem Z1 (w:F)(k:q)(e:F->p=q:=by intro w;conv=>lhs;try simp -implicitDefEqProofs only[go_sem,LT,Int.reduceToNat,Int.reduceLT,Int.reduceLE,Int.reduceBEq,Int.reduceBNe,Nat.reduceLT,Nat.reduceBEq,Int.reduceEq,Nat.reduceEqDiff,Nat.reduceAdd,Nat.reduceSub,Nat.reduceMul,Nat.reduceLeDiff,reduceCtorEq, ↓reduceIte,or_true,or_false,true_or,false_or,kd,kg,AR,AX,Ah,AQ,C3,AE,Ag,Az,AH,EP,Ei,CA,A7,DX,w]):p:=
 (e w).mpr k
theorem Cn {Q:Ex->St->Prop}{b:Bool}{is:List Nat}{d:D}{f:Bool}(c:AI P g ds d f)(h:Rt P tab ops nx0 k Q i r ⟨CJ dst (CE (!f&&b) d) s.fr,s.hp,s.nx⟩)(e:Cj s.hp (vs++caps)=some (ds,b,is):=by first |rfl |(refine Z0 ?_;first |trivial |rfl))(j:is= []\/f=true:=by first |exact .inr rfl |exact .inl rfl):Ms P tab ops nx0 k Q i r dst s (.fn g caps) vs:=
 Mt (e) c j h
theorem EB {nx:Nat}{Q:Ex->St->Prop}{c:List Cx}{ids:List Nat}{b:Bool}{is:List Nat}{d:D}{f:Bool}(e:AI P g ds d f)(h:Rd P tab ops nx0 nx k Q i r (⟨ids,[],false⟩::c) (CJ dst (CE (!f&&b) d) fr) hp)(j:Cj hp (vs++caps)=some (ds,b,is):=by first |rfl |(refine Z0 ?_;first |trivial |rfl))(l:is= []\/f=true:=by first |exact .inr rfl |exact .inl rfl):Pk P tab ops nx0 nx k Q i r dst c ids fr hp (.fn g caps) vs:=
 cA (j) e l h
theorem ff {Q:Ex->St->Prop}{b:Bool}{is:List Nat}{d:D}{f:Bool}(c:CO P g zs d f)(h:Rt P tab ops nx0 k Q i r ⟨CJ dst (CE (!f&&b) d) s.fr,s.hp,s.nx⟩)(e:Eu s.hp (vs++caps)=some (zs,b,is):=by first |rfl |(refine Z0 ?_;first |trivial |rfl))(j:is= []\/f=true:=by first |exact .inr rfl |exact .inl rfl):Ms P tab ops nx0 k Q i r dst s (.fn g caps) vs:=
 lE (e) c j h
theorem Sk {Q:Ex->St->Prop}{b:Bool}{is:List Nat}{d:D}{f:Bool}(w:F)(c:CO P g zs d f)(h:Rt P tab ops nx0 k Q i r ⟨CJ dst (CE (!f&&b) d) s.fr,s.hp,s.nx⟩)(e:F->Eu s.hp (vs++caps)=some (zs,b,is):=by intro w;first |rfl |(refine Z1 w ?_;first |trivial |rfl))(j:is= []\/f=true:=by first |exact .inr rfl |exact .inl rfl):Ms P tab ops nx0 k Q i r dst s (.fn g caps) vs:=
 lE (e w) c j h
theorem Ax {d:D}{fr b:Bool}{is:List Nat}{v:AV}(c:EJ tab rs s=some v:=by first |(refine Z0 ?_;first |trivial |rfl) |rfl)(e:toR s.hp v=some (d,b,is):=by first |rfl |(refine Z0 ?_;first |trivial |rfl))(j:fr=true->b=false:=by intro h;first |rfl |cases h):Dd tab rs (HA d fr) .ret s:=
 IU c (e) rfl j
theorem XW {d:D}{fr b:Bool}{is:List Nat}{v:AV}(w:F)(c:EJ tab rs s=some v:=by first |(refine Z0 ?_;first |trivial |rfl) |rfl)(e:F->toR s.hp v=some (d,b,is):=by intro w;first |rfl |(refine Z1 w ?_;first |trivial |rfl))(j:fr=true->b=false:=by intro h;first |rfl |cases h):Dd tab rs (HA d fr) .ret s:=
 IU c (e w) rfl j
theorem ZP (c:Ad P tab)(_:P.follows .mixedOrders=true){fn:Func}{d:D}{b:Bool}(e:P.funcs[f]? =some fn)(h:CQ 0 P [.c code] (Dd tab rs (HA d b)) ⟨Dw (ds.map (CE true)),AM,0⟩)(j:fn.results=rs:=by rfl)(l:fn.body=some code:=by rfl)(o:(fn.name== "runtime.NumGoroutine")=false:=by kernel_rfl)(t:D2 fn.ntmps code=true:=by kernel_rfl)(u:Nat.ble ds.length fn.ntmps=true:=by rfl):AI P f ds d b:=by
 subst j;exact vP c e l o t (NM u) h
theorem fg (c:Ad P tab)(_:P.follows .mixedOrders=true){fn:Func}{d:D}{b:Bool}(e:P.funcs[f]? =some fn)(h:CQ 0 P [.c code] (Dd tab rs (M1 d b)) ⟨Dw (zs.map DA.av),AM,0⟩)(j:fn.results=rs:=by rfl)(l:fn.body=some code:=by rfl)(o:(fn.name== "runtime.NumGoroutine")=false:=by kernel_rfl)(t:D2 fn.ntmps code=true:=by kernel_rfl)(u:Nat.ble zs.length fn.ntmps=true:=by rfl):CO P f zs d b:=by
 subst j;exact vt c e l o t (NM u) h
theorem ZB {ρ:Nat->Option Nat}{k j:Nat}{cs ds:List AV}(c:ρ k=some j)(d:hp j=some (.bx ds))(e:ED ρ cs=some ds):∀p,some (AO.bx cs)=some p->∃j b,ρ k=some j/\Cc ρ p=some b/\hp j=some b:=T7 c (uv e) d
theorem ZR {N nx:Nat}{b:Fr}{hp':Hp}(L:List (Nat × Nat))(d:(Nat.ble n N&&T6 n N L)=true:=by rfl)(e:∀t,b t= .un\/CY (lk n L) (b t)=some (fr t):=by repeat' (first |exact Pq _ |refine Yq (by rfl) ?_ |refine Yq (ka (by rfl)) ?_ |refine Yq (kc (by rfl) (by assumption)) ?_))(h:∀i o,hp' i=some o->∃j c,lk n L i=some j/\Cc (lk n L) o=some c/\hp j=some c:=by repeat' (first |exact Pr _ |refine Mx (T7 (by rfl) (by rfl) (by rfl)) ?_ |refine Mx (kb (by rfl) (by rfl)) ?_ |refine Mx (ux (by rfl) (by assumption) (by rfl)) ?_ |refine Mx uy ?_ |refine Mx (ZB (by rfl) (by rfl) (by repeat' (first |exact ut _ |refine cc (by rfl) ?_ |refine cc (ka (by rfl)) ?_ |refine cc (kc (by rfl) (by assumption)) ?_))) ?_)):CH n ⟨b,hp',N⟩ ⟨fr,hp,nx⟩:=Rc L d e h
theorem Y2 (b:A0)(c:A1):A0/\A1:=⟨b,c⟩
theorem Y3 (b:A0)(c:A1)(d:A2):A0/\A1/\A2:=⟨b,c,d⟩
theorem Y4 (b:A0)(c:A1)(d:A2)(e:A3):A0/\A1/\A2/\A3:=⟨b,c,d,e⟩
theorem Y5 {b:Prop}(c:A0)(d:A1)(e:A2)(h:A3)(j:b):A0/\A1/\A2/\A3/\b:=⟨c,d,e,h,j⟩
theorem Y6 {b c:Prop}(d:A0)(e:A1)(h:A2)(j:A3)(l:b)(o:c):A0/\A1/\A2/\A3/\b/\c:=⟨d,e,h,j,l,o⟩
theorem YV {f:α->List D}(h:0<xs.length):∀id b,Ac id b (xs.map f)= .so id b 0 xs.length:=fun _ _=>KC h
theorem YO {f:α->List D}(h:0<xs.length):∀b c d,A6 b c d (xs.map f)=some (.rw (xs.map f) b c d false):=fun _ _ _=>Vz h
theorem Zi {a b:α}(h:some a=some b):a=b:=LM h
end
theorem ZT {Q:Ex->St->Prop}(m:Nat)(h:run Tryz.prog tab (k.take m) (Dg n Tryz.prog (k.drop m) Q) s):CQ n Tryz.prog k Q s:=vO Ep EN m h
theorem Zo (a:α)(f:α->Option β):(some a).bind f=f a:=rfl
theorem Zx {x:α}{C:Prop}(h:none=some x):C:=nomatch h
def kp:List Nat->Fr->Fr->Fr
 |[],_,g=>g
 |a::l,f,g=>upd a (f a) (kp l f g)
def kh:List Nat->Hp->Hp->Hp
 |[],_,g=>g
 |a::l,f,g=>upd a (f a) (kh l f g)
attribute [go_sem] kp kh
section
variable {n:Nat}{P:Program}{k:List It}{Q:Ex->St->Prop}{fr:Fr}{hp:Hp}{nx m:Nat}{a:Code}{E T S G R:Type}{r:R}
theorem Um {X Y:St->Prop}(H:CQ n P [.c a,.lp X] (Dg n P k Q) s)(h:∀s,X s->Y s):CQ n P [.c a,.lp Y] (Dg n P k Q) s:=
 DB.mono (fun e c b=>by cases e with |normal=>exact h _ b |_=>exact b) (show DB n P a (Dg n P [.lp X] (Dg n P k Q)) s from H)
theorem zj {X:Option T}{f:T->Option R}(H:X.bind f=some r)(b:Fr->Hp->T->St)(d:∀y,X=some y->f y=some r->CQ n P [.c a,.lp fun j=>CH n (b fr hp y) j] (Dg n P k Q) ⟨fr,hp,nx⟩)(l:∀y,f y=some r->CQ n P k Q (b fr hp y)):CQ n P (.c a::k) Q ⟨fr,hp,nx⟩:=by
 have⟨e,o,c⟩:=AL H;exact D3 (α:={ y:T // e=y }) (fun y=>b fr hp y.1) (Um (d e o c) fun _ h=>⟨⟨e,rfl⟩,h⟩) fun⟨y,h⟩=>l y (h▸c)
theorem F7 {X:Option T}{f:T->Option R}(H:X.bind f=some r)(b:Fr->Hp->T->G->St)(d:∀y,X=some y->f y=some r->CQ n P [.c a,.lp fun j=>∃g,CH n (b fr hp y g) j] (Dg n P k Q) ⟨fr,hp,nx⟩)(l:∀y g,f y=some r->CQ n P k Q (b fr hp y g)):CQ n P (.c a::k) Q ⟨fr,hp,nx⟩:=by
 have⟨e,o,c⟩:=AL H;exact D3 (α:={ y:T // e=y } × G) (fun y=>b fr hp y.1.1 y.2) (Um (d e o c) fun _ ⟨g,h⟩=>⟨⟨⟨e,rfl⟩,g⟩,h⟩) fun⟨⟨y,h⟩,g⟩=>l y g (h▸c)
theorem zi {X:Option (T ⊕ E)}{f:T ⊕ E->Option R}(H:X.bind f=some r)(b:Fr->Hp->T->St)(d:∀e,X=some e->f e=some r->CQ n P [.c a,.lp fun j=>∃y,e= .inl y/\CH n (b fr hp y) j] (Dg n P k Q) ⟨fr,hp,nx⟩)(l:∀y,f (.inl y)=some r->CQ n P k Q (b fr hp y)):CQ n P (.c a::k) Q ⟨fr,hp,nx⟩:=by
 have⟨e,o,c⟩:=AL H;exact D3 (α:={ y:T // e= .inl y }) (fun y=>b fr hp y.1) (Um (d e o c) fun _ ⟨y,h,t⟩=>⟨⟨y,h⟩,t⟩) fun⟨y,h⟩=>l y (h▸c)
theorem pF {X:Option (T ⊕ E)}{f:T ⊕ E->Option R}(H:X.bind f=some r)(b:Fr->Hp->T->G->St)(d:∀e,X=some e->f e=some r->CQ n P [.c a,.lp fun j=>∃y g,e= .inl y/\CH n (b fr hp y g) j] (Dg n P k Q) ⟨fr,hp,nx⟩)(l:∀y g,f (.inl y)=some r->CQ n P k Q (b fr hp y g)):CQ n P (.c a::k) Q ⟨fr,hp,nx⟩:=by
 have⟨e,o,c⟩:=AL H;exact D3 (α:={ y:T // e= .inl y } × G) (fun y=>b fr hp y.1.1 y.2) (Um (d e o c) fun _ ⟨y,g,h,t⟩=>⟨⟨⟨y,h⟩,g⟩,t⟩) fun⟨⟨y,h⟩,g⟩=>l y g (h▸c)
theorem pG {F:Nat->S->Option E}{e:E}{d:S}(l:F c0 d=some e)(b:Fr->Hp->S->G->St)(j:G)(o:CH n (b fr hp d j) ⟨fr,hp,nx⟩)(t:∀c x g,F (c+1) x=some e->CQ n P [.c a,.lp fun u=>∃y g,F c y=some e/\CH n (b fr hp y g) u] (Dg n P k Q) (b fr hp x g))(z:∀x,F 0 x=none:=by intro _;rfl):CQ n P (.c (.loop a)::k) Q ⟨fr,hp,nx⟩:=by
 refine DQ (α:={ q:(Nat × S) × G // F q.1.1 q.1.2=some e }) (fun q=>b fr hp q.1.1.2 q.1.2) (fun q=>q.1.1.1) ⟨((c0,d),j),l⟩ o ?_;rintro⟨⟨⟨c,x⟩,g⟩,h⟩;cases c with
 |zero=>exact nomatch (z x).symm.trans h
 |succ c=>exact Um (t c x g h) fun _ ⟨y,g,h,v⟩=>⟨⟨((c,y),g),h⟩,v,Ls _⟩
theorem zl {F:Nat->S->Option E}{e:E}{d:S}(j:F c0 d=some e)(b:Fr->Hp->S->St)(l:CH n (b fr hp d) ⟨fr,hp,nx⟩)(o:∀c x,F (c+1) x=some e->CQ n P [.c a,.lp fun t=>∃y,F c y=some e/\CH n (b fr hp y) t] (Dg n P k Q) (b fr hp x))(z:∀x,F 0 x=none:=by intro _;rfl):CQ n P (.c (.loop a)::k) Q ⟨fr,hp,nx⟩:=
 pG j (fun f h s (_:Unit)=>b f h s) () l (fun c x _ h=>Um (o c x h) fun _ ⟨y,h,u⟩=>⟨y,(),h,u⟩) z
theorem EG {F:Nat->S->Option E}{e:E}{d:S}(h:F c0 d=some e)(b:Fr->Hp->S->St)(j:CH n (b fr hp d) ⟨fr,hp,nx⟩)(l:∀c x,F (c+1) x=some e->CQ n P [.c a,.lp fun o=>∃y,F c y=some e/\CH n (b fr hp y) o] (Dg n P (.blk m::k) Q) (b fr hp x))(z:∀x,F 0 x=none:=by intro _;rfl):CQ n P (.c (.block m (.loop a))::k) Q ⟨fr,hp,nx⟩:=
 CS (zl h b j l z)
theorem Ej {F:Nat->S->Option E}{e:E}{d:S}(j:F c0 d=some e)(b:Fr->Hp->S->G->St)(h:G)(l:CH n (b fr hp d h) ⟨fr,hp,nx⟩)(o:∀c x g,F (c+1) x=some e->CQ n P [.c a,.lp fun t=>∃y g,F c y=some e/\CH n (b fr hp y g) t] (Dg n P (.blk m::k) Q) (b fr hp x g))(z:∀x,F 0 x=none:=by intro _;rfl):CQ n P (.c (.block m (.loop a))::k) Q ⟨fr,hp,nx⟩:=
 CS (pG j b h l o z)
end
theorem zI {R:Type}{i:Int}{r:R}{k:Nat}{h:α->Option R}(f:α->β)(H:(CD xs i).bind h=some r)(e:i.toNat=k:=by conv=>lhs;try simp only[Int.reduceToNat,Lk]):∃x,0<=i/\xs[k]? =some x/\(EI (.v (.int .i64 i))=some k/\(xs.map f)[k]? =some (f x))/\h x=some r:=by
 subst e;have⟨x,b,H⟩:=AL H;exact⟨x,(FW b).1,(FW b).2,⟨A8 .i64 (FW b).1,Cr f (FW b).2⟩,H⟩
theorem Hc {R:Type}{i:Int}{r:R}{k:Nat}{h:α->Option R}(H:(CD xs i).bind h=some r)(e:i.toNat=k:=by conv=>lhs;try simp only[Int.reduceToNat,Lk]):∃x,0<=i/\xs[k]? =some x/\h x=some r:=by
 subst e;have⟨x,b,H⟩:=AL H;exact⟨x,(FW b).1,(FW b).2,H⟩
theorem Cg {c:Bool}{a b:Option β}{r:β}{W:Prop}(w:W)(h:(if c then a else b)=some r):((W/\c=true)/\a=some r)\/((W/\c=false)/\b=some r):=by
 rcases As h with⟨e,h⟩ |⟨e,h⟩
 · exact .inl ⟨⟨w,e⟩,h⟩
 · exact .inr ⟨⟨w,e⟩,h⟩
theorem CT {nx:Nat}{b:Fr}(h:∀t,b t= .un\/b t=fr t:=by repeat first |exact MH _ |refine DE rfl ?_):CH n ⟨b,hp,nx⟩ ⟨fr,hp,nx⟩:=.weak ⟨h,fun _=>.inr rfl,Lc _⟩
theorem AP (k:q)(e:q->p:=by intro k;refine ZT 1 ?_;refine Z0 ?_;exact k):p:=e k
theorem Ay (k:q)(e:q->p:=by intro k;refine AT (ZT 1 ?_);refine Z0 ?_;exact k):p:=e k
theorem EE (k:q)(e:q->p:=by intro k;refine AT (ZT 1 ?_);refine Z0 ?_;refine AT (ZT 1 ?_);refine Z0 ?_;exact k):p:=e k
theorem EZ (k:q)(e:q->p:=by intro k;refine AT (AT ?_);refine ZT 1 ?_;refine Z0 ?_;exact k):p:=e k
theorem Ds (w:F)(k:q)(e:F->q->p:=by intro w k;refine Z1 w ?_;refine DF (by rfl) ?_;refine Z1 w ?_;exact k):p:=e w k
theorem Fo (w:F)(k:q)(e:F->q->p:=by intro w k;refine ZT 1 ?_;refine Z1 w ?_;exact k):p:=e w k
theorem KF (k:q)(e:q->p:=by intro k;refine AT (ZT 1 ?_);refine Z0 ?_;refine AT (AT ?_);refine ZT 1 ?_;refine Z0 ?_;exact k):p:=e k
theorem Cw (w:F)(k:q)(e:F->q->p:=by intro w k;refine Z1 w ?_;refine AT (ZT 1 ?_);exact k):p:=e w k
theorem PM (w:F)(k:q)(e:F->q->p:=by intro w k;refine Z1 w ?_;refine AT (CS ?_);refine AT (ZT 1 ?_);exact k):p:=e w k
theorem KG (w:F)(k:q)(e:F->q->p:=by intro w k;refine Z1 w ?_;refine AT (AT ?_);refine ZT 1 ?_;refine Z1 w ?_;exact k):p:=e w k
theorem Fb (w:F)(k:q)(e:F->q->p:=by intro w k;refine Z1 w ?_;refine ZT 1 ?_;refine Z0 ?_;exact k):p:=e w k
theorem Fc (k:q)(e:q->p:=by intro k;refine Z0 ?_;refine ZT 1 ?_;refine Z0 ?_;exact k):p:=e k
theorem Dt (k:q)(e:q->p:=by intro k;refine Z0 ?_;refine AT (ZT 1 ?_);exact k):p:=e k
theorem HL (w:F)(k:q)(e:F->q->p:=by intro w k;refine Z1 w ?_;refine AT (ZT 1 ?_);refine Z1 w ?_;exact k):p:=e w k
theorem K5 (w:F)(k:q)(e:F->q->p:=by intro w k;refine Z1 w ?_;refine ZT 1 ?_;refine Z1 w ?_;exact k):p:=e w k
theorem Qk (k:q)(e:q->p:=by intro k;refine Z0 ?_;refine DF (by rfl) ?_;refine Z0 ?_;exact k):p:=e k
theorem XX (w:F)(k:q)(e:F->q->p:=by intro w k;refine Z1 w ?_;refine AT (CS ?_);refine AT (ZT 1 ?_);refine Z1 w ?_;exact k):p:=e w k
theorem pH (w:F)(k:q)(e:F->q->p:=by intro w k;refine Z1 w ?_;refine DF (by rfl) ?_;refine Z1 w ?_;refine AT (ZT 1 ?_);refine Z1 w ?_;exact k):p:=e w k

theorem zq {fn:Func}{nx:Nat}{R:AV->Hp->Nat->Prop}(b:Tryz.prog.funcs[f]? =some fn)(h:CQ nx Tryz.prog [.c code] (Dd tab fn.results R) ⟨Dw vs,hp,nx⟩)(c:fn.body=some code:=by rfl)(d:(fn.name== "runtime.NumGoroutine")=false:=by kernel_rfl)(e:D2 fn.ntmps code=true:=by kernel_rfl)(j:Nat.ble vs.length fn.ntmps=true:=by rfl):AU Tryz.prog f vs hp nx R:=
 cg Ep b c d e (NM j) h
theorem zr {fn:Func}{nx:Nat}{R:AV->Hp->Nat->Prop}(b:Tryz.prog.funcs[f]? =some fn)(h:run Tryz.prog tab [.c code] (Dd tab fn.results R) ⟨Dw vs,hp,nx⟩)(c:fn.body=some code:=by rfl)(d:(fn.name== "runtime.NumGoroutine")=false:=by kernel_rfl)(e:D2 fn.ntmps code=true:=by kernel_rfl)(j:Nat.ble vs.length fn.ntmps=true:=by rfl):AU Tryz.prog f vs hp nx R:=
 Mu Ep EN b c d e (NM j) h
theorem zz (e:p:=by refine Z0 ?_;first |trivial |rfl):p:=e
theorem zP (rs:Array ResultVar){fn:Func}{d:D}{b:Bool}(c:Tryz.prog.funcs[f]? =some fn)(h:CQ 0 Tryz.prog [.c code] (Dd tab rs (HA d b)) ⟨Dw (ds.map (CE true)),AM,0⟩)(e:fn.results=rs:=by rfl)(j:fn.body=some code:=by rfl)(l:(fn.name== "runtime.NumGoroutine")=false:=by kernel_rfl)(o:D2 fn.ntmps code=true:=by kernel_rfl)(t:Nat.ble ds.length fn.ntmps=true:=by rfl):AI Tryz.prog f ds d b:=
 ZP Ep EN c h e j l o t
structure An where
 t:ByteArray
 rel:ByteArray
 deriving DecidableEq,Inhabited
abbrev Ar (x:An):List D:=[D.v (.string x.t),D.v (.string x.rel)]
structure Ao where
 type_:ByteArray
 rel:ByteArray
 less:Bool
 deriving DecidableEq,Inhabited
abbrev Ae (x:Ao):List D:=[D.v (.string x.type_),D.v (.string x.rel),D.v (.bool x.less)]
end Go.Proofs.YtnmkbmefohakmaaGreat.Ab
