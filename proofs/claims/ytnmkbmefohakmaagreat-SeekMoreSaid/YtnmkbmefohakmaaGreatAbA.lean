/-
 The machine that works with plain values: what it does, how its data stand in memory, its small steps.
-/
import Derived.Calls
import Derived.Tactics
import Derived.Below
import Derived.Laws.AppendOwn
import Derived.WalkKit
import Derived.Laws.Tables
import Derived.Great.BuildSlice
import Derived.Laws.AppendOwnNone
set_option linter.all false
namespace Go.Proofs.YtnmkbmefohakmaaGreat.Ab
set_option linter.defProp false
def La:=@Option.map_eq_some_iff
def Lb:=@List.getElem?_eq_some_iff
def Lc:=@Nat.le_refl
def Ld:=@List.getElem?_eq_getElem
def Le:=@Option.some.injEq
def Lf:=@List.length_append
def Lg:=@List.length_cons
def Lh:=@List.mem_cons_of_mem
def Li:=@Bool.and_eq_true
def Lj:=@List.getElem?_map
def Lk:=@List.map_cons
def Ll:=@Nat.zero_le
def Lm:=@List.mem_cons
def Ln:=@List.mem_singleton
def Lo:=@List.mem_cons_self
def Lp:=@Nat.le_trans
def Lq:=@List.append_assoc
def Lr:=@List.length_singleton
def Ls:=@List.mem_append
def Lt:=@List.mem_of_getElem?
def Lu:=@Prod.mk.injEq
def Lv:=@Int.toNat_natCast
def Lw:=@List.length_take
def Ly:=@List.drop_eq_getElem_cons
def Lz:=@Nat.lt_of_lt_of_le
def LA:=@Array.getElem?_eq_getElem
def LB:=@List.length_nil
def LC:=@List.length_map
def LD:=@List.map_nil
def LE:=@List.nil_append
def LF:=@Nat.lt_succ_self
def LG:=@Array.getD_eq_getD_getElem?
def LH:=@List.mem_map_of_mem
def LI:=@Option.some.inj
def LJ:=@List.cons_append
def LK:=@Nat.not_lt_zero
def LL:=@List.all_eq_true
def LM:=@List.take_append_drop
def LN:=@Array.getElem?_eq_some_iff
def LO:=@Option.map_some
def LP:=@Bool.or_eq_true
def LQ:=@List.mem_map
def LR:=@Nat.mul_le_mul_right
def LS:=@List.mem_append_left
def LT:=@List.not_mem_nil
def LU:=@List.size_toArray
def LV:=@List.getElem?_cons_zero
def LW:=@List.eq_nil_of_length_eq_zero
def LX:=@List.getElem?_eq_none
def LY:=@List.append_nil
def LZ:=@List.mem_append_right
def L8:=@List.getElem?_append_right
def Na:=@List.map_append
def Nb:=@Nat.add_mul
def Nc:=@List.reverse_cons
def Nf:=@Nat.lt_or_ge
def Ng:=@List.nodup_cons
def Nh:=@List.mem_filter
def Ni:=@List.map_congr_left
def Nj:=@Bool.false_and
def Nk:=@List.reverse_nil
def Nl:=@Bool.false_eq_true
def Nm:=@List.any_eq_true
def Nn:=@List.getElem?_take
def Np:=@List.getElem?_toArray
def Nq:=@List.getElem?_append_left
def Nr:=@Array.length_toList
def Ns:=@List.pairwise_append
def Nt:=@List.drop_zero
def Nu:=@Nat.add_assoc
def Nv:=@List.length_drop
def Nw:=@Option.getD_some
def Nx:=@Bool.and_self
def Ny:=@List.take_of_length_le
def Nz:=@List.drop_eq_nil_of_le
def NA:=@List.length_pos_iff
def NB:=@Array.getElem?_append_left
def NC:=@Nat.zero_add
def ND:=@Bool.and_false
def NE:=@List.all_cons
def NF:=@Bool.eq_iff_iff
def NG:=@Bool.true_and
def NH:=@Option.isSome_iff_exists
def NI:=@Nat.le_of_ble_eq_true
def NJ:=@Bool.not_eq_true'
def NK:=@List.all_nil
def NL:=@List.drop_of_length_le
def NM:=@Function.comp_def
def NN:=@Array.getElem?_toList
def NO:=@List.map_set
def NP:=@List.length_filter_le
def NQ:=@List.getElem?_drop
def NR:=@Option.bind_some
def NS:=@Nat.add_zero
def NT:=@Nat.blt_eq
def NU:=@List.mem_iff_getElem?
def NV:=@List.getElem_mem
def NW:=@Nat.le_add_right
def NX:=@List.drop_length
def NY:=@List.mem_range
def NZ:=@List.nodup_nil
def N3:=@List.getElem?_replicate
def N6:=@List.length_eq_zero_iff
def N7:=@Array.getElem?_eq_none
def N8:=@List.map_map
def N9:=@Array.getElem?_modify
def Ba:=@List.foldl_cons
def Bb:=@List.length_set
def Bc:=@List.ext_getElem?
def Bd:=@List.getElem?_set
def Be:=@List.map_take
def Bg:=@List.getElem?_range
def Bh:=@List.length_reverse
def Bi:=@List.dropLast_concat_getLast
def Bj:=@Nat.le_succ
def Bk:=@Nat.one_mul
def Bl:=@Array.getElem?_append_right
def Bm:=@List.contains_iff_mem
def Bn:=@List.take_add_one
def Bo:=@List.getElem?_append
def Bp:=@Classical.byContradiction
def Br:=@Nat.ble_eq
def Bs:=@List.mem_or_eq_of_mem_set
def Bu:=@Int.le_refl
def Bv:=@Nat.mul_comm
def Bw:=@Int.le_trans
def Bx:=@List.take_length
def By:=@Array.getElem?_setIfInBounds_ne
def BA:=@List.getElem?_cons_succ
def BB:=@List.pairwise_singleton
def BC:=@Array.eq_empty_of_size_eq_zero
def BD:=@Array.getElem?_map
def BE:=@UInt8.toNat_inj
def BF:=@Nat.eq_zero_or_pos
def BG:=@Nat.lt_of_le_of_lt
def BH:=@List.zipWith_cons_cons
def BI:=@List.nodup_append
def BJ:=@Nat.zero_mul
def BK:=@Nat.le_of_lt
def BL:=@Nat.mul_le_mul
def BM:=@Nat.add_comm
def BN:=@Nat.mod_eq_of_lt
def BO:=@List.getElem?_set_ne
def BP:=@Nat.eq_of_mul_eq_mul_right
def BQ:=@Bool.not_true
def BR:=@Nat.add_mul_mod_self_right
def BS:=@Array.getElem?_setIfInBounds_self_of_lt
def BT:=@Bool.false_or
def BU:=@List.getD_eq_getElem?_getD
def BV:=@List.sum_cons
def BW:=@Prod.mk.inj
def BX:=@List.flatten_append
def BY:=@List.filter_eq_self
def BZ:=@Nat.min_eq_left
def B0:=@List.pairwise_iff_getElem
def B5:=@List.ne_nil_of_length_pos
def B6:=@Nat.sub_self
def B7:=@Nat.sub_zero
def B8:=@List.getElem?_take_of_lt
def B9:=@Array.size_append
def Oa:=@Nat.lt_trichotomy
def Ob:=@List.mem_flatMap
def Oc:=@Array.all_eq_true_iff_forall_mem
def Od:=@List.isEmpty_iff
def Oe:=@Array.mem_of_getElem?
def Og:=@Nat.mod_lt
def Oh:=@Array.getElem?_range
def Oi:=@List.toList_toArray
def Oj:=@List.take_succ_cons
def Ok:=@Bool.and_assoc
def Ol:=@List.drop_drop
def Om:=@List.mem_filterMap
def On:=@Option.toList_some
def Oo:=@List.set_cons_zero
def Oq:=@Int.natCast_nonneg
def Ot:=@List.pairwise_cons
def Ou:=@Array.toList_setIfInBounds
def Ov:=@Bool.and_true
def Ow:=@List.getElem?_eq_none_iff
def Ox:=@Bool.true_or
def Oy:=@Nat.le_of_not_lt
def Oz:=@Nat.succ_mul
def OA:=@List.filter_cons
def OB:=@List.mem_reverse
def OC:=@Nat.lt_trans
def OD:=@Array.ext
def OE:=@List.range_succ
def OF:=@List.head?_drop
def OG:=@Array.getElem?_extract
def OH:=@List.reverse_singleton
def OI:=@List.length_eq_one_iff
def OJ:=@Bool.not_false
def OL:=@List.length_replicate
def OM:=@List.singleton_append
def ON:=@List.take_zero
def OO:=@Classical.choose_spec
def OP:=@Nat.eq_of_beq_eq_true
def OQ:=@List.set_append_right
def OR:=@List.perm_append_comm
def OS:=@List.Perm.append_left
def OT:=@UInt8.lt_iff_toNat_lt
def OU:=@List.getElem?_zipIdx
def OV:=@Nat.div_lt_of_lt_mul
def OW:=@Array.toList_extract
def OX:=@List.mem_erase_of_ne
def OY:=@List.map_drop
def OZ:=@List.cons.inj
def O0:=@Array.getElem?_push
def O1:=@Array.toList_append
def O2:=@List.drop_succ_cons
def O3:=@List.reverse_append
def O4:=@Array.append_assoc
def O5:=@Array.all_eq_true'
def O6:=@Bool.or_true
def O7:=@List.getElem_range
def O8:=@Nat.add_right_comm
def O9:=@List.set_cons_succ
def Ia:=@Option.isSome_some
def Ib:=@List.ne_nil_of_mem
def Ic:=@Bool.not_eq_false'
def Id:=@Nat.add_sub_cancel
def Ie:=@Array.extract_size
def If:=@List.flatMap_cons
def Ig:=@List.filter_congr
def Ih:=@List.any_eq_false
def Ii:=@List.map_id
def Ij:=@List.zipIdx_cons
def Ik:=@Nat.div_eq_of_lt
def Il:=@List.nodup_range
def In:=@List.flatMap_nil
def Io:=@List.mem_flatten
def Ip:=@List.perm_middle
def Iq:=@Array.ext'
section
inductive D where
 |v (x:Value)
 |sl (es:List (List D))
 |pt (cs:List D) (off:Nat)
 |mp (es:List (Value × Bool × List D))
 |ag (cs:List D)
 |tu (vs:List D)
 deriving Inhabited
inductive AV where
 |v (x:Value)
 |d (x:D) (b:Bool)
 |ag (cs:List AV)
 |tu (vs:List AV)
 |pt (id off:Nat)
 |pr (id ver i off:Nat)
 |so (id ver off len:Nat)
 |mo (id:Nat)
 |fn (f:FuncId) (caps:List AV)
 |un
 deriving Inhabited
inductive AO where
 |bx (cs:List AV)
 |rw(es:List (List D)) (sz ver:Nat) (br fz:Bool)
 |mo (es:List (Value × AV)) (dl:Bool)
 deriving Inhabited
inductive TK where
 |other |slice |struct |array (n:Nat) |string |int (k:IntKind) |map |bool |ptr
 deriving DecidableEq,Inhabited
structure TI where
 ok:Bool:=false
 kind:TK:=.other
 size:Nat:=1
 bytes:Nat:=8
 offs:List (Nat × Nat):=[]
 elem:Nat:=0
 zero:List Value:=[]
 flat:Option (List TK):=none
 mkey:Option (Bool × List TK):=none
 deriving Inhabited
def TI.agg (t:TI):Bool:=match t.kind with | .struct | .array _=>true |_=>false
def upd {α:Type}(k:Nat)(x:α)(f:Nat->α):Nat->α:=fun j=>if j=k then x else f j
abbrev Fr:=Nat->AV
abbrev Hp:=Nat->Option AO
structure St where
 fr:Fr
 hp:Hp
 nx:Nat
def Av:List (Nat × AO)->Hp->Hp
 |[],h=>h
 |(k,o)::r,h=>Av r (upd k (some o) h)
def AQ:Fr:=fun _=>.un
def AS:Hp:=fun _=>none
def Aw (b:Bool):D->AV
 | .v x=>.v x
 |d=>.d d b
def KK:Value->AV
 | .agg cs=>if cs.toList.all (·.oneCell') then .ag (cs.toList.map AV.v) else .un
 | .tuple _=>.un
 |x=>.v x
def ev (fr:Fr):Operand->AV
 | .tmp t=>fr t
 | .const x=>KK x
 | .func f=>.fn f []
 | .global _=>.un
def De:AV->Option (List AV)
 | .ag cs=>some cs
 | .d (.ag cs) b=>some (cs.map (Aw b))
 | .d (.tu _) _ | .tu _ | .un=>none
 |x=>some [x]
def Ff:AV->Option (List AV)
 | .ag cs=>some cs
 | .d (.ag cs) b=>some (cs.map (Aw b))
 |_=>none
def GO:D->List D
 | .ag cs=>cs
 |x=>[x]
def V1:D->Bool
 | .v _=>true
 |_=>false
def I7 (cs:List D):Bool:=cs.all V1
def JN (es:List (List D)):Bool:=es.all I7
def CS (hp:Hp):AV->Option (D × Bool × List Nat)
 | .v (.slice none 0 0)=>some (.sl [],false,[])
 | .v x=>some (.v x,false,[])
 | .d (.ag _) _ | .d (.tu _) _=>none
 | .d x b=>some (x,b,[])
 | .so id ver off n=>match hp id with
  |some (.rw es _ v br _)=>if v=ver then some (.sl ((es.drop off).take n),br,[id]) else none
  |_=>none
 |_=>none
def DE (hp:Hp):List AV->Option (List D × Bool × List Nat)
 |[]=>some ([],false,[])
 |c::r=>match CS hp c,DE hp r with
  |some (d,b,i),some (ds,b',i')=>some (d::ds,b||b',i++i')
  |_,_=>none
def EP (hp:Hp):AV->Option (D × Bool × List Nat)
 | .ag cs=>(DE hp cs).map fun(ds,b,i)=>(.ag ds,b,i)
 | .d (.ag cs) b=>some (.ag cs,b&& !I7 cs,[])
 |x=>CS hp x
def CT (hp:Hp):List AV->Option (List D × Bool × List Nat)
 |[]=>some ([],false,[])
 |c::r=>match EP hp c,CT hp r with
  |some (d,b,i),some (ds,b',i')=>some (d::ds,b||b',i++i')
  |_,_=>none
def toR (hp:Hp):AV->Option (D × Bool × List Nat)
 | .tu cs=>(CT hp cs).map fun(ds,b,i)=>(.tu ds,b,i)
 |x=>EP hp x
def frz (hp:Hp):List Nat->List (Nat × AO)
 |[]=>[]
 |i::r=>match hp i with
  |some (.rw es sz v br _)=>(i,.rw es sz v br true)::frz hp r
  |_=>frz hp r
def H0 (i:Nat):List Nat->Bool
 |[]=>true
 |j::r=>if i=j then false else H0 i r
def Ct {α:Type}(i:Nat)(xs ys:List α):List α:=ys.take i++xs++ys.drop (i+xs.length)
def sub {α:Type}(i n:Nat)(xs:List α):Option (List α):=if i+n<=xs.length then some ((xs.drop i).take n) else none
def JO (op:BinOp)(k:IntKind)(a b:Int):Option Value:=
 match op with
 | .add=>some (.int k (k.wrap (a+b)))
 | .sub=>some (.int k (k.wrap (a-b)))
 | .mul=>some (.int k (k.wrap (a*b)))
 | .quo=>if b=0 then none else some (.int k (k.wrap (a.tdiv b)))
 | .rem=>if b=0 then none else some (.int k (a.tmod b))
 | .and=>some (.int k (k.wrap (BitVec.ofInt k.bits a &&& BitVec.ofInt k.bits b).toNat))
 | .or=>some (.int k (k.wrap (BitVec.ofInt k.bits a ||| BitVec.ofInt k.bits b).toNat))
 | .xor=>some (.int k (k.wrap (BitVec.ofInt k.bits a^^^BitVec.ofInt k.bits b).toNat))
 | .andNot=>some (.int k (k.wrap (BitVec.ofInt k.bits a &&& ~~~BitVec.ofInt k.bits b).toNat))
 | .lss=>some (.bool (decide (a<b)))
 | .leq=>some (.bool (decide (a<=b)))
 | .gtr=>some (.bool (decide (a > b)))
 | .geq=>some (.bool (decide (a>=b)))
 | .eql=>some (.bool (a==b))
 | .neq=>some (.bool (a != b))
 |_=>none
def Km (op:BinOp)(a b:ByteArray):Option Value:=
 match op with
 | .add=>if a.size+b.size<=maxLen then some (.string (a++b)) else none
 | .eql=>some (.bool (a.toList==b.toList))
 | .neq=>some (.bool !(a.toList==b.toList))
 | .lss=>some (.bool (Op.bytesLess a.toList b.toList))
 | .leq=>some (.bool (Op.bytesLess a.toList b.toList||a.toList==b.toList))
 | .gtr=>some (.bool !(Op.bytesLess a.toList b.toList||a.toList==b.toList))
 | .geq=>some (.bool !(Op.bytesLess a.toList b.toList))
 |_=>none
def F1 (op:BinOp):Value->Value->Option Value
 | .int k a,.int k' b=>match op with
  | .shl=>if b<0 then none else some (.int k (k.wrap (a*2^(min b.toNat k.bits))))
  | .shr=>if b<0 then none else some (.int k (a.fdiv (2^(min b.toNat k.bits))))
  |_=>if k=k' then JO op k a b else none
 | .string a,.string b=>Km op a b
 |_,_=>none
def H9 (tab:Nat->TI)(T:Nat)(op:BinOp):Value->Value->Option Value
 | .slice none 0 0,.slice none 0 0=>if (tab T).kind= .slice then match op with
  | .eql=>some (.bool true)
  | .neq=>some (.bool false)
  |_=>none else none
 | .pointer none,.pointer none=>if (tab T).kind= .ptr then match op with
  | .eql=>some (.bool true)
  | .neq=>some (.bool false)
  |_=>none else none
 |x,y=>F1 op x y
def F2:TK->Value->Value->Option Bool
 | .int k,.int k' a,.int k'' b=>if k=k'/\k=k'' then some (a==b) else none
 | .string,.string a,.string b=>some (a==b)
 | .bool,.bool a,.bool b=>some (a==b)
 |_,_,_=>none
def Dy:List TK->List Value->List Value->Option Bool
 |[],[],[]=>some true
 |k::ks,x::xs,y::ys=>match F2 k x y,Dy ks xs ys with
  |some b,some c=>some (b&&c)
  |_,_=>none
 |_,_,_=>none
def I8:List AV->Option (List Value)
 |[]=>some []
 | .v x::r=>(I8 r).map (x:: ·)
 |_=>none
def FZ:AV->Bool
 | .ag _ | .tu _ | .un | .d (.ag _) _ | .d (.tu _) _=>false
 |_=>true
def RY:AV->Bool
 | .pt _ _ | .pr _ _ _ _ | .d (.pt _ _) _=>true
 |_=>false
def V2:AV->Bool
 | .d (.sl (_::_)) _=>true
 |_=>false
def Kn:AV->Bool
 | .mo _=>true
 |_=>false
def RZ:BinOp->Option AV
 | .eql=>some (.v (.bool false))
 | .neq=>some (.v (.bool true))
 |_=>none
def Ma (tab:Nat->TI)(op:BinOp)(T:Nat)(x y:AV):Option AV:=
 match x,y with
 | .v (.bool a),.v (.bool b)=>match (tab T).kind,op with
  | .bool,.eql=>some (.v (.bool (a==b)))
  | .bool,.neq=>some (.v (.bool !(a==b)))
  |_,_=>none
 | .v a,.v b=>(H9 tab T op a b).map .v
 |x,.v (.pointer none)=>if RY x/\(tab T).kind= .ptr then match op with
  | .eql=>some (.v (.bool false))
  | .neq=>some (.v (.bool true))
  |_=>none else none
 |x,.v (.slice none 0 0)=>if V2 x/\(tab T).kind= .slice then RZ op else none
 |x,.v (.map none)=>if Kn x/\(tab T).mkey.isSome then RZ op else none
 |x,y=>match (tab T).flat,Ff x,Ff y with
  |some ks,some cs,some ds=>match I8 cs,I8 ds with
   |some xs,some ys=>match Dy ks xs ys with
    |some b=>match op with
     | .eql=>some (.v (.bool b))
     | .neq=>some (.v (.bool !b))
     |_=>none
    |none=>none
   |_,_=>none
  |_,_,_=>none
def FJ (tab:Nat->TI)(hp:Hp)(op:BinOp)(T:Nat)(x y:AV):Option AV:=
 match x,y with
 | .so i v _ _,.v (.slice none 0 0)=>match hp i with
  |some (.rw _ _ ver _ _)=>if v=ver/\(tab T).kind= .slice then RZ op else none
  |_=>none
 |x,y=>Ma tab op T x y
def V3:AV->Option Int
 | .v (.int _ n)=>some n
 |_=>none
def D8 (x:AV):Option Nat:=match V3 x with
 |some n=>if 0<=n then some n.toNat else none
 |none=>none
def HM (ρ:Operand->AV)(len:Nat)(lo hi:Option Operand):Option (Nat × Nat):=
 match (match lo with |none=>some 0 |some o=>D8 (ρ o)),(match hi with |none=>some len |some o=>D8 (ρ o)) with
 |some l,some h=>if l<=h/\h<=len then some (l,h) else none
 |_,_=>none
def KL (offs:List (Nat × Nat))(ρ:Operand->AV):List AV->List (Nat × Operand)->Option (List AV)
 |cs,[]=>some cs
 |cs,(i,x)::r=>match offs[i]?,De (ρ x) with
  |some (off,n),some xs=>if xs.length=n/\off+n<=cs.length then KL offs ρ (Ct off xs cs) r else none
  |_,_=>none
def Fg (hp:Hp):AV->Option (List (List D) × Bool × List Nat)
 | .d (.sl ys) b=>some (ys,b&& !JN ys,[])
 | .so id v off n=>match hp id with
  |some (.rw es _ ver br _)=>if v=ver then some ((es.drop off).take n,br,[id]) else none
  |_=>none
 | .v (.slice none 0 0)=>some ([],false,[])
 |_=>none
def ED (sz:Nat)(es:List (List D)):Bool:=es.all fun e=>e.length==sz
def Ko (k:Nat):AV->Option AV
 | .pt i o=>some (.pt i (o+k))
 | .d (.pt cs o) b=>some (.d (.pt cs (o+k)) b)
 | .pr i ver r o=>some (.pr i ver r (o+k))
 |_=>none
def JP (tab:Nat->TI)(T:Nat)(x:AV)(i:Option Nat):Option (AV × List (Nat × AO)):=
 match (tab T).kind,i with
 | .array len,some n=>if n<len then(Ko (n*(tab (tab T).elem).size) x).map fun v=>(v,[]) else none
 |_,_=>none
def Fh:AV->Bool
 | .tu _ | .d (.tu _) _=>false
 |_=>true
def EQ (x:AV):Option Value:=
 match Ff x with
 |some cs=>(I8 cs).map fun xs=>.agg xs.toArray
 |none=>match x with
  | .v y=>some y
  |_=>none
def Pf:TK->Value->Bool
 | .int k,.int k' _=>k==k'
 | .string,.string _=>true
 | .bool,.bool _=>true
 |_,_=>false
def Fi:List TK->List Value->Bool
 |[],[]=>true
 |k::ks,x::xs=>Pf k x&&Fi ks xs
 |_,_=>false
def F3:Bool × List TK->Value->Bool
 |(true,ks),.agg xs=>Fi ks xs.toList
 |(false,[k]),x=>Pf k x
 |_,_=>false
def JQ:Bool × List TK->Value->Value->Option Bool
 |(true,ks),.agg xs,.agg ys=>Dy ks xs.toList ys.toList
 |(false,[k]),x,y=>F2 k x y
 |_,_,_=>none
def I9 (q:Bool × List TK)(x:Value):List Value->Option (Option Nat)
 |[]=>some none
 |y::r=>match JQ q x y with
  |some true=>some (some 0)
  |some false=>match I9 q x r with
   |some (some i)=>some (some (i+1))
   |o=>o
  |none=>none
def Dm (q:Bool × List TK)(x:Value):List (Value × AV)->Option (Option (Nat × AV))
 |[]=>some none
 |(y,v)::r=>match JQ q x y with
  |some true=>some (some (0,v))
  |some false=>match Dm q x r with
   |some (some (i,v))=>some (some (i+1,v))
   |o=>o
  |none=>none
def EF (b:Bool):Bool × List D->AV
 |(true,cs)=>.d (.ag cs) b
 |(false,[c])=>Aw b c
 |(false,_)=>.un
def Et (b:Bool)(es:List (Value × Bool × List D)):List (Value × AV):=es.map fun p=>(p.1,EF b p.2)
def JS:Value->D
 | .slice none 0 0=>.sl []
 |x=>.v x
def Mb (b:Bool)(t:TI):AV:=match t.agg,t.zero with
 |false,[.slice none 0 0]=>.v (.slice none 0 0)
 |a,z=>EF b (a,z.map JS)
def IA (t:TI):Option AV:=if t.agg then some (.ag (t.zero.map AV.v)) else match t.zero with
 |[z]=>some (.v z)
 |_=>none
def EG (q:Bool × List TK)(k:Value)(v:AV)(es:List (Value × AV)):Option (List (Value × AV)):=match Dm q k es with
 |some (some (i,_))=>some (es.set i (k,v))
 |some none=>some (es++[(k,v)])
 |none=>none
def HN (tab:Nat->TI)(T:Nat)(x:Option (List AV))(i:Option Nat):Option (AV × List (Nat × AO)):=
 match (tab T).kind,x,i with
 | .array len,some cs,some n=>if n<len then
   (if (tab (tab T).elem).agg then(sub (n*(tab (tab T).elem).size) (tab (tab T).elem).size cs).map fun c=>(.ag c,[]) else(cs[n*(tab (tab T).elem).size]?).map fun c=>(c,[])) else none
 |_,_,_=>none
def GV (tab:Nat->TI)(id T T':Nat)(x:AV)(n:Option Nat):Option (AV × List (Nat × AO)):=
 match (tab T').kind,x,n with
 | .int _,.v (.slice none 0 0),some n=>if (tab T).kind= .slice/\(tab (tab T).elem).ok/\0<(tab (tab T).elem).size/\(tab (tab T).elem).bytes<=32768/\0<n/\n<=4294967296 then
   some (.so id 0 0 n,[(id,.rw (List.replicate n ((tab (tab T).elem).zero.map D.v)) (tab (tab T).elem).size 0 false false)]) else none
 |_,_,_=>none
def Kq:List (List D)->Option (List UInt8)
 |[]=>some []
 |[.v (.int .u8 n)]::r=>(Kq r).map fun l=>UInt8.ofNat n.toNat::l
 |_::_=>none
def CB (tab:Nat->TI)(ρ:Operand->AV)(hp:Hp)(id:Nat):Op->Option (AV × List (Nat × AO))
 | .move x | .assign x=>some (ρ x,[])
 | .pick c a b=>match ρ c with
  | .v (.bool t)=>some (if t then ρ a else ρ b,[])
  |_=>none
 | .alloc T=>if (tab T).ok then some (.pt id 0,[(id,.bx ((tab T).zero.map AV.v))]) else none
 | .box _ x=>(De (ρ x)).map fun cs=>(.pt id 0,[(id,.bx cs)])
 | .build T ps=>if (tab T).ok/\(tab T).agg then(KL (tab T).offs ρ ((tab T).zero.map AV.v) ps.toList).map fun cs=>(.ag cs,[]) else none
 | .load T x=>if (tab T).ok then match ρ x with
  | .pt i off=>match hp i with
   |some (.bx cs)=>if (tab T).agg then(sub off (tab T).size cs).map fun c=>(.ag c,[]) else(cs[off]?).map fun c=>(c,[])
   |_=>none
  | .d (.pt cs off) b=>if (tab T).agg then(sub off (tab T).size cs).map fun c=>(.d (.ag c) b,[]) else(cs[off]?).map fun c=>(Aw b c,[])
  | .pr i ver k off=>match hp i with
   |some (.rw es _ v br _)=>if v=ver then match es[k]? with
     |some cs=>if (tab T).agg then(sub off (tab T).size cs).map fun c=>(.d (.ag c) br,[]) else(cs[off]?).map fun c=>(Aw br c,[])
     |none=>none
    else none
   |_=>none
  |_=>none else none
 | .store T x y=>if (tab T).ok then match ρ x,De (ρ y) with
  | .pt i off,some xs=>match hp i with
   |some (.bx cs)=>if xs.length=(tab T).size/\off+xs.length<=cs.length then some (.un,[(i,.bx (Ct off xs cs))]) else none
   |_=>none
  | .pr i ver k off,some xs=>match hp i,DE hp xs with
   |some (.rw es sz v br false),some (ds,b,is)=>match es[k]? with
    |some cs=>if ver=v/\xs.length=(tab T).size/\off+xs.length<=cs.length/\H0 i is=true then some (.un,frz hp is++[(i,.rw (es.set k (Ct off ds cs)) sz v (br||b) false)]) else none
    |none=>none
   |_,_=>none
  |_,_=>none else none
 | .nilCheck x=>if RY (ρ x) then some (ρ x,[]) else none
 | .binOp op T x y _=>(FJ tab hp op T (ρ x) (ρ y)).map fun v=>(v,[])
 | .unOp op _ x=>match op,ρ x with
  | .not,.v (.bool b)=>some (.v (.bool !b),[])
  | .neg,.v (.int k n)=>some (.v (.int k (k.wrap (0-n))),[])
  |_,_=>none
 | .convert s t x=>match (tab s).ok,(tab t).kind,ρ x with
  |true,.int k,.v (.int _ n)=>some (.v (.int k (k.wrap n)),[])
  |true,.string,.v (.string s)=>some (.v (.string s),[])
  |true,.string,.d (.sl es) _=>if (tab s).kind= .slice/\(tab (tab s).elem).kind= .int .u8/\0<es.length then(Kq es).map fun bs=>(.v (.string ⟨bs.toArray⟩),[]) else none
  |_,_,_=>none
 | .fieldAddr T x f=>if (tab T).kind= .struct then match (tab T).offs[f]? with
  |some (off,n)=>if n=0 then none else match ρ x with
   | .pt i o=>some (.pt i (o+off),[])
   | .d (.pt cs o) b=>some (.d (.pt cs (o+off)) b,[])
   | .pr i ver k o=>some (.pr i ver k (o+off),[])
   |_=>none
  |none=>none else none
 | .indexAddr T x i=>if (tab T).kind= .slice then match ρ x,D8 (ρ i) with
  | .d (.sl es) b,some n=>match es[n]? with
   |some cs=>if (tab (tab T).elem).ok/\cs.length=(tab (tab T).elem).size then some (.d (.pt cs 0) b,[]) else none
   |none=>none
  | .so i ver off len,some n=>match hp i with
   |some (.rw _ sz v _ _)=>if n<len/\ver=v/\(tab (tab T).elem).ok/\sz=(tab (tab T).elem).size then some (.pr i ver (off+n) 0,[]) else none
   |_=>none
  |_,_=>none else JP tab T (ρ x) (D8 (ρ i))
 | .index T x i=>if (tab T).kind= .string then match ρ x,D8 (ρ i) with
  | .v (.string s),some n=>(s[n]?).map fun b=>(.v (.int .u8 b.toNat),[])
  |_,_=>none else HN tab T (Ff (ρ x)) (D8 (ρ i))
 | .slice T x lo hi none=>match (tab T).kind,ρ x with
  | .string,.v (.string s)=>(HM ρ s.size lo hi).map fun p=>(.v (.string (s.extract p.1 p.2)),[])
  | .slice,.d (.sl es) b=>if (tab (tab T).elem).ok/\ED (tab (tab T).elem).size es then(HM ρ es.length lo hi).map fun p=>(.d (.sl ((es.take p.2).drop p.1)) b,[]) else none
  | .slice,.so i ver off len=>match HM ρ len lo hi,hp i with
   |some (l,h),some (.rw _ sz v _ _)=>if ver=v/\(tab (tab T).elem).ok/\sz=(tab (tab T).elem).size then(if l=0\/l<len then some (.so i ver (off+l) (h-l),[]) else some (.d (.sl []) false,[])) else none
   |_,_=>none
  | .slice,.v (.slice none 0 0)=>if (tab (tab T).elem).ok then(HM ρ 0 lo hi).map fun _=>(.v (.slice none 0 0),[]) else none
  |_,_=>none
 | .extract x i=>match ρ x with
  | .tu vs=>(vs[i]?).map fun v=>(v,[])
  | .d (.tu ds) b=>(ds[i]?).map fun d=>(Aw b d,[])
  |_=>none
 | .makeFunc (.func f) first caps=>if first.size=0/\(caps.toList.map ρ).all FZ then some (.fn f (caps.toList.map ρ),[]) else none
 | .buildSlice T n ps=>if (tab T).kind= .slice/\ps.toList.map (·.1)=List.range n/\(tab (tab T).elem).ok/\0<(tab (tab T).elem).size/\n*(tab (tab T).elem).size<=16777216 then
   match CT hp (ps.toList.map fun p=>ρ p.2) with
   |some (ds,b,is)=>if ED (tab (tab T).elem).size (ds.map GO) then some (.so id 0 0 n,frz hp is++[(id,.rw (ds.map GO) (tab (tab T).elem).size 0 b false)]) else none
   |none=>none
  else none
 | .call { callee:=.builtin .len,args,argTypes }=>match args.toList,argTypes.toList with
  |[x],[T]=>match (tab T).kind,ρ x with
   | .slice,.d (.sl es) _=>some (.v (.int .i64 es.length),[])
   | .slice,.so _ _ _ n=>some (.v (.int .i64 n),[])
   | .slice,.v (.slice none 0 0)=>some (.v (.int .i64 0),[])
   | .string,.v (.string s)=>some (.v (.int .i64 s.size),[])
   |_,_=>none
  |_,_=>none
 | .call { callee:=.builtin .append,args,argTypes }=>match args.toList,argTypes.toList with
  |[x,y],[T,T']=>if T=T'/\(tab T).kind= .slice/\(tab (tab T).elem).ok/\0<(tab (tab T).elem).size then
   match Fg hp (ρ y),ρ x with
   |some (ys,b,_),.v (.slice none 0 0)=>
    if ED (tab (tab T).elem).size ys/\(tab (tab T).elem).bytes<=32768/\ys.length<=4294967296 then
     if ys.length=0 then some (.v (.slice none 0 0),[]) else some (.so id 0 0 ys.length,[(id,.rw ys (tab (tab T).elem).size 0 b false)])
    else none
   |some (ys,b,_),.so i v off n=>match hp i with
    |some (.rw es sz ver br false)=>
     if v=ver/\off=0/\n<=es.length/\sz=(tab (tab T).elem).size/\ED sz ys/\(tab (tab T).elem).bytes<=32768/\n+ys.length<=4294967296 then
      some (.so i (ver+1) 0 (n+ys.length),[(i,.rw (es.take n++ys) sz (ver+1) (br||b) false)]) else none
    |_=>none
   |_,_=>none
  else GV tab id T T' (ρ x) (D8 (ρ y))
  |_,_=>none
 | .makeMap T none=>match (tab T).mkey with
  |some _=>some (.mo id,[(id,.mo [] false)])
  |none=>none
 | .lookup T x k ok=>match (tab T).mkey,EQ (ρ k),IA (tab (tab T).elem) with
  |some q,some kv,some z=>if F3 q kv then match ρ x with
   | .mo i=>match hp i with
    |some (.mo es _)=>match Dm q kv es with
     |some none=>some (if ok then .tu [z,.v (.bool false)] else z,[])
     |some (some (_,v))=>some (if ok then .tu [v,.v (.bool true)] else v,[])
     |none=>none
    |_=>none
   | .d (.mp es) b=>match Dm q kv (Et b es) with
    |some none=>some (if ok then .tu [Mb b (tab (tab T).elem),.v (.bool false)] else Mb b (tab (tab T).elem),[])
    |some (some (_,v))=>some (if ok then .tu [v,.v (.bool true)] else v,[])
    |none=>none
   | .v (.map none)=>some (if ok then .tu [z,.v (.bool false)] else z,[])
   |_=>none else none
  |_,_,_=>none
 | .mapUpdate T m k x | .insert T m k x=>match (tab T).mkey,EQ (ρ k) with
  |some q,some kv=>if F3 q kv/\Fh (ρ x) then match ρ m with
   | .mo i=>match hp i with
    |some (.mo es dl)=>(EG q kv (ρ x) es).map fun es'=>(.un,[(i,.mo es' dl)])
    |_=>none
   |_=>none else none
  |_,_=>none
 | .mapEntry T m k=>match (tab T).mkey,EQ (ρ k),IA (tab (tab T).elem) with
  |some q,some kv,some z=>if F3 q kv then match ρ m with
   | .mo i=>match hp i with
    |some (.mo es false)=>match Dm q kv es with
     |some none=>some (.tu [z,.v (.int .i64 es.length)],[(i,.mo (es++[(kv,z)]) false)])
     |some (some (j,v))=>some (.tu [v,.v (.int .i64 j)],[(i,.mo (es.set j (kv,v)) false)])
     |none=>none
    |_=>none
   |_=>none else none
  |_,_,_=>none
 | .entryStore _ m st x=>match ρ m,D8 (ρ st) with
  | .mo i,some j=>if Fh (ρ x) then match hp i with
   |some (.mo es false)=>match es[j]? with
    |some (k,_)=>some (.un,[(i,.mo (es.set j (k,ρ x)) false)])
    |none=>none
   |_=>none else none
  |_,_=>none
 | .call { callee:=.builtin .delete, .. }=>none
 | .makeSlice T l c=>if (tab T).kind= .slice/\(tab (tab T).elem).ok/\0<(tab (tab T).elem).size/\(tab (tab T).elem).bytes<=32768 then match D8 (ρ l),D8 (ρ c) with
  |some n,some m=>if n<=m/\m<=4294967296 then some (.so id 0 0 n,[(id,.rw (List.replicate n ((tab (tab T).elem).zero.map D.v)) (tab (tab T).elem).size 0 false false)]) else none
  |_,_=>none
  else none
 | .call { callee:=.builtin .min,args, .. }=>match args.toList with
  |[x,y]=>match ρ x,ρ y with
   | .v (.int k a),.v (.int _ b)=>some (.v (.int k (if b<a then b else a)),[])
   |_,_=>none
  |_=>none
 | .call { callee:=.builtin .max, .. }=>none
 | .call { callee:=.builtin .clear,args,argTypes }=>match args.toList,argTypes.toList with
  |[x],[T]=>if (tab T).kind= .slice/\(tab (tab T).elem).ok/\0<(tab (tab T).elem).size then match ρ x with
   | .v (.slice none 0 0)=>some (.tu [],[])
   | .so i ver off n=>match hp i with
    |some (.rw es sz v br false)=>if ver=v/\sz=(tab (tab T).elem).size/\off+n<=es.length then
      (if n=0 then some (.tu [],[]) else some (.tu [],[(i,.rw (es.take off++List.replicate n ((tab (tab T).elem).zero.map D.v)++es.drop (off+n)) sz v br false)])) else none
    |_=>none
   |_=>none else none
  |_,_=>none
 | .call { callee:=.builtin .cap,args,argTypes }=>match args.toList,argTypes.toList with
  |[x],[T]=>match (tab T).kind,ρ x with
   | .slice,.v (.slice none 0 0)=>some (.v (.int .i64 0),[])
   |_,_=>none
  |_,_=>none
 |_=>none
end
section
inductive RC (w:World) (I:Nat->Prop):D->Value->Prop
 |v (x:Value) (h:x.oneCell'=true):RC w I (.v x) x
 |nl (a:Option Addr) (c:Nat):RC w I (.sl []) (.slice a 0 c)
 |sl (es:List (List D)) (b o c sz:Nat) (us:Nat->Nat->Value) (hI:I b) (hc:es.length<=c)
   (hz:∀(i:Nat) (cs:List D),es[i]? =some cs->cs.length=sz)
   (hm:∀(i j:Nat) (cs:List D) (d:D),es[i]? =some cs->cs[j]? =some d->w.cell? ⟨b,o+i*sz+j,none⟩=some (us i j))
   (hd:∀(i j:Nat) (cs:List D) (d:D),es[i]? =some cs->cs[j]? =some d->RC w I d (us i j)):RC w I (.sl es) (.slice (some ⟨b,o,none⟩) es.length c)
 |pt (cs:List D) (off b o:Nat) (us:Nat->Value) (hI:I b)
   (hm:∀(j:Nat) (d:D),cs[j]? =some d->w.cell? ⟨b,o+j,none⟩=some (us j))
   (hd:∀(j:Nat) (d:D),cs[j]? =some d->RC w I d (us j)):RC w I (.pt cs off) (.pointer (some ⟨b,o+off,none⟩))
 |mp (es:List (Value × Bool × List D)) (r:Nat) (en:Array MapEntry) (k:Nat) (hI:I r) (hm:w.heap[r]? =some (.map en k)) (hn:en.size=es.length)
   (hk:∀(i:Nat) (x:Value) (ag:Bool) (cs:List D) (e:MapEntry),es[i]? =some (x,ag,cs)->en[i]? =some e->e.key=x/\e.val.cells.size=cs.length/\(ag=true->∃vs,e.val= .agg vs)/\(ag=false->e.val.cells= #[e.val]))
   (hd:∀(i j:Nat) (x:Value) (ag:Bool) (cs:List D) (e:MapEntry) (d:D) (u:Value),es[i]? =some (x,ag,cs)->en[i]? =some e->cs[j]? =some d->e.val.cells[j]? =some u->RC w I d u):RC w I (.mp es) (.map (some r))
theorem RC.mono {w w':World}{I I':Nat->Prop}(hb:∀b,I b->w'.heap[b]? =w.heap[b]?)(hI:∀b,I b->I' b){d:D}{u:Value}(h:RC w I d u):RC w' I' d u:=by
 have hc:∀(a:Addr),I a.block->w'.cell? a=w.cell? a:=fun a ha=>World.cell?_of_block (hb a.block ha);induction h with
 |v x h=>exact .v x h
 |nl a c=>exact .nl a c
 |sl es b o c sz us h1 h2 h3 h4 h5 ih=>exact .sl es b o c sz us (hI b h1) h2 h3 (fun i j cs d e1 e2=>(hc ⟨b,o+i*sz+j,none⟩ h1).trans (h4 i j cs d e1 e2)) ih
 |pt cs off b o us h1 h2 h3 ih=>exact .pt cs off b o us (hI b h1) (fun j d e=>(hc ⟨b,o+j,none⟩ h1).trans (h2 j d e)) ih
 |mp es r en k h1 h2 h3 h4 h5 ih=>exact .mp es r en k (hI r h1) ((hb r h1).trans h2) h3 h4 ih
theorem RC.plain {w w':World}{I I':Nat->Prop}{d:D}{u:Value}(hp:V1 d=true)(h:RC w I d u):RC w' I' d u:=by
 cases h with
 |v _ h=>exact .v _ h
 |_=>cases hp
theorem RC.one {w:World}{I:Nat->Prop}{d:D}{u:Value}(h:RC w I d u):u.oneCell'=true:=by
 cases h<;>first |assumption |rfl
def DJ (w:World)(I:Nat->Prop)(d:D)(u:Value):Prop:=
 match d with
 | .ag cs=>∃vs:Array Value,u= .agg vs/\vs.size=cs.length/\∀(j:Nat) (d:D),cs[j]? =some d->∃x,vs[j]? =some x/\RC w I d x
 |d=>RC w I d u
def RV (w:World)(I:Nat->Prop)(d:D)(u:Value):Prop:=
 match d with
 | .tu ds=>∃vs:Array Value,u= .tuple vs/\vs.size=ds.length/\∀(j:Nat) (d:D),ds[j]? =some d->∃x,vs[j]? =some x/\DJ w I d x
 |d=>DJ w I d u
theorem DJ.mono {w w':World}{I I':Nat->Prop}(hb:∀b,I b->w'.heap[b]? =w.heap[b]?)(hI:∀b,I b->I' b){d:D}{u:Value}(h:DJ w I d u):DJ w' I' d u:=by
 unfold DJ at *;split at h
 ·obtain⟨vs,h1,h2,h3⟩:=h;exact⟨vs,h1,h2,fun j d e=>let ⟨x,e1,e2⟩:=h3 j d e;⟨x,e1,e2.mono hb hI⟩⟩
 exact h.mono hb hI
theorem RV.mono {w w':World}{I I':Nat->Prop}(hb:∀b,I b->w'.heap[b]? =w.heap[b]?)(hI:∀b,I b->I' b){d:D}{u:Value}(h:RV w I d u):RV w' I' d u:=by
 unfold RV at *;split at h
 ·obtain⟨vs,h1,h2,h3⟩:=h;exact⟨vs,h1,h2,fun j d e=>let ⟨x,e1,e2⟩:=h3 j d e;⟨x,e1,e2.mono hb hI⟩⟩
 exact h.mono hb hI
def AO.fz:AO->Bool
 | .rw _ _ _ _ fz=>fz
 |_=>false
def AO.isRw:AO->Bool
 | .rw .. =>true
 |_=>false
structure Cf where
 hp:Hp
 φ:Nat->Nat
 w:World
 kn:Nat->Prop
structure Gh where
 base:Nat
 M0:Nat->Prop
 fb:Nat
def Im (g:Gh)(c:Cf)(b:Bool)(k:Nat):Prop:=k<c.w.heap.size/\¬g.M0 k/\(∀id o,c.hp id=some o->o.fz=false->c.φ id≠k)/\(b=false->g.base<=k)
inductive RA (g:Gh) (c:Cf):AV->Value->Prop
 |v (x:Value) (h:x.oneCell'=true):RA g c (.v x) x
 |d (x:D) (b:Bool) (u:Value) (h:RC c.w (Im g c b) x u):RA g c (.d x b) u
 |pt (id off:Nat) (hn:c.kn id) (ho:∀o,c.hp id=some o->o.isRw=false):RA g c (.pt id off) (.pointer (some ⟨c.φ id,off,none⟩))
 |mo (id:Nat) (hn:c.kn id) (ho:∀o,c.hp id=some o->o.isRw=false):RA g c (.mo id) (.map (some (c.φ id)))
 |pr (id ver i off:Nat) (u:Value) (hn:c.kn id) (hp:∃a,u= .pointer (some a))
   (h:∀es sz v br fz,c.hp id=some (.rw es sz v br fz)->ver<=v/\(ver=v->u= .pointer (some ⟨c.φ id,i*sz+off,none⟩))):RA g c (.pr id ver i off) u
 |so (id ver off len:Nat) (u:Value) (hn:c.kn id) (hp:∃a m,u= .slice a len m)
   (h:∀es sz v br fz,c.hp id=some (.rw es sz v br fz)->ver<=v/\(ver=v->off+len<=es.length/\∃cur T C,c.w.heap[c.φ id]? =some (.cells cur T (0,0))/\cur.size=(off+C)*sz/\u= .slice (some ⟨c.φ id,off*sz,none⟩) len C)):RA g c (.so id ver off len) u
 |fn (f:FuncId) (caps:List AV) (us:Nat->Value) (n:Nat) (hn:caps.length=n) (h:∀(j:Nat) (x:AV),caps[j]? =some x->RA g c x (us j)):RA g c (.fn f caps) (.func (.func f) #[] (Array.ofFn (n:=n) fun j=>us j))
def DQ (g:Gh)(c:Cf)(x:AV)(u:Value):Prop:=
 match x with
 | .un=>True
 | .ag cs=>∃vs:Array Value,u= .agg vs/\vs.size=cs.length/\∀(j:Nat) (x:AV),cs[j]? =some x->∃y,vs[j]? =some y/\RA g c x y
 | .d (.ag cs) b=>DJ c.w (Im g c b) (.ag cs) u
 |x=>RA g c x u
def Am (g:Gh)(c:Cf)(x:AV)(u:Value):Prop:=
 match x with
 | .tu cs=>∃vs:Array Value,u= .tuple vs/\vs.size=cs.length/\∀(j:Nat) (x:AV),cs[j]? =some x->∃y,vs[j]? =some y/\DQ g c x y
 | .d (.tu cs) b=>RV c.w (Im g c b) (.tu cs) u
 |x=>DQ g c x u
def OK (g:Gh)(c:Cf)(id:Nat):AO->Prop
 | .bx cs=>∃T vs,c.w.heap[c.φ id]? =some (.cells vs T (0,0))/\vs.size=cs.length/\∀(j:Nat) (x:AV),cs[j]? =some x->∃u,vs[j]? =some u/\RA g c x u
 | .rw es sz _ br _=>0<sz/\(∀(i:Nat) (cs:List D),es[i]? =some cs->cs.length=sz)/\∃T vs C,c.w.heap[c.φ id]? =some (.cells vs T (0,0))/\vs.size=C*sz/\es.length<=C/\C<=maxLen/\ ∀(i j:Nat) (cs:List D) (d:D),es[i]? =some cs->cs[j]? =some d->∃u,vs[i*sz+j]? =some u/\RC c.w (Im g c br) d u
 | .mo es dl=>∃en k,c.w.heap[c.φ id]? =some (.map en k)/\en.size=es.length/\(dl=false->k=en.size/\∀(i:Nat) (e:MapEntry),en[i]? =some e->e.born=i)/\ ∀(i:Nat) (x:Value) (y:AV),es[i]? =some (x,y)->∃e,en[i]? =some e/\e.key=x/\DQ g c y e.val
def YY (g:Gh)(k:Nat):Prop:=g.base<=k/\¬g.M0 k
structure HR (g:Gh) (c:Cf):Prop where
 le:g.base<=c.w.heap.size
 m0:∀k,g.M0 k->k<c.w.heap.size
 dom:∀id o,c.hp id=some o->c.kn id/\YY g (c.φ id)/\c.φ id<c.w.heap.size
 inj:∀i j o p,c.hp i=some o->c.hp j=some p->i≠j->c.φ i≠c.φ j
 obj:∀id o,c.hp id=some o->OK g c id o
structure CF (c c':Cf):Prop where
 os:c'.w.os=c.w.os
 tape:c'.w.tape=c.w.tape
 output:c'.w.output=c.w.output
 size:c.w.heap.size<=c'.w.heap.size
 kn:∀id,c.kn id->c'.kn id
 block:∀k,k<c.w.heap.size->(∀id o,c.hp id=some o->o.fz=false->c.φ id≠k)->c'.w.heap[k]? =c.w.heap[k]?
 muts:∀id o',c'.hp id=some o'->o'.fz=false->c.w.heap.size<=c'.φ id\/∃o,c.hp id=some o/\o.fz=false/\c'.φ id=c.φ id
 keep:∀id,c.kn id->(∀o,c.hp id=some o->o.isRw=false)->c'.φ id=c.φ id/\∀o',c'.hp id=some o'->o'.isRw=false
 rows:∀id es' sz v' br' fz',c.kn id->c'.hp id=some (.rw es' sz v' br' fz')->∃es v br fz,c.hp id=some (.rw es sz v br fz)/\v<=v'/\
  (v=v'->c'.φ id=c.φ id/\es.length=es'.length/\∀cur T,c.w.heap[c.φ id]? =some (.cells cur T (0,0))->∃cur',c'.w.heap[c.φ id]? =some (.cells cur' T (0,0))/\cur'.size=cur.size)
 drawn:c.w.drawn<=c'.w.drawn
theorem CF.refl (c:Cf):CF c c:=⟨rfl,rfl,rfl,Lc _,fun _ h=>h,fun _ _ _=>rfl,fun _ o h hf=>.inr ⟨o,h,hf,rfl⟩,fun _ _ h=>⟨rfl,h⟩,
 fun _ es _ v br fz _ h=>⟨es,v,br,fz,h,Lc _,fun _=>⟨rfl,rfl,fun cur _ e=>⟨cur,e,rfl⟩⟩⟩,Lc _⟩
theorem CF.trans {a b c:Cf}(h:CF a b)(k:CF b c):CF a c:=by
 refine⟨k.os.trans h.os,k.tape.trans h.tape,k.output.trans h.output,Lp h.size k.size,fun i hi=>k.kn i (h.kn i hi),?_,?_,?_,?_,Lp h.drawn k.drawn⟩
 ·intro x hx hm;refine(k.block x (Lz hx h.size) fun id o ho hf=> ?_).trans (h.block x hx hm);rcases h.muts id o ho hf with h1 |⟨o1,h1,h2,h3⟩
  ·omega
  rw[h3];exact hm id o1 h1 h2
 ·intro id o' ho hf;rcases k.muts id o' ho hf with h1 |⟨o1,h1,h2,h3⟩
  ·exact .inl (Lp h.size h1)
  rcases h.muts id o1 h1 h2 with h4 |⟨o2,h4,h5,h6⟩
  ·exact .inl (by rw[h3];exact h4)
  exact .inr ⟨o2,h4,h5,h3.trans h6⟩
 ·intro id hn ho;obtain⟨h1,h2⟩:=h.keep id hn ho;obtain⟨h3,h4⟩:=k.keep id (h.kn _ hn) h2;exact⟨h3.trans h1,h4⟩
 intro id es' sz v' br' fz' hn hr;obtain⟨es1,v1,br1,fz1,h1,h2,h3⟩:=k.rows id es' sz v' br' fz' (h.kn _ hn) hr;obtain⟨es0,v0,br0,fz0,h4,h5,h6⟩:=h.rows id es1 sz v1 br1 fz1 hn h1;refine⟨es0,v0,br0,fz0,h4,Lp h5 h2,fun e=> ?_⟩;obtain⟨g1,g2,g3⟩:=h3 (by omega);obtain⟨g4,g5,g6⟩:=h6 (by omega);refine⟨g1.trans g4,g5.trans g2,fun cur T hc=> ?_⟩;obtain⟨cur1,e1,e2⟩:=g6 cur T hc;rw[<-g4] at e1;obtain⟨cur2,e3,e4⟩:=g3 cur1 T e1;rw[g4] at e3;exact⟨cur2,e3,e4.trans e2⟩
section
variable {g:Gh}{c c':Cf}
theorem Im.ext (h:CF c c'){b:Bool}{k:Nat}(hk:Im g c b k):Im g c' b k:=by
 obtain⟨h1,h2,h3,h4⟩:=hk;refine⟨Lz h1 h.size,h2,fun id o ho hf=> ?_,h4⟩;rcases h.muts id o ho hf with h5 |⟨o1,h5,h6,h7⟩
 ·omega
 rw[h7];exact h3 id o1 h5 h6
theorem Im.block (h:CF c c'){b:Bool}{k:Nat}(hk:Im g c b k):c'.w.heap[k]? =c.w.heap[k]? :=h.block k hk.1 hk.2.2.1
theorem Im.weak {b:Bool}{k:Nat}(hk:Im g c b k):Im g c true k:=⟨hk.1,hk.2.1,hk.2.2.1,by simp⟩
theorem RC.ext (h:CF c c'){b:Bool}{d:D}{u:Value}(hr:RC c.w (Im g c b) d u):RC c'.w (Im g c' b) d u:=hr.mono (fun _ hk=>hk.block h) fun _ hk=>hk.ext h
theorem DJ.ext (h:CF c c'){b:Bool}{d:D}{u:Value}(hr:DJ c.w (Im g c b) d u):DJ c'.w (Im g c' b) d u:=hr.mono (fun _ hk=>hk.block h) fun _ hk=>hk.ext h
theorem RV.ext (h:CF c c'){b:Bool}{d:D}{u:Value}(hr:RV c.w (Im g c b) d u):RV c'.w (Im g c' b) d u:=hr.mono (fun _ hk=>hk.block h) fun _ hk=>hk.ext h
theorem RA.ext (h:CF c c'){x:AV}{u:Value}(hr:RA g c x u):RA g c' x u:=by
 induction hr with
 |v x h=>exact .v x h
 |d x b u h1=>exact .d x b u (h1.ext h)
 |pt id off hn ho=>
  obtain⟨h1,h2⟩:=h.keep id hn ho;rw[<-h1];exact .pt id off (h.kn _ hn) h2
 |mo id hn ho=>
  obtain⟨h1,h2⟩:=h.keep id hn ho;rw[<-h1];exact .mo id (h.kn _ hn) h2
 |pr id ver i off u hn hp h1=>
  refine .pr id ver i off u (h.kn _ hn) hp fun es' sz v' br' fz' hr=> ?_;obtain⟨es,v,br,fz,h2,h3,h4⟩:=h.rows id es' sz v' br' fz' hn hr;obtain⟨h5,h6⟩:=h1 es sz v br fz h2;refine⟨by omega,fun e=> ?_⟩;obtain⟨h7,_,_⟩:=h4 (by omega);rw[h7];exact h6 (by omega)
 |so id ver off len u hn hp h1=>
  refine .so id ver off len u (h.kn _ hn) hp fun es' sz v' br' fz' hr=> ?_;obtain⟨es,v,br,fz,h2,h3,h4⟩:=h.rows id es' sz v' br' fz' hn hr;obtain⟨h5,h6⟩:=h1 es sz v br fz h2;refine⟨by omega,fun e=> ?_⟩;obtain⟨h7,h8,h9⟩:=h4 (by omega);obtain⟨k1,cur,T,C,k2,k3,k4⟩:=h6 (by omega);obtain⟨cur',k5,k6⟩:=h9 cur T k2
  exact⟨by omega,cur',T,C,by rw[h7];exact k5,by rw[k6];exact k3,by rw[h7];exact k4⟩
 |fn f caps us n hn _ ih=>exact .fn f caps us n hn ih
theorem RA.one {x:AV}{u:Value}(hr:RA g c x u):u.oneCell'=true:=by
 cases hr with
 |v x h=>exact h
 |d x b u h=>exact h.one
 |pr id ver i off u hn hp _=>obtain⟨a,rfl⟩:=hp;rfl
 |so id ver off len u hn hp _=>obtain⟨a,m,rfl⟩:=hp;rfl
 |_=>rfl
theorem DQ.ext (h:CF c c'){x:AV}{u:Value}(hr:DQ g c x u):DQ g c' x u:=by
 unfold DQ at *;split at hr
 ·trivial
 ·obtain⟨vs,h1,h2,h3⟩:=hr;exact⟨vs,h1,h2,fun j x e=>let ⟨y,e1,e2⟩:=h3 j x e;⟨y,e1,e2.ext h⟩⟩
 ·exact DJ.ext h hr
 exact RA.ext h hr
theorem Am.ext (h:CF c c'){x:AV}{u:Value}(hr:Am g c x u):Am g c' x u:=by
 unfold Am at *;split at hr
 ·obtain⟨vs,h1,h2,h3⟩:=hr;exact⟨vs,h1,h2,fun j x e=>let ⟨y,e1,e2⟩:=h3 j x e;⟨y,e1,e2.ext h⟩⟩
 ·exact RV.ext h hr
 exact DQ.ext h hr
theorem OK.ext (h:CF c c'){id:Nat}{o:AO}(ho:OK g c id o)(hφ:c'.φ id=c.φ id)(hb:c'.w.heap[c.φ id]? =c.w.heap[c.φ id]?):OK g c' id o:=by
 cases o with
 |bx cs=>
  obtain⟨T,vs,h1,h2,h3⟩:=ho;exact⟨T,vs,by rw[hφ,hb];exact h1,h2,fun j x e=>let ⟨u,e1,e2⟩:=h3 j x e;⟨u,e1,e2.ext h⟩⟩
 |rw es sz v br fz=>
  obtain⟨h1,h2,T,vs,C,h3,h4,h5,h6,h7⟩:=ho;exact⟨h1,h2,T,vs,C,by rw[hφ,hb];exact h3,h4,h5,h6,fun i j cs d e1 e2=>let ⟨u,e3,e4⟩:=h7 i j cs d e1 e2;⟨u,e3,e4.ext h⟩⟩
 |mo es dl=>
  obtain⟨en,k,h1,h2,h0,h5⟩:=ho;exact⟨en,k,by rw[hφ,hb];exact h1,h2,h0,fun i x y e=>let ⟨e',e1,e2,e3⟩:=h5 i x y e;⟨e',e1,e2,e3.ext h⟩⟩
end
end
section
theorem Ah {α:Type}(k:Nat)(x:α)(f:Nat->α):upd k x f k=x:=by simp[upd]
theorem sx (c:Nat)(h:0<c:=by omega):∃e,c=e+1:=⟨c-1,by omega⟩
theorem Ad {α:Type}{k j:Nat}(x:α)(f:Nat->α)(h:j≠k):upd k x f j=f j:=by simp[upd,h]
theorem AR {α:Type}{k j:Nat}{x:α}{f:Nat->α}(h:j≠k:=by omega):upd k x f j=f j:=Ad x f h
theorem Cb {p:Prop}[Decidable p](h:p:=by omega):decide p=true:=decide_eq_true h
theorem Cr {p:Prop}[Decidable p](h:¬p:=by omega):decide p=false:=decide_eq_false h
theorem FB {p:Prop}(h:p:=by omega):p=True:=eq_true h
theorem EU {p:Prop}(h:¬p:=by omega):p=False:=eq_false h
theorem ifp.{u}{α:Sort u}{p:Prop}[Decidable p]{a b:α}(h:p:=by omega):(if p then a else b)=a:=if_pos h
theorem ifn.{u}{α:Sort u}{p:Prop}[Decidable p]{a b:α}(h:¬p:=by omega):(if p then a else b)=b:=if_neg h
section
variable {g:Gh}{c:Cf}
theorem CF.more (c:Cf)(kn:Nat->Prop)(hk:∀i,c.kn i->kn i):CF c ⟨c.hp,c.φ,c.w,kn⟩:=
 ⟨rfl,rfl,rfl,Lc _,hk,fun _ _ _=>rfl,fun _ o h hf=>.inr ⟨o,h,hf,rfl⟩,fun _ _ h=>⟨rfl,h⟩,fun _ es _ v br fz _ h=>⟨es,v,br,fz,h,Lc _,fun _=>⟨rfl,rfl,fun cur _ e=>⟨cur,e,rfl⟩⟩⟩,Lc _⟩
theorem HR.more (h:HR g c)(kn:Nat->Prop)(hk:∀i,c.kn i->kn i):HR g ⟨c.hp,c.φ,c.w,kn⟩:=
 ⟨h.le,h.m0,fun id o ho=>⟨hk _ (h.dom id o ho).1,(h.dom id o ho).2⟩,h.inj,fun id o ho=>(h.obj id o ho).ext (CF.more c kn hk) rfl rfl⟩
theorem CF.new (h:HR g c){id b:Nat}{ao:AO}{w':World}{kn:Nat->Prop}(hid:¬c.kn id)(hos:w'.os=c.w.os)(ht:w'.tape=c.w.tape)(hou:w'.output=c.w.output)
  (hs:c.w.heap.size<=w'.heap.size) (hbl:∀k,k<c.w.heap.size->w'.heap[k]? =c.w.heap[k]?) (hb:c.w.heap.size<=b) (hk:∀i,c.kn i->kn i) (hdr:c.w.drawn<=w'.drawn:=by first |exact Lc _ |exact Bj _):
  CF c ⟨upd id (some ao) c.hp,upd id b c.φ,w',kn⟩:=by
 have hne:∀i,c.kn i->i≠id:=fun i hi e=>hid (e▸hi);refine⟨hos,ht,hou,hs,hk,fun k hlt _=>hbl k hlt,?_,?_,?_,hdr⟩
 ·intro i o' ho hf;by_cases e:i=id
  ·subst e;exact .inl (by simpa [upd] using hb)
  simp only[Ad _ _ e] at ho⊢;exact .inr ⟨o',ho,hf,trivial⟩
 ·intro i hi ho;simp only[Ad _ _ (hne i hi)];exact⟨trivial,ho⟩
 intro i es' sz v' br' fz' hi hr;simp only[Ad _ _ (hne i hi)] at hr⊢;refine⟨es',v',br',fz',hr,Lc _,fun _=>⟨trivial,rfl,fun cur T hc=>⟨cur,?_,rfl⟩⟩⟩;exact(hbl _ (h.dom i _ hr).2.2).trans hc
theorem HR.new (h:HR g c){id b:Nat}{ao:AO}{w':World}{kn:Nat->Prop}(he:CF c ⟨upd id (some ao) c.hp,upd id b c.φ,w',kn⟩)(hid:¬c.kn id)(hb:c.w.heap.size<=b)(hb2:b<w'.heap.size)(hkid:kn id)
  (hbl:∀k,k<c.w.heap.size->w'.heap[k]? =c.w.heap[k]?) (ho:OK g ⟨upd id (some ao) c.hp,upd id b c.φ,w',kn⟩ id ao):HR g ⟨upd id (some ao) c.hp,upd id b c.φ,w',kn⟩:=by
 have hle:=he.size;have hkk:=he.kn;have hg:=h.le;refine⟨Lp h.le hle,fun k hk=>Lz (h.m0 k hk) hle,?_,?_,?_⟩
 ·intro i o hi;by_cases e:i=id
  ·subst e;simp only[Ah];exact⟨hkid,⟨by omega,fun hm=>by have:=h.m0 _ hm;omega⟩,hb2⟩
  simp only[Ad _ _ e] at hi⊢;obtain⟨h1,h2,h3⟩:=h.dom i o hi;exact⟨hkk i h1,h2,Lz h3 hle⟩
 ·intro i j o p hi hj hij;by_cases e:i=id
  ·subst e;have e2:j≠i:=fun e=>hij e.symm;simp only[Ad _ _ e2] at hj;simp only[Ah,Ad _ _ e2]
   have:=(h.dom j p hj).2.2;omega
  simp only[Ad _ _ e] at hi;by_cases e2:j=id
  ·subst e2;simp only[Ah,Ad _ _ e]
   have:=(h.dom i o hi).2.2;omega
  simp only[Ad _ _ e2] at hj;simp only[Ad _ _ e,Ad _ _ e2];exact h.inj i j o p hi hj hij
 intro i o hi;by_cases e:i=id
 ·subst e;simp only[Ah] at hi;cases hi;exact ho
 simp only[Ad _ _ e] at hi;exact(h.obj i o hi).ext he (by simp only[Ad _ _ e]) (hbl _ (h.dom i o hi).2.2)
theorem CF.chg (h:HR g c){i b:Nat}{o o':AO}{w':World}{kn:Nat->Prop}(hi:c.hp i=some o)(hf:o.fz=false)(hos:w'.os=c.w.os)(ht:w'.tape=c.w.tape)(hou:w'.output=c.w.output)
  (hs:c.w.heap.size<=w'.heap.size) (hbl:∀k,k<c.w.heap.size->k≠c.φ i->w'.heap[k]? =c.w.heap[k]?) (hb:b=c.φ i\/c.w.heap.size<=b) (hk:∀i,c.kn i->kn i)
  (hrw:o.isRw=false->b=c.φ i/\o'.isRw=false)
  (hr:∀es' sz v' br' fz',o'= .rw es' sz v' br' fz'->∃es v br fz,o= .rw es sz v br fz/\v<=v'/\(v=v'->b=c.φ i/\es.length=es'.length/\∀cur T,c.w.heap[c.φ i]? =some (.cells cur T (0,0))->∃cur',w'.heap[c.φ i]? =some (.cells cur' T (0,0))/\cur'.size=cur.size)) (hdr:c.w.drawn<=w'.drawn:=by first |exact Lc _ |exact Bj _):
  CF c ⟨upd i (some o') c.hp,upd i b c.φ,w',kn⟩:=by
 refine⟨hos,ht,hou,hs,hk,fun k hlt hm=>hbl k hlt fun e=>hm i o hi hf e.symm,?_,?_,?_,hdr⟩
 ·intro j p hj hpf;by_cases e:j=i
  ·subst e;simp only[Ah];rcases hb with h1 |h1
   ·exact .inr ⟨o,hi,hf,h1⟩
   exact .inl h1
  simp only[Ad _ _ e] at hj⊢;exact .inr ⟨p,hj,hpf,trivial⟩
 ·intro j hj ho;by_cases e:j=i
  ·subst e;obtain⟨h1,h2⟩:=hrw (ho o hi);simp only[Ah];exact⟨h1,fun p hp=>by cases hp;exact h2⟩
  simp only[Ad _ _ e];exact⟨trivial,ho⟩
 intro j es' sz v' br' fz' hj hrj;by_cases e:j=i
 ·subst e;simp only[Ah] at hrj⊢;cases hrj;obtain⟨es,v,br,fz,h1,h2,h3⟩:=hr es' sz v' br' fz' rfl;exact⟨es,v,br,fz,h1▸hi,h2,h3⟩
 simp only[Ad _ _ e] at hrj⊢;refine⟨es',v',br',fz',hrj,Lc _,fun _=>⟨trivial,rfl,fun cur T hc=>⟨cur,?_,rfl⟩⟩⟩;exact(hbl _ (h.dom j _ hrj).2.2 (h.inj j i _ o hrj hi e)).trans hc
theorem HR.chg (h:HR g c){i b:Nat}{o o':AO}{w':World}{kn:Nat->Prop}(hi:c.hp i=some o)(he:CF c ⟨upd i (some o') c.hp,upd i b c.φ,w',kn⟩)
  (hbl:∀k,k<c.w.heap.size->k≠c.φ i->w'.heap[k]? =c.w.heap[k]?) (hb:b=c.φ i\/c.w.heap.size<=b) (hb2:b<w'.heap.size)
  (ho:OK g ⟨upd i (some o') c.hp,upd i b c.φ,w',kn⟩ i o'):HR g ⟨upd i (some o') c.hp,upd i b c.φ,w',kn⟩:=by
 have hle:=he.size;have hkk:=he.kn;have hg:=h.le;have hd:=h.dom i o hi;have far:∀j p,c.hp j=some p->j≠i->c.φ j≠b:=fun j p hj e=>by
  have h1:=h.inj j i p o hj hi e;have h2:=(h.dom j p hj).2.2;rcases hb with h3 |h3
  ·omega
  omega
 refine⟨Lp h.le hle,fun k hk=>Lz (h.m0 k hk) hle,?_,?_,?_⟩
 ·intro j p hj;by_cases e:j=i
  ·subst e;simp only[Ah];have hout:YY g b:=by
    rcases hb with h3 |h3
    ·rw[h3];exact hd.2.1
    exact⟨by omega,fun hm=>by have:=h.m0 _ hm;omega⟩
   exact⟨hkk _ hd.1,hout,hb2⟩
  simp only[Ad _ _ e] at hj⊢;obtain⟨h1,h2,h3⟩:=h.dom j p hj;exact⟨hkk j h1,h2,Lz h3 hle⟩
 ·intro j k p q hj hk hjk;by_cases e:j=i
  ·subst e;have e2:k≠j:=fun e=>hjk e.symm;simp only[Ad _ _ e2] at hk;simp only[Ah,Ad _ _ e2];exact fun e3=>far k q hk e2 e3.symm
  simp only[Ad _ _ e] at hj;by_cases e2:k=i
  ·subst e2;simp only[Ah,Ad _ _ e];exact far j p hj e
  simp only[Ad _ _ e2] at hk;simp only[Ad _ _ e,Ad _ _ e2];exact h.inj j k p q hj hk hjk
 intro j p hj;by_cases e:j=i
 ·subst e;simp only[Ah] at hj;cases hj;exact ho
 simp only[Ad _ _ e] at hj;exact(h.obj j p hj).ext he (by simp only[Ad _ _ e]) (hbl _ (h.dom j p hj).2.2 (h.inj j i p o hj hi e))
theorem CF.frz (h:HR g c)(kn:Nat->Prop)(hk:∀i,c.kn i->kn i)(is:List Nat):CF c ⟨Av (frz c.hp is) c.hp,c.φ,c.w,kn⟩/\HR g ⟨Av (frz c.hp is) c.hp,c.φ,c.w,kn⟩:=by
 have key:∀(is:List Nat) (hp':Hp),(∀id,hp' id=c.hp id\/∃es sz v br fz,c.hp id=some (.rw es sz v br fz)/\hp' id=some (.rw es sz v br true))->
   ∀id,Av (Ab.frz c.hp is) hp' id=c.hp id\/∃es sz v br fz,c.hp id=some (.rw es sz v br fz)/\Av (Ab.frz c.hp is) hp' id=some (.rw es sz v br true):=by
  intro is;induction is with
  |nil=>exact fun hp' h=>h
  |cons i r ih=>
   intro hp' hh;unfold Ab.frz;split
   ·rename_i es sz v br fz he;simp only[Av];refine ih _ fun id=> ?_;by_cases e:id=i
    ·subst e;exact .inr ⟨es,sz,v,br,fz,he,Ah _ _ _⟩
    rw[Ad _ _ e];exact hh id
   exact ih _ hh
 have hd:=key is c.hp fun id=>.inl rfl;generalize Av (Ab.frz c.hp is) c.hp=hp' at hd;have he:CF c ⟨hp',c.φ,c.w,kn⟩:=by
  refine⟨rfl,rfl,rfl,Lc _,hk,fun _ _ _=>rfl,?_,?_,?_,Lc _⟩
  ·intro id o' ho hf;rcases hd id with h1 |⟨es,sz,v,br,fz,h1,h2⟩
   ·exact .inr ⟨o',h1▸ho,hf,rfl⟩
   simp only[h2,Le] at ho;subst ho;simp[AO.fz] at hf
  ·intro id _ ho;refine⟨rfl,fun o' ho'=> ?_⟩;rcases hd id with h1 |⟨es,sz,v,br,fz,h1,h2⟩
   ·exact ho o' (h1▸ho')
   have:=ho _ h1;simp[AO.isRw] at this
  intro id es' sz v' br' fz' _ hr;rcases hd id with h1 |⟨es,sz,v,br,fz,h1,h2⟩
  ·exact⟨es',v',br',fz',h1▸hr,Lc _,fun _=>⟨rfl,rfl,fun cur _ e=>⟨cur,e,rfl⟩⟩⟩
  simp only[h2,Le,AO.rw.injEq] at hr;obtain⟨rfl,rfl,rfl,rfl,rfl⟩:=hr;exact⟨es,v,br,fz,h1,Lc _,fun _=>⟨rfl,rfl,fun cur _ e=>⟨cur,e,rfl⟩⟩⟩
 refine⟨he,⟨h.le,h.m0,?_,?_,?_⟩⟩
 ·intro id o ho;rcases hd id with h1 |⟨es,sz,v,br,fz,h1,h2⟩
  ·exact⟨hk _ (h.dom id o (h1▸ho)).1,(h.dom id o (h1▸ho)).2⟩
  exact⟨hk _ (h.dom id _ h1).1,(h.dom id _ h1).2⟩
 ·intro i j o p hi hj hij
  have:∀id o,hp' id=some o->∃o',c.hp id=some o':=fun id o ho=>by
   rcases hd id with h1 |⟨es,sz,v,br,fz,h1,h2⟩
   ·exact⟨o,h1▸ho⟩
   exact⟨_,h1⟩
  obtain⟨o1,h1⟩:=this i o hi;obtain⟨o2,h2⟩:=this j p hj;exact h.inj i j o1 o2 h1 h2 hij
 intro id o ho;rcases hd id with h1 |⟨es,sz,v,br,fz,h1,h2⟩
 ·exact(h.obj id o (h1▸ho)).ext he rfl rfl
 simp only[h2,Le] at ho;subst ho;exact OK.ext (o:=.rw es sz v br fz) he (h.obj id _ h1) rfl rfl
end
end
section
structure AU (P:Program) (tab:Nat->TI):Prop where
 dflt:∀T,(tab T).ok=false->tab T={}
 info:∀T,(tab T).ok=true->∃i z,P.info? T=some i/\i.size=(tab T).size/\i.bytes=(tab T).bytes/\i.zero=some z/\z.cells=(tab T).zero.toArray/\(tab T).zero.length=(tab T).size/\(∀x∈(tab T).zero,x.oneCell'=true)/\((tab T).agg=true->∃vs,z= .agg vs)/\((tab T).agg=false->z.oneCell'=true)
 kind:∀T,(tab T).ok=true->∃d,P.underlying T=some d/\match (tab T).kind with
  | .slice=>d= .slice (tab T).elem
  | .string=>d= .string
  | .int k=>d= .int k
  | .bool=>d= .bool
  | .ptr=>∃e,d= .pointer e
  | .map=>∃k,d= .map k (tab T).elem
  | .array n=>d= .array n (tab T).elem/\(tab (tab T).elem).ok=true/\∀(i:Nat) (p:Nat × Nat),(tab T).offs[i]? =some p->p=(i*(tab (tab T).elem).size,(tab (tab T).elem).size)
  | .struct=>∃fs,d= .struct fs/\fs.size=(tab T).offs.length/\∀(i:Nat) (f:Field),fs[i]? =some f->∃fi,P.info? f.type=some fi/\(tab T).offs[i]? =some (f.offset,fi.size)
  | .other=>match d with | .struct _ | .array _ _=>False |_=>True
 flat:∀T ks,(tab T).flat=some ks->∀(xs ys:List Value) (b:Bool),Dy ks xs ys=some b->∀w,(Op.equal T (.agg xs.toArray) (.agg ys.toArray)).run P w= .ok b w
 guard:∀T ks,(tab T).flat=some ks->P.eqGuardType P.depth T=false
 mkey:∀T q,(tab T).mkey=some q->∃kt,P.underlying T=some (.map kt (tab T).elem)/\(tab (tab T).elem).ok=true/\∀x,F3 q x=true->(∀w e,(Instr.checkKey e 10000 kt x).run P w= .ok () w)/\
  (∀y,JQ q x y=some true->y=x/\Instr.sameBits 10000 x x=true)/\∀(ens:List MapEntry) (r:Option Nat),I9 q x (ens.map (·.key))=some r->∀w,(Instr.findKey kt x ens).run P w= .ok (r.bind fun i=>(ens[i]?).map fun e=>(i,e.val)) w
theorem HO (b o j:Nat):(⟨b,o,none⟩:Addr).add j=⟨b,o+j,none⟩:=by unfold Addr.add;split<;>simp_all
section types
variable {P:Program}{tab:Nat->TI}(ht:AU P tab)
include ht
theorem AU.okOf {T:Nat}(h:(tab T).kind≠ .other):(tab T).ok=true:=by
 cases e:(tab T).ok with
 |true=>rfl
 |false=>rw[ht.dflt T e] at h;exact absurd rfl h
theorem AU.sizeOf {T:Nat}(h:(tab T).ok=true)(w:World):(sizeOf T).run P w= .ok (tab T).size w:=by
 obtain⟨i,z,h1,h2,_⟩:=ht.info T h;simp[Go.sizeOf,typeInfo,h1,h2]
theorem AU.isAgg {T:Nat}(h:(tab T).ok=true)(w:World):(isAgg T).run P w= .ok (tab T).agg w:=by
 obtain⟨d,h1,h2⟩:=ht.kind T h;unfold Go.isAgg TI.agg;rw[Sem.run_bind,run_underlying h1];cases hk:(tab T).kind<;>simp only[hk] at h2
 case other=>cases d<;>simp_all
 case struct=>obtain⟨fs,rfl,_⟩:=h2;simp
 case map=>obtain⟨k,rfl⟩:=h2;simp
 case ptr=>obtain⟨k,rfl⟩:=h2;simp
 case array=>obtain⟨rfl,_⟩:=h2;simp
 all_goals (subst h2;simp)
theorem AU.slice {T:Nat}(h:(tab T).kind= .slice):P.underlying T=some (.slice (tab T).elem):=by
 obtain⟨d,h1,h2⟩:=ht.kind T (ht.okOf (by rw[h];decide));rw[h] at h2;subst h2;exact h1
theorem AU.string {T:Nat}(h:(tab T).kind= .string):P.underlying T=some .string:=by
 obtain⟨d,h1,h2⟩:=ht.kind T (ht.okOf (by rw[h];decide));rw[h] at h2;subst h2;exact h1
theorem dZ {T:Nat}(h:(tab T).ok=true)(hg:(tab T).agg=true)(w:World)(p:Addr)(L:List Value)(hL:L.length=(tab T).size)(hc:∀(j:Nat) (v:Value),L[j]? =some v->w.cell? (p.add j)=some v):
  (loadVar T p).run P w= .ok (.agg L.toArray) w:=by
 have:=run_loadCells_list (P:=P) w p L hc;simp[loadVar,ht.isAgg h,hg,ht.sizeOf h,<-hL,this]
theorem db {T:Nat}(h:(tab T).ok=true)(hg:(tab T).agg=false)(w:World)(p:Addr)(u:Value)(hc:w.cell? p=some u):(loadVar T p).run P w= .ok u w:=by
 simp[loadVar,ht.isAgg h,hg,load,Sem.run,hc]
end types
def G1 (P:Program)(o:Oper)(a:Act)(w:World)(u:Value)(w':World):Prop:=(execOp a.eval o).run P w= .ok (.value u) w'\/((execOp a.eval o).run P w= .ok .skip w'/\u=undef)
def CI (P:Program)(o:Oper)(a:Act)(g:Gh)(c:Cf)(id:Nat)(v:AV)(δ:List (Nat × AO)):Prop:=∃φ' u w',G1 P o a c.w u w'/\CF c ⟨Av δ c.hp,φ',w',fun k=>c.kn k\/k=id⟩/\HR g ⟨Av δ c.hp,φ',w',fun k=>c.kn k\/k=id⟩/\Am g ⟨Av δ c.hp,φ',w',fun k=>c.kn k\/k=id⟩ v u
section
variable {P:Program}{tab:Nat->TI}{o:Oper}{a:Act}{g:Gh}{c:Cf}{id:Nat}
theorem CI.pure (hr:HR g c){v:AV}{u:Value}(h:(execOp a.eval o).run P c.w= .ok (.value u) c.w)(hv:Am g c v u):CI P o a g c id v []:=
 ⟨c.φ,u,c.w,.inl h,CF.more c _ fun _ h=>.inl h,hr.more _ fun _ h=>.inl h,hv.ext (CF.more c _ fun _ h=>.inl h)⟩
theorem Am.v {x u:Value}(h:Am g c (.v x) u):u=x/\x.oneCell'=true:=by
 cases(show RA g c (.v x) u from h) with
 |v _ h1=>exact⟨rfl,h1⟩
theorem Am.pt {i off:Nat}{u:Value}(h:Am g c (.pt i off) u):u= .pointer (some ⟨c.φ i,off,none⟩)/\c.kn i/\∀o,c.hp i=some o->o.isRw=false:=by
 cases(show RA g c (.pt i off) u from h) with
 |pt _ _ h1 h2=>exact⟨rfl,h1,h2⟩
theorem Am.pr {i ver k off:Nat}{u:Value}(h:Am g c (.pr i ver k off) u){es sz br fz}(hi:c.hp i=some (.rw es sz ver br fz)):u= .pointer (some ⟨c.φ i,k*sz+off,none⟩)/\c.kn i:=by
 cases(show RA g c (.pr i ver k off) u from h) with
 |pr _ _ _ _ _ h1 _ h3=>exact⟨(h3 _ _ _ _ _ hi).2 rfl,h1⟩
theorem Am.so {i ver off len:Nat}{u:Value}(h:Am g c (.so i ver off len) u){es sz br fz}(hi:c.hp i=some (.rw es sz ver br fz)):
  off+len<=es.length/\c.kn i/\∃cur T C,c.w.heap[c.φ i]? =some (.cells cur T (0,0))/\cur.size=(off+C)*sz/\u= .slice (some ⟨c.φ i,off*sz,none⟩) len C:=by
 cases(show RA g c (.so i ver off len) u from h) with
 |so _ _ _ _ _ h1 _ h3=>
  obtain⟨h4,h5⟩:=(h3 _ _ _ _ _ hi).2 rfl;exact⟨h4,h1,h5⟩
theorem Am.dpt {cs:List D}{off:Nat}{b:Bool}{u:Value}(h:Am g c (.d (.pt cs off) b) u):RC c.w (Im g c b) (.pt cs off) u:=by
 cases(show RA g c (.d (.pt cs off) b) u from h) with
 |d _ _ _ h=>exact h
theorem Am.dsl {es:List (List D)}{b:Bool}{u:Value}(h:Am g c (.d (.sl es) b) u):RC c.w (Im g c b) (.sl es) u:=by
 cases(show RA g c (.d (.sl es) b) u from h) with
 |d _ _ _ h=>exact h
theorem RC.toRA {d:D}{b:Bool}{u:Value}(h:RC c.w (Im g c b) d u):RA g c (Aw b d) u:=by
 cases d with
 |v x=>cases h with |v _ h1=>exact RA.v _ h1
 |sl es=>exact RA.d _ _ _ h
 |pt cs off=>exact RA.d _ _ _ h
 |mp es=>exact RA.d _ _ _ h
 |ag cs=>cases h
 |tu cs=>cases h
theorem RA.toAt {x:AV}{u:Value}(h:RA g c x u):Am g c x u:=by
 cases x with
 |d x b=>cases x with
  |ag cs=>cases h with |d _ _ _ h1=>cases h1
  |tu cs=>cases h with |d _ _ _ h1=>cases h1
  |_=>exact h
 |ag cs=>cases h
 |tu cs=>cases h
 |un=>trivial
 |_=>exact h
theorem KM {α:Type}(xs:List α)(off n j:Nat)(x:α)(h:((xs.drop off).take n)[j]? =some x):j<n/\xs[off+j]? =some x:=by
 rw[Nn] at h;split at h
 ·rename_i hj;exact⟨hj,by rw[NQ] at h;exact h⟩
 cases h
theorem V4 {α:Type}{off n:Nat}{xs ys:List α}(h:sub off n xs=some ys):off+n<=xs.length/\ys=(xs.drop off).take n/\ys.length=n:=by
 unfold sub at h;split at h
 ·rename_i hle;cases h;exact⟨hle,rfl,by rw[Lw,Nv];omega⟩
 cases h
theorem dc (hr:HR g c)(ht:AU P tab){T:Nat}{x:Operand}(ho:o.op= .load T x)(hok:(tab T).ok=true)(hg:(tab T).agg=true){bl off:Nat}(hx:a.eval x= .pointer (some ⟨bl,off,none⟩))
  {v:AV} (f:Nat->Value) (hc:∀j,j<(tab T).size->c.w.cell? ⟨bl,off+j,none⟩=some (f j)) (hv:Am g c v (.agg ((List.range (tab T).size).map f).toArray)):CI P o a g c id v []:=by
 refine CI.pure hr (u:=.agg ((List.range (tab T).size).map f).toArray) ?_ hv
 have:=dZ ht hok hg c.w ⟨bl,off,none⟩ ((List.range (tab T).size).map f) (by simp) (fun j v hj=>by
  rw[Lj] at hj;by_cases hlt:j<(tab T).size
  ·rw[Bg hlt] at hj;simp only[LO,Le] at hj;rw[HO,<-hj];exact hc j hlt
  rw[LX (by simp;omega)] at hj;cases hj)
 unfold execOp;simp only[ho,hx,Instr.loadAt,Instr.sureAddr,Sem.run_bind,Sem.run_pure,Result.andThen_ok,this]
theorem de (hr:HR g c)(ht:AU P tab){T:Nat}{x:Operand}(ho:o.op= .load T x)(hok:(tab T).ok=true)(hg:(tab T).agg=false){bl off:Nat}(hx:a.eval x= .pointer (some ⟨bl,off,none⟩))
  {v:AV} {u:Value} (hc:c.w.cell? ⟨bl,off,none⟩=some u) (hv:Am g c v u):CI P o a g c id v []:=by
 refine CI.pure hr (u:=u) ?_ hv;unfold execOp;simp only[ho,hx,Instr.loadAt,Instr.sureAddr,Sem.run_bind,Sem.run_pure,Result.andThen_ok,db ht hok hg c.w _ u hc]
theorem dg (n:Nat)(f:Nat->Value){j:Nat}(h:j<n):((List.range n).map f).toArray[j]? =some (f j):=by
 rw[Np,Lj,Bg h];rfl
theorem dh (hr:HR g c)(ht:AU P tab){T:Nat}{x:Operand}(ho:o.op= .load T x)(hok:(tab T).ok=true){i off:Nat}{cs:List AV}(hx:Am g c (.pt i off) (a.eval x))(hi:c.hp i=some (.bx cs)){v:AV}
  (hv:(if (tab T).agg then(sub off (tab T).size cs).map AV.ag else cs[off]?)=some v):CI P o a g c id v []:=by
 obtain⟨e,_,_⟩:=hx.pt;obtain⟨T',vs,h1,h2,h3⟩:=hr.obj i _ hi;have hcell:∀k,c.w.cell? ⟨c.φ i,k,none⟩=vs[k]? :=fun k=>by simp[World.cell?,h1]
 cases hg:(tab T).agg with
 |true=>
  simp only[hg,if_true,La] at hv;obtain⟨ys,hs,rfl⟩:=hv;obtain⟨h4,h5,h6⟩:=V4 hs;refine dc hr ht ho hok hg e (fun j=>vs.getD (off+j) undef) (fun j hj=> ?_) ⟨_,rfl,by simp[h6],fun j y hy=> ?_⟩
  ·rw[hcell,LA (by omega)];simp[Array.getD,show off+j<vs.size by omega]
  ·rw[h5] at hy;obtain⟨hj,hy2⟩:=KM _ _ _ _ _ hy;obtain⟨u,e1,e2⟩:=h3 _ _ hy2;refine⟨u,?_,e2⟩;rw[dg _ _ hj];have hlt:off+j<vs.size:=(by omega);rw[LA hlt] at e1;simp only[Le] at e1;simp[Array.getD,hlt,e1]
 |false=>
  simp only[hg,Nl,if_false] at hv;obtain⟨u,e1,e2⟩:=h3 off v hv;exact de hr ht ho hok hg e ((hcell off).trans e1) e2.toAt
theorem YZ (hr:HR g c)(ht:AU P tab){T:Nat}{x:Operand}(ho:o.op= .load T x)(hok:(tab T).ok=true){bl of off:Nat}{b:Bool}{cs:List D}(us:Nat->Value)(hx:a.eval x= .pointer (some ⟨bl,of+off,none⟩))
  (hm:∀(j:Nat) (d:D),cs[j]? =some d->c.w.cell? ⟨bl,of+j,none⟩=some (us j)) (hd:∀(j:Nat) (d:D),cs[j]? =some d->RC c.w (Im g c b) d (us j)) {v:AV}
  (hv:(if (tab T).agg then(sub off (tab T).size cs).map (fun c=>AV.d (.ag c) b) else(cs[off]?).map (Aw b))=some v):CI P o a g c id v []:=by
 cases hg:(tab T).agg with
 |true=>
  simp only[hg,if_true,La] at hv;obtain⟨ys,hs,rfl⟩:=hv;obtain⟨h4,h5,h6⟩:=V4 hs;refine dc hr ht ho hok hg hx (fun j=>us (off+j)) (fun j hj=> ?_) ⟨_,rfl,by simp[h6],fun j y hy=> ?_⟩
  ·rw[Nu];exact hm (off+j) _ (Ld (by omega))
  ·rw[h5] at hy;obtain⟨hj,hy2⟩:=KM _ _ _ _ _ hy;exact⟨_,dg _ _ hj,hd _ _ hy2⟩
 |false=>
  simp only[hg,Nl,if_false,La] at hv;obtain⟨d,hd1,rfl⟩:=hv;exact de hr ht ho hok hg hx (hm off d hd1) (hd off d hd1).toRA.toAt
theorem di (hr:HR g c)(ht:AU P tab){T:Nat}{x:Operand}(ho:o.op= .load T x)(hok:(tab T).ok=true){i ver k off sz:Nat}{br fz:Bool}{es:List (List D)}{cs:List D}(hx:Am g c (.pr i ver k off) (a.eval x))(hi:c.hp i=some (.rw es sz ver br fz))(hk:es[k]? =some cs){v:AV}
  (hv:(if (tab T).agg then(sub off (tab T).size cs).map (fun c=>AV.d (.ag c) br) else(cs[off]?).map (Aw br))=some v):CI P o a g c id v []:=by
 obtain⟨e,_⟩:=hx.pr hi;obtain⟨h0,hz,T',vs,C,h1,h2,h3,h4,h5⟩:=hr.obj i _ hi;refine YZ hr ht ho hok (fun j=>vs.getD (k*sz+j) undef) e (fun j d hj=> ?_) (fun j d hj=> ?_) hv
 ·obtain⟨u,e1,e2⟩:=h5 k j cs d hk hj;have hlt:k*sz+j<vs.size:=by
   rcases Nf (k*sz+j) vs.size with h |h
   ·exact h
   rw[N7 h] at e1;cases e1
  simp[World.cell?,h1,Array.getD,hlt]
 obtain⟨u,e1,e2⟩:=h5 k j cs d hk hj;have hlt:k*sz+j<vs.size:=by
  rcases Nf (k*sz+j) vs.size with h |h
  ·exact h
  rw[N7 h] at e1;cases e1
 rw[LA hlt] at e1;simp only[Le] at e1;simpa [Array.getD,hlt,e1] using e2
end
end
end Go.Proofs.YtnmkbmefohakmaaGreat.Ab
