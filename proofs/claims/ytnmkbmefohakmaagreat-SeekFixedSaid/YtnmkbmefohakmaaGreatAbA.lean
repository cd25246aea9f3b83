/-
 The machine that works with plain values: what it does, how its data stand in memory, its small steps.
-/
import Derived.Calls
import Derived.Tactics
import Derived.Below
import Derived.Laws.AppendOwn
import Derived.WalkKit
import Derived.Laws.Tables
import Derived.Great.BuildSlice
import Derived.Laws.AppendOwnNone
set_option linter.all false
namespace Go.Proofs.YtnmkbmefohakmaaGreat.Ab
set_option linter.defProp false
def La:=@Option.map_eq_some_iff
def Lb:=@List.getElem?_eq_some_iff
def Lc:=@Nat.le_refl
def Ld:=@List.length_append
def Le:=@List.getElem?_eq_getElem
def Lf:=@Option.some.injEq
def Lg:=@Nat.zero_le
def Lh:=@List.length_cons
def Li:=@List.map_cons
def Lj:=@List.mem_cons_of_mem
def Lk:=@Int.toNat_natCast
def Ll:=@List.length_singleton
def Lm:=@List.drop_eq_getElem_cons
def Ln:=@Bool.and_eq_true
def Lo:=@List.mem_cons_self
def Lp:=@List.getElem?_map
def Lq:=@List.append_assoc
def Lr:=@List.mem_cons
def Ls:=@Nat.lt_succ_self
def Lt:=@List.mem_singleton
def Lu:=@List.length_nil
def Lv:=@Nat.le_trans
def Lw:=@List.map_nil
def Ly:=@List.mem_append
def Lz:=@List.mem_of_getElem?
def LA:=@List.nil_append
def LB:=@Prod.mk.injEq
def LC:=@List.length_take
def LD:=@Array.getElem?_eq_getElem
def LE:=@List.length_map
def LF:=@Nat.lt_of_lt_of_le
def LG:=@List.drop_of_length_le
def LH:=@List.mem_map_of_mem
def LI:=@Array.getD_eq_getD_getElem?
def LJ:=@List.drop_zero
def LK:=@List.take_append_drop
def LL:=@List.cons_append
def LM:=@Option.some.inj
def LN:=@Nat.not_lt_zero
def LO:=@List.mem_map
def LP:=@List.all_eq_true
def LQ:=@Option.map_some
def LR:=@Bool.or_eq_true
def LS:=@Nat.mul_le_mul_right
def LT:=@Bool.false_and
def LU:=@Option.bind_some
def LV:=@List.eq_nil_of_length_eq_zero
def LW:=@Array.getElem?_eq_some_iff
def LX:=@List.append_nil
def LY:=@Nat.lt_or_ge
def LZ:=@List.getElem_mem
def L8:=@List.not_mem_nil
def Na:=@List.nodup_cons
def Nb:=@List.mem_filter
def Nc:=@List.map_append
def Nf:=@List.getElem?_cons_zero
def Ng:=@List.size_toArray
def Nh:=@List.any_eq_true
def Ni:=@Bool.eq_iff_iff
def Nj:=@Nat.add_mul
def Nk:=@List.getElem?_eq_none
def Nl:=@List.reverse_cons
def Nm:=@List.getElem?_append_right
def Nn:=@List.mem_append_right
def Np:=@List.reverse_nil
def Nq:=@List.getElem?_take
def Nr:=@Bool.false_eq_true
def Ns:=@List.map_congr_left
def Nt:=@List.drop_eq_nil_of_le
def Nu:=@List.mem_append_left
def Nv:=@List.length_drop
def Nw:=@Option.getD_some
def Nx:=@List.getElem?_toArray
def Ny:=@Nat.add_assoc
def Nz:=@List.pairwise_append
def NA:=@List.length_pos_iff
def NB:=@Bool.and_self
def NC:=@Bool.true_and
def ND:=@List.take_of_length_le
def NE:=@Nat.zero_add
def NF:=@Bool.not_eq_true'
def NG:=@Int.le_trans
def NH:=@Bool.and_false
def NI:=@List.all_cons
def NJ:=@Option.isSome_iff_exists
def NK:=@List.map_set
def NL:=@List.length_replicate
def NM:=@Nat.le_of_ble_eq_true
def NN:=@Array.getElem?_append_left
def NO:=@List.all_nil
def NP:=@List.getElem?_append_left
def NQ:=@List.mem_of_find?_eq_some
def NR:=@Array.length_toList
def NS:=@Function.comp_def
def NT:=@Array.getElem?_toList
def NU:=@List.length_filter_le
def NV:=@List.getElem?_drop
def NW:=@Nat.add_zero
def NX:=@List.nodup_nil
def NY:=@Nat.blt_eq
def NZ:=@List.length_set
def N3:=@List.mem_iff_getElem?
def N6:=@Nat.le_add_right
def N7:=@Int.natCast_zero
def N8:=@List.map_take
def N9:=@List.mem_range
def Ba:=@List.getElem?_replicate
def Bb:=@List.length_eq_zero_iff
def Bc:=@Array.getElem?_eq_none
def Bd:=@List.zipWith_cons_cons
def Be:=@Bool.false_or
def Bg:=@List.drop_length
def Bh:=@Array.getElem?_modify
def Bi:=@List.pairwise_iff_getElem
def Bj:=@List.map_map
def Bk:=@List.getElem?_range
def Bl:=@List.length_reverse
def Bm:=@Nat.mul_le_mul
def Bn:=@List.dropLast_concat_getLast
def Bo:=@Nat.one_mul
def Bp:=@Int.le_refl
def Br:=@Array.getElem?_append_right
def Bs:=@List.foldl_cons
def Bu:=@List.contains_iff_mem
def Bv:=@List.take_add_one
def Bw:=@List.getElem?_append
def Bx:=@Classical.byContradiction
def By:=@Nat.ble_eq
def BA:=@List.mem_or_eq_of_mem_set
def BB:=@Nat.le_succ
def BC:=@Nat.mul_comm
def BD:=@List.take_length
def BE:=@Array.getElem?_setIfInBounds_ne
def BF:=@List.replicate_append_replicate
def BG:=@List.getElem?_cons_succ
def BH:=@List.pairwise_singleton
def BI:=@Bool.not_true
def BJ:=@List.sum_cons
def BK:=@Array.eq_empty_of_size_eq_zero
def BL:=@Nat.eq_zero_or_pos
def BM:=@Nat.lt_of_le_of_lt
def BN:=@List.ext_getElem?
def BO:=@List.getElem?_set
def BP:=@List.nodup_append
def BQ:=@Nat.zero_mul
def BR:=@Nat.le_of_lt
def BS:=@Nat.sub_self
def BT:=@Nat.add_comm
def BU:=@List.drop_drop
def BV:=@Nat.mod_eq_of_lt
def BW:=@Nat.eq_of_mul_eq_mul_right
def BX:=@Nat.add_mul_mod_self_right
def BY:=@Array.getElem?_setIfInBounds_self_of_lt
def BZ:=@List.any_cons
def B0:=@List.getD_eq_getElem?_getD
def B5:=@Prod.mk.inj
def B6:=@List.flatten_append
def B7:=@List.filter_eq_self
def B8:=@Nat.min_eq_left
def B9:=@List.ne_nil_of_length_pos
def Oa:=@Array.getElem?_map
def Ob:=@Nat.sub_zero
def Oc:=@List.pairwise_cons
def Od:=@Option.bind_eq_some_iff
def Oe:=@Array.size_append
def Og:=@Nat.lt_trichotomy
def Oh:=@List.mem_flatMap
def Oi:=@Array.all_eq_true_iff_forall_mem
def Oj:=@List.isEmpty_iff
def Ok:=@List.filter_cons
def Ol:=@Array.mem_of_getElem?
def Om:=@List.set_append_right
def On:=@Nat.mod_lt
def Oo:=@Array.getElem?_range
def Oq:=@Bool.true_or
def Ot:=@UInt8.toNat_inj
def Ou:=@List.getElem?_set_ne
def Ov:=@List.toList_toArray
def Ow:=@List.take_succ_cons
def Ox:=@List.getElem_of_mem
def Oy:=@Bool.not_false
def Oz:=@Bool.and_assoc
def OA:=@List.mem_filterMap
def OB:=@Option.toList_some
def OC:=@List.set_cons_zero
def OD:=@Option.isSome_some
def OE:=@Array.toList_setIfInBounds
def OF:=@Bool.and_true
def OG:=@Int.fdiv_eq_ediv_of_nonneg
def OH:=@List.getElem?_eq_none_iff
def OI:=@Nat.le_of_not_lt
def OJ:=@Nat.succ_mul
def OL:=@List.mem_reverse
def OM:=@Nat.lt_trans
def ON:=@Int.natCast_mul
def OO:=@List.range_succ
def OP:=@List.find?_some
def OQ:=@List.head?_drop
def OR:=@Array.getElem?_extract
def OS:=@List.reverse_singleton
def OT:=@List.length_eq_one_iff
def OU:=@List.filter_eq_nil_iff
def OV:=@List.singleton_append
def OW:=@List.take_zero
def OX:=@Classical.choose_spec
def OY:=@UInt8.lt_iff_toNat_lt
def OZ:=@Nat.eq_of_beq_eq_true
def O0:=@List.perm_append_comm
def O1:=@List.Perm.append_left
def O2:=@List.drop_left
def O3:=@List.getElem?_zipIdx
def O4:=@Nat.div_lt_of_lt_mul
def O5:=@Array.toList_extract
def O6:=@List.mem_erase_of_ne
def O7:=@List.mem_iff_getElem
def O8:=@List.mem_of_mem_take
def O9:=@Bool.and_eq_true_iff
def Ia:=@List.map_drop
def Ib:=@List.cons.inj
def Ic:=@Array.getElem?_push
def Id:=@Array.toList_append
def Ie:=@List.drop_succ_cons
def If:=@List.reverse_append
def Ig:=@List.takeWhile_cons
def Ih:=@Array.ext
def Ii:=@Array.append_assoc
def Ij:=@Array.all_eq_true'
def Ik:=@Bool.or_true
def Il:=@List.getElem_range
def In:=@Nat.add_right_comm
def Io:=@List.set_cons_succ
def Ip:=@Nat.add_sub_cancel
def Iq:=@Array.extract_size
def Ir:=@List.map_replicate
def Is:=@List.ne_nil_of_mem
def Iu:=@Int.natCast_nonneg
def Iv:=@Bool.not_eq_false'
def Iw:=@List.find?_eq_none
def Ix:=@Bool.false_ne_true
def Iy:=@List.pairwise_map
def Iz:=@List.filter_congr
def IA:=@List.flatMap_cons
def IB:=@List.foldl_append
def IC:=@List.zipIdx_cons
def ID:=@Nat.div_eq_of_lt
def IE:=@List.nodup_range
def IF:=@List.flatMap_nil
def IG:=@List.perm_middle
def IH:=@Array.ext'
section
inductive D where
 |v (x:Value)
 |sl (es:List (List D))
 |pt (cs:List D) (off:Nat)
 |mp (es:List (Value × Bool × List D))
 |ag (cs:List D)
 |tu (vs:List D)
 deriving Inhabited
inductive AV where
 |v (x:Value)
 |d (x:D) (b:Bool)
 |ag (cs:List AV)
 |tu (vs:List AV)
 |pt (id off:Nat)
 |pr (id ver i off:Nat)
 |so (id ver off len:Nat)
 |mo (id:Nat)
 |fn (f:FuncId) (caps:List AV)
 |un
 deriving Inhabited
inductive AO where
 |bx (cs:List AV)
 |rw(es:List (List D)) (sz ver:Nat) (br fz:Bool)
 |mo (es:List (Value × AV)) (dl:Bool)
 deriving Inhabited
inductive TK where
 |other |slice |struct |array (n:Nat) |string |int (k:IntKind) |map |bool |ptr
 deriving DecidableEq,Inhabited
structure TI where
 ok:Bool:=false
 kind:TK:=.other
 size:Nat:=1
 bytes:Nat:=8
 offs:List (Nat × Nat):=[]
 elem:Nat:=0
 zero:List Value:=[]
 flat:Option (List TK):=none
 mkey:Option (Bool × List TK):=none
 deriving Inhabited
def TI.agg (t:TI):Bool:=match t.kind with | .struct | .array _=>true |_=>false
def upd {α:Type}(k:Nat)(x:α)(f:Nat->α):Nat->α:=fun j=>if j=k then x else f j
abbrev Fr:=Nat->AV
abbrev Hp:=Nat->Option AO
structure St where
 fr:Fr
 hp:Hp
 nx:Nat
def CC:List (Nat × AO)->Hp->Hp
 |[],h=>h
 |(k,o)::r,h=>CC r (upd k (some o) h)
def AK:Fr:=fun _=>.un
def AM:Hp:=fun _=>none
def CE (b:Bool):D->AV
 | .v x=>.v x
 |d=>.d d b
def MC:Value->AV
 | .agg cs=>if cs.toList.all (·.oneCell') then .ag (cs.toList.map AV.v) else .un
 | .tuple _=>.un
 |x=>.v x
def ev (fr:Fr):Operand->AV
 | .tmp t=>fr t
 | .const x=>MC x
 | .func f=>.fn f []
 | .global _=>.un
def Dv:AV->Option (List AV)
 | .ag cs=>some cs
 | .d (.ag cs) b=>some (cs.map (CE b))
 | .d (.tu _) _ | .tu _ | .un=>none
 |x=>some [x]
def GK:AV->Option (List AV)
 | .ag cs=>some cs
 | .d (.ag cs) b=>some (cs.map (CE b))
 |_=>none
def G3:D->List D
 | .ag cs=>cs
 |x=>[x]
def U4:D->Bool
 | .v _=>true
 |_=>false
def J0 (cs:List D):Bool:=cs.all U4
def KK (es:List (List D)):Bool:=es.all J0
def Ce (hp:Hp):AV->Option (D × Bool × List Nat)
 | .v (.slice none 0 0)=>some (.sl [],false,[])
 | .v x=>some (.v x,false,[])
 | .d (.ag _) _ | .d (.tu _) _=>none
 | .d x b=>some (x,b,[])
 | .so id d off n=>match hp id with
  |some (.rw e _ v f _)=>if v=d then some (.sl ((e.drop off).take n),f,[id]) else none
  |_=>none
 |_=>none
def DR (hp:Hp):List AV->Option (List D × Bool × List Nat)
 |[]=>some ([],false,[])
 |c::r=>match Ce hp c,DR hp r with
  |some (d,b,i),some (e,f,h)=>some (d::e,b||f,i++h)
  |_,_=>none
def Ek (hp:Hp):AV->Option (D × Bool × List Nat)
 | .ag cs=>(DR hp cs).map fun(d,b,i)=>(.ag d,b,i)
 | .d (.ag cs) b=>some (.ag cs,b&& !J0 cs,[])
 |x=>Ce hp x
def Cj (hp:Hp):List AV->Option (List D × Bool × List Nat)
 |[]=>some ([],false,[])
 |c::r=>match Ek hp c,Cj hp r with
  |some (d,b,i),some (e,f,h)=>some (d::e,b||f,i++h)
  |_,_=>none
def toR (hp:Hp):AV->Option (D × Bool × List Nat)
 | .tu cs=>(Cj hp cs).map fun(d,b,i)=>(.tu d,b,i)
 |x=>Ek hp x
def frz (hp:Hp):List Nat->List (Nat × AO)
 |[]=>[]
 |i::r=>match hp i with
  |some (.rw b d v e _)=>(i,.rw b d v e true)::frz hp r
  |_=>frz hp r
def JU (i:Nat):List Nat->Bool
 |[]=>true
 |j::r=>if i=j then false else JU i r
def DD {α:Type}(i:Nat)(xs b:List α):List α:=b.take i++xs++b.drop (i+xs.length)
def sub {α:Type}(i n:Nat)(xs:List α):Option (List α):=if i+n<=xs.length then some ((xs.drop i).take n) else none
def KL (d:BinOp)(k:IntKind)(a b:Int):Option Value:=
 match d with
 | .add=>some (.int k (k.wrap (a+b)))
 | .sub=>some (.int k (k.wrap (a-b)))
 | .mul=>some (.int k (k.wrap (a*b)))
 | .quo=>if b=0 then none else some (.int k (k.wrap (a.tdiv b)))
 | .rem=>if b=0 then none else some (.int k (a.tmod b))
 | .and=>some (.int k (k.wrap (BitVec.ofInt k.bits a &&& BitVec.ofInt k.bits b).toNat))
 | .or=>some (.int k (k.wrap (BitVec.ofInt k.bits a ||| BitVec.ofInt k.bits b).toNat))
 | .xor=>some (.int k (k.wrap (BitVec.ofInt k.bits a^^^BitVec.ofInt k.bits b).toNat))
 | .andNot=>some (.int k (k.wrap (BitVec.ofInt k.bits a &&& ~~~BitVec.ofInt k.bits b).toNat))
 | .lss=>some (.bool (decide (a<b)))
 | .leq=>some (.bool (decide (a<=b)))
 | .gtr=>some (.bool (decide (a > b)))
 | .geq=>some (.bool (decide (a>=b)))
 | .eql=>some (.bool (a==b))
 | .neq=>some (.bool (a != b))
 |_=>none
def Ml (d:BinOp)(a b:ByteArray):Option Value:=
 match d with
 | .add=>if a.size+b.size<=maxLen then some (.string (a++b)) else none
 | .eql=>some (.bool (a.toList==b.toList))
 | .neq=>some (.bool !(a.toList==b.toList))
 | .lss=>some (.bool (Op.bytesLess a.toList b.toList))
 | .leq=>some (.bool (Op.bytesLess a.toList b.toList||a.toList==b.toList))
 | .gtr=>some (.bool !(Op.bytesLess a.toList b.toList||a.toList==b.toList))
 | .geq=>some (.bool !(Op.bytesLess a.toList b.toList))
 |_=>none
def Ge (d:BinOp):Value->Value->Option Value
 | .int k a,.int e b=>match d with
  | .shl=>if b<0 then none else some (.int k (k.wrap (a*2^(min b.toNat k.bits))))
  | .shr=>if b<0 then none else some (.int k (a.fdiv (2^(min b.toNat k.bits))))
  |_=>if k=e then KL d k a b else none
 | .string a,.string b=>Ml d a b
 |_,_=>none
def JV (tab:Nat->TI)(T:Nat)(b:BinOp):Value->Value->Option Value
 | .slice none 0 0,.slice none 0 0=>if (tab T).kind= .slice then match b with
  | .eql=>some (.bool true)
  | .neq=>some (.bool false)
  |_=>none else none
 | .pointer none,.pointer none=>if (tab T).kind= .ptr then match b with
  | .eql=>some (.bool true)
  | .neq=>some (.bool false)
  |_=>none else none
 |x,y=>Ge b x y
def Gf:TK->Value->Value->Option Bool
 | .int k,.int d a,.int e b=>if k=d/\k=e then some (a==b) else none
 | .string,.string a,.string b=>some (a==b)
 | .bool,.bool a,.bool b=>some (a==b)
 |_,_,_=>none
def EH:List TK->List Value->List Value->Option Bool
 |[],[],[]=>some true
 |k::d,x::e,y::f=>match Gf k x y,EH d e f with
  |some b,some c=>some (b&&c)
  |_,_=>none
 |_,_,_=>none
def J7:List AV->Option (List Value)
 |[]=>some []
 | .v x::r=>(J7 r).map (x:: ·)
 |_=>none
def GD:AV->Bool
 | .ag _ | .tu _ | .un | .d (.ag _) _ | .d (.tu _) _=>false
 |_=>true
def TD:AV->Bool
 | .pt _ _ | .pr _ _ _ _ | .d (.pt _ _) _=>true
 |_=>false
def Xx:AV->Bool
 | .d (.sl (_::_)) _=>true
 |_=>false
def Mm:AV->Bool
 | .mo _=>true
 |_=>false
def TE:BinOp->Option AV
 | .eql=>some (.v (.bool false))
 | .neq=>some (.v (.bool true))
 |_=>none
def Pd (tab:Nat->TI)(d:BinOp)(T:Nat)(x y:AV):Option AV:=
 match x,y with
 | .v (.bool a),.v (.bool b)=>match (tab T).kind,d with
  | .bool,.eql=>some (.v (.bool (a==b)))
  | .bool,.neq=>some (.v (.bool !(a==b)))
  |_,_=>none
 | .v a,.v b=>(JV tab T d a b).map .v
 |x,.v (.pointer none)=>if TD x/\(tab T).kind= .ptr then match d with
  | .eql=>some (.v (.bool false))
  | .neq=>some (.v (.bool true))
  |_=>none else none
 |x,.v (.slice none 0 0)=>if Xx x/\(tab T).kind= .slice then TE d else none
 |x,.v (.map none)=>if Mm x/\(tab T).mkey.isSome then TE d else none
 |x,y=>match (tab T).flat,GK x,GK y with
  |some e,some cs,some f=>match J7 cs,J7 f with
   |some h,some l=>match EH e h l with
    |some b=>match d with
     | .eql=>some (.v (.bool b))
     | .neq=>some (.v (.bool !b))
     |_=>none
    |none=>none
   |_,_=>none
  |_,_,_=>none
def Fz (tab:Nat->TI)(hp:Hp)(b:BinOp)(T:Nat)(x y:AV):Option AV:=
 match x,y with
 | .so i v _ _,.v (.slice none 0 0)=>match hp i with
  |some (.rw _ _ d _ _)=>if v=d/\(tab T).kind= .slice then TE b else none
  |_=>none
 |x,y=>Pd tab b T x y
def Xy:AV->Option Int
 | .v (.int _ n)=>some n
 |_=>none
def EI (x:AV):Option Nat:=match Xy x with
 |some n=>if 0<=n then some n.toNat else none
 |none=>none
def IN (ρ:Operand->AV)(b:Nat)(d e:Option Operand):Option (Nat × Nat):=
 match (match d with |none=>some 0 |some o=>EI (ρ o)),(match e with |none=>some b |some o=>EI (ρ o)) with
 |some l,some h=>if l<=h/\h<=b then some (l,h) else none
 |_,_=>none
def MD (b:List (Nat × Nat))(ρ:Operand->AV):List AV->List (Nat × Operand)->Option (List AV)
 |cs,[]=>some cs
 |cs,(i,x)::r=>match b[i]?,Dv (ρ x) with
  |some (off,n),some d=>if d.length=n/\off+n<=cs.length then MD b ρ (DD off d cs) r else none
  |_,_=>none
def GL (hp:Hp):AV->Option (List (List D) × Bool × List Nat)
 | .d (.sl d) b=>some (d,b&& !KK d,[])
 | .so id v off n=>match hp id with
  |some (.rw e _ f h _)=>if v=f then some ((e.drop off).take n,h,[id]) else none
  |_=>none
 | .v (.slice none 0 0)=>some ([],false,[])
 |_=>none
def EX (sz:Nat)(es:List (List D)):Bool:=es.all fun e=>e.length==sz
def Mn (k:Nat):AV->Option AV
 | .pt i o=>some (.pt i (o+k))
 | .d (.pt cs o) b=>some (.d (.pt cs (o+k)) b)
 | .pr i d r o=>some (.pr i d r (o+k))
 |_=>none
def KM (tab:Nat->TI)(T:Nat)(x:AV)(i:Option Nat):Option (AV × List (Nat × AO)):=
 match (tab T).kind,i with
 | .array b,some n=>if n<b then(Mn (n*(tab (tab T).elem).size) x).map fun v=>(v,[]) else none
 |_,_=>none
def GM:AV->Bool
 | .tu _ | .d (.tu _) _=>false
 |_=>true
def Es (x:AV):Option Value:=
 match GK x with
 |some cs=>(J7 cs).map fun b=>.agg b.toArray
 |none=>match x with
  | .v y=>some y
  |_=>none
def Q5:TK->Value->Bool
 | .int k,.int b _=>k==b
 | .string,.string _=>true
 | .bool,.bool _=>true
 |_,_=>false
def GN:List TK->List Value->Bool
 |[],[]=>true
 |k::b,x::d=>Q5 k x&&GN b d
 |_,_=>false
def Gg:Bool × List TK->Value->Bool
 |(true,b),.agg d=>GN b d.toList
 |(false,[k]),x=>Q5 k x
 |_,_=>false
def KN:Bool × List TK->Value->Value->Option Bool
 |(true,b),.agg d,.agg e=>EH b d.toList e.toList
 |(false,[k]),x,y=>Gf k x y
 |_,_,_=>none
def J8 (q:Bool × List TK)(x:Value):List Value->Option (Option Nat)
 |[]=>some none
 |y::r=>match KN q x y with
  |some true=>some (some 0)
  |some false=>match J8 q x r with
   |some (some i)=>some (some (i+1))
   |o=>o
  |none=>none
def D5 (q:Bool × List TK)(x:Value):List (Value × AV)->Option (Option (Nat × AV))
 |[]=>some none
 |(y,v)::r=>match KN q x y with
  |some true=>some (some (0,v))
  |some false=>match D5 q x r with
   |some (some (i,v))=>some (some (i+1,v))
   |o=>o
  |none=>none
def Eb (b:Bool):Bool × List D->AV
 |(true,cs)=>.d (.ag cs) b
 |(false,[c])=>CE b c
 |(false,_)=>.un
def Fe (b:Bool)(es:List (Value × Bool × List D)):List (Value × AV):=es.map fun p=>(p.1,Eb b p.2)
def KO:Value->D
 | .slice none 0 0=>.sl []
 |x=>.v x
def Pe (b:Bool)(t:TI):AV:=match t.agg,t.zero with
 |false,[.slice none 0 0]=>.v (.slice none 0 0)
 |a,z=>Eb b (a,z.map KO)
def JW (t:TI):Option AV:=if t.agg then some (.ag (t.zero.map AV.v)) else match t.zero with
 |[z]=>some (.v z)
 |_=>none
def Ec (q:Bool × List TK)(k:Value)(v:AV)(es:List (Value × AV)):Option (List (Value × AV)):=match D5 q k es with
 |some (some (i,_))=>some (es.set i (k,v))
 |some none=>some (es++[(k,v)])
 |none=>none
def IP (tab:Nat->TI)(T:Nat)(x:Option (List AV))(i:Option Nat):Option (AV × List (Nat × AO)):=
 match (tab T).kind,x,i with
 | .array b,some cs,some n=>if n<b then
   (if (tab (tab T).elem).agg then(sub (n*(tab (tab T).elem).size) (tab (tab T).elem).size cs).map fun c=>(.ag c,[]) else(cs[n*(tab (tab T).elem).size]?).map fun c=>(c,[])) else none
 |_,_,_=>none
def G9 (tab:Nat->TI)(id T b:Nat)(x:AV)(n:Option Nat):Option (AV × List (Nat × AO)):=
 match (tab b).kind,x,n with
 | .int _,.v (.slice none 0 0),some n=>if (tab T).kind= .slice/\(tab (tab T).elem).ok/\0<(tab (tab T).elem).size/\(tab (tab T).elem).bytes<=32768/\0<n/\n<=4294967296 then
   some (.so id 0 0 n,[(id,.rw (List.replicate n ((tab (tab T).elem).zero.map D.v)) (tab (tab T).elem).size 0 false false)]) else none
 |_,_,_=>none
def TF:List (List D)->Option (List UInt8)
 |[]=>some []
 |[.v (.int .u8 n)]::r=>(TF r).map fun l=>UInt8.ofNat n.toNat::l
 |_::_=>none
def CM (tab:Nat->TI)(ρ:Operand->AV)(hp:Hp)(id:Nat):Op->Option (AV × List (Nat × AO))
 | .move x | .assign x=>some (ρ x,[])
 | .pick c a b=>match ρ c with
  | .v (.bool t)=>some (if t then ρ a else ρ b,[])
  |_=>none
 | .alloc T=>if (tab T).ok then some (.pt id 0,[(id,.bx ((tab T).zero.map AV.v))]) else none
 | .box _ x=>(Dv (ρ x)).map fun cs=>(.pt id 0,[(id,.bx cs)])
 | .build T K=>if (tab T).ok/\(tab T).agg then(MD (tab T).offs ρ ((tab T).zero.map AV.v) K.toList).map fun cs=>(.ag cs,[]) else none
 | .load T x=>if (tab T).ok then match ρ x with
  | .pt i off=>match hp i with
   |some (.bx cs)=>if (tab T).agg then(sub off (tab T).size cs).map fun c=>(.ag c,[]) else(cs[off]?).map fun c=>(c,[])
   |_=>none
  | .d (.pt cs off) b=>if (tab T).agg then(sub off (tab T).size cs).map fun c=>(.d (.ag c) b,[]) else(cs[off]?).map fun c=>(CE b c,[])
  | .pr i r k off=>match hp i with
   |some (.rw e _ v C _)=>if v=r then match e[k]? with
     |some cs=>if (tab T).agg then(sub off (tab T).size cs).map fun c=>(.d (.ag c) C,[]) else(cs[off]?).map fun c=>(CE C c,[])
     |none=>none
    else none
   |_=>none
  |_=>none else none
 | .store T x y=>if (tab T).ok then match ρ x,Dv (ρ y) with
  | .pt i off,some E=>match hp i with
   |some (.bx cs)=>if E.length=(tab T).size/\off+E.length<=cs.length then some (.un,[(i,.bx (DD off E cs))]) else none
   |_=>none
  | .pr i r k off,some E=>match hp i,DR hp E with
   |some (.rw e w v C false),some (F,b,is)=>match e[k]? with
    |some cs=>if r=v/\E.length=(tab T).size/\off+E.length<=cs.length/\JU i is=true then some (.un,frz hp is++[(i,.rw (e.set k (DD off F cs)) w v (C||b) false)]) else none
    |none=>none
   |_,_=>none
  |_,_=>none else none
 | .nilCheck x=>if TD (ρ x) then some (ρ x,[]) else none
 | .binOp N T x y _=>(Fz tab hp N T (ρ x) (ρ y)).map fun v=>(v,[])
 | .unOp N _ x=>match N,ρ x with
  | .not,.v (.bool b)=>some (.v (.bool !b),[])
  | .neg,.v (.int k n)=>some (.v (.int k (k.wrap (0-n))),[])
  |_,_=>none
 | .convert s t x=>match (tab s).ok,(tab t).kind,ρ x with
  |true,.int k,.v (.int _ n)=>some (.v (.int k (k.wrap n)),[])
  |true,.string,.v (.string s)=>some (.v (.string s),[])
  |true,.string,.so i r off G=>match hp i with
   |some (.rw e w v _ _)=>if v=r/\w=1/\(tab s).kind= .slice/\(tab (tab s).elem).kind= .int .u8 then(TF ((e.drop off).take G)).map fun R=>(.v (.string ⟨R.toArray⟩),[]) else none
   |_=>none
  |_,_,_=>none
 | .fieldAddr T x f=>if (tab T).kind= .struct then match (tab T).offs[f]? with
  |some (off,n)=>if n=0 then none else match ρ x with
   | .pt i o=>some (.pt i (o+off),[])
   | .d (.pt cs o) b=>some (.d (.pt cs (o+off)) b,[])
   | .pr i r k o=>some (.pr i r k (o+off),[])
   |_=>none
  |none=>none else none
 | .indexAddr T x i=>if (tab T).kind= .slice then match ρ x,EI (ρ i) with
  | .d (.sl e) b,some n=>match e[n]? with
   |some cs=>if (tab (tab T).elem).ok/\cs.length=(tab (tab T).elem).size then some (.d (.pt cs 0) b,[]) else none
   |none=>none
  | .so i r off G,some n=>match hp i with
   |some (.rw _ w v _ _)=>if n<G/\r=v/\(tab (tab T).elem).ok/\w=(tab (tab T).elem).size then some (.pr i r (off+n) 0,[]) else none
   |_=>none
  |_,_=>none else KM tab T (ρ x) (EI (ρ i))
 | .index T x i=>if (tab T).kind= .string then match ρ x,EI (ρ i) with
  | .v (.string s),some n=>(s[n]?).map fun b=>(.v (.int .u8 b.toNat),[])
  |_,_=>none else IP tab T (GK (ρ x)) (EI (ρ i))
 | .slice T x L M none=>match (tab T).kind,ρ x with
  | .string,.v (.string s)=>(IN ρ s.size L M).map fun p=>(.v (.string (s.extract p.1 p.2)),[])
  | .slice,.d (.sl e) b=>if (tab (tab T).elem).ok/\EX (tab (tab T).elem).size e then(IN ρ e.length L M).map fun p=>(.d (.sl ((e.take p.2).drop p.1)) b,[]) else none
  | .slice,.so i r off G=>match IN ρ G L M,hp i with
   |some (l,h),some (.rw _ w v _ _)=>if r=v/\(tab (tab T).elem).ok/\w=(tab (tab T).elem).size then(if l=0\/l<G then some (.so i r (off+l) (h-l),[]) else some (.d (.sl []) false,[])) else none
   |_,_=>none
  | .slice,.v (.slice none 0 0)=>if (tab (tab T).elem).ok then(IN ρ 0 L M).map fun _=>(.v (.slice none 0 0),[]) else none
  |_,_=>none
 | .extract x i=>match ρ x with
  | .tu S=>(S[i]?).map fun v=>(v,[])
  | .d (.tu F) b=>(F[i]?).map fun d=>(CE b d,[])
  |_=>none
 | .makeFunc (.func f) first O=>if first.size=0/\(O.toList.map ρ).all GD then some (.fn f (O.toList.map ρ),[]) else none
 | .buildSlice T n K=>if (tab T).kind= .slice/\K.toList.map (·.1)=List.range n/\(tab (tab T).elem).ok/\0<(tab (tab T).elem).size/\n*(tab (tab T).elem).size<=16777216 then
   match Cj hp (K.toList.map fun p=>ρ p.2) with
   |some (F,b,is)=>if EX (tab (tab T).elem).size (F.map G3) then some (.so id 0 0 n,frz hp is++[(id,.rw (F.map G3) (tab (tab T).elem).size 0 b false)]) else none
   |none=>none
  else none
 | .call { callee:=.builtin .len,args,argTypes }=>match args.toList,argTypes.toList with
  |[x],[T]=>match (tab T).kind,ρ x with
   | .slice,.d (.sl e) _=>some (.v (.int .i64 e.length),[])
   | .slice,.so _ _ _ n=>some (.v (.int .i64 n),[])
   | .slice,.v (.slice none 0 0)=>some (.v (.int .i64 0),[])
   | .string,.v (.string s)=>some (.v (.int .i64 s.size),[])
   |_,_=>none
  |_,_=>none
 | .call { callee:=.builtin .append,args,argTypes }=>match args.toList,argTypes.toList with
  |[x,y],[T,Q]=>if T=Q/\(tab T).kind= .slice/\(tab (tab T).elem).ok/\0<(tab (tab T).elem).size then
   match GL hp (ρ y),ρ x with
   |some (B,b,_),.v (.slice none 0 0)=>
    if EX (tab (tab T).elem).size B/\(tab (tab T).elem).bytes<=32768/\B.length<=4294967296 then
     if B.length=0 then some (.v (.slice none 0 0),[]) else some (.so id 0 0 B.length,[(id,.rw B (tab (tab T).elem).size 0 b false)])
    else none
   |some (B,b,_),.so i v off n=>match hp i with
    |some (.rw e w r C false)=>
     if v=r/\off=0/\n<=e.length/\w=(tab (tab T).elem).size/\EX w B/\(tab (tab T).elem).bytes<=32768/\n+B.length<=4294967296 then
      some (.so i (r+1) 0 (n+B.length),[(i,.rw (e.take n++B) w (r+1) (C||b) false)]) else none
    |_=>none
   |_,_=>none
  else G9 tab id T Q (ρ x) (EI (ρ y))
  |_,_=>none
 | .makeMap T none=>match (tab T).mkey with
  |some _=>some (.mo id,[(id,.mo [] false)])
  |none=>none
 | .lookup T x k J=>match (tab T).mkey,Es (ρ k),JW (tab (tab T).elem) with
  |some q,some A,some z=>if Gg q A then match ρ x with
   | .mo i=>match hp i with
    |some (.mo e _)=>match D5 q A e with
     |some none=>some (if J then .tu [z,.v (.bool false)] else z,[])
     |some (some (_,v))=>some (if J then .tu [v,.v (.bool true)] else v,[])
     |none=>none
    |_=>none
   | .d (.mp e) b=>match D5 q A (Fe b e) with
    |some none=>some (if J then .tu [Pe b (tab (tab T).elem),.v (.bool false)] else Pe b (tab (tab T).elem),[])
    |some (some (_,v))=>some (if J then .tu [v,.v (.bool true)] else v,[])
    |none=>none
   | .v (.map none)=>some (if J then .tu [z,.v (.bool false)] else z,[])
   |_=>none else none
  |_,_,_=>none
 | .mapUpdate T m k x | .insert T m k x=>match (tab T).mkey,Es (ρ k) with
  |some q,some A=>if Gg q A/\GM (ρ x) then match ρ m with
   | .mo i=>match hp i with
    |some (.mo e U)=>(Ec q A (ρ x) e).map fun V=>(.un,[(i,.mo V U)])
    |_=>none
   |_=>none else none
  |_,_=>none
 | .mapEntry T m k=>match (tab T).mkey,Es (ρ k),JW (tab (tab T).elem) with
  |some q,some A,some z=>if Gg q A then match ρ m with
   | .mo i=>match hp i with
    |some (.mo e false)=>match D5 q A e with
     |some none=>some (.tu [z,.v (.int .i64 e.length)],[(i,.mo (e++[(A,z)]) false)])
     |some (some (j,v))=>some (.tu [v,.v (.int .i64 j)],[(i,.mo (e.set j (A,v)) false)])
     |none=>none
    |_=>none
   |_=>none else none
  |_,_,_=>none
 | .entryStore _ m st x=>match ρ m,EI (ρ st) with
  | .mo i,some j=>if GM (ρ x) then match hp i with
   |some (.mo e false)=>match e[j]? with
    |some (k,_)=>some (.un,[(i,.mo (e.set j (k,ρ x)) false)])
    |none=>none
   |_=>none else none
  |_,_=>none
 | .call { callee:=.builtin .delete, .. }=>none
 | .makeSlice T l c=>if (tab T).kind= .slice/\(tab (tab T).elem).ok/\0<(tab (tab T).elem).size/\(tab (tab T).elem).bytes<=32768 then match EI (ρ l),EI (ρ c) with
  |some n,some m=>if n<=m/\m<=4294967296 then some (.so id 0 0 n,[(id,.rw (List.replicate n ((tab (tab T).elem).zero.map D.v)) (tab (tab T).elem).size 0 false false)]) else none
  |_,_=>none
  else none
 | .call { callee:=.builtin .min,args, .. }=>match args.toList with
  |[x,y]=>match ρ x,ρ y with
   | .v (.int k a),.v (.int _ b)=>some (.v (.int k (if b<a then b else a)),[])
   |_,_=>none
  |_=>none
 | .call { callee:=.builtin .max, .. }=>none
 | .call { callee:=.builtin .clear,args,argTypes }=>match args.toList,argTypes.toList with
  |[x],[T]=>if (tab T).kind= .slice/\(tab (tab T).elem).ok/\0<(tab (tab T).elem).size then match ρ x with
   | .v (.slice none 0 0)=>some (.tu [],[])
   | .so i r off n=>match hp i with
    |some (.rw e w v C false)=>if r=v/\w=(tab (tab T).elem).size/\off+n<=e.length then
      (if n=0 then some (.tu [],[]) else some (.tu [],[(i,.rw (e.take off++List.replicate n ((tab (tab T).elem).zero.map D.v)++e.drop (off+n)) w v C false)])) else none
    |_=>none
   |_=>none else none
  |_,_=>none
 | .call { callee:=.builtin .cap,args,argTypes }=>match args.toList,argTypes.toList with
  |[x],[T]=>match (tab T).kind,ρ x with
   | .slice,.v (.slice none 0 0)=>some (.v (.int .i64 0),[])
   |_,_=>none
  |_,_=>none
 |_=>none
end
variable {I I' kn:Nat->Prop}{bl i id j k off:Nat}{cs:List D}{o:AO}{p:Prop}{u:Value}{w':World}{x:Operand}{α:Type}
section
inductive RC (w:World) (I:Nat->Prop):D->Value->Prop
 |v (x:Value) (h:x.oneCell'=true):RC w I (.v x) x
 |nl (a:Option Addr) (c:Nat):RC w I (.sl []) (.slice a 0 c)
 |sl (es:List (List D)) (b o c sz:Nat) (us:Nat->Nat->Value) (hI:I b) (hc:es.length<=c)
   (hz:∀(i:Nat) (cs:List D),es[i]? =some cs->cs.length=sz)
   (hm:∀(i j:Nat) (cs:List D) (d:D),es[i]? =some cs->cs[j]? =some d->w.cell? ⟨b,o+i*sz+j,none⟩=some (us i j))
   (hd:∀(i j:Nat) (cs:List D) (d:D),es[i]? =some cs->cs[j]? =some d->RC w I d (us i j)):RC w I (.sl es) (.slice (some ⟨b,o,none⟩) es.length c)
 |pt (cs:List D) (off b o:Nat) (us:Nat->Value) (hI:I b)
   (hm:∀(j:Nat) (d:D),cs[j]? =some d->w.cell? ⟨b,o+j,none⟩=some (us j))
   (hd:∀(j:Nat) (d:D),cs[j]? =some d->RC w I d (us j)):RC w I (.pt cs off) (.pointer (some ⟨b,o+off,none⟩))
 |mp (es:List (Value × Bool × List D)) (r:Nat) (en:Array MapEntry) (k:Nat) (hI:I r) (hm:w.heap[r]? =some (.map en k)) (hn:en.size=es.length)
   (hk:∀(i:Nat) (x:Value) (ag:Bool) (cs:List D) (e:MapEntry),es[i]? =some (x,ag,cs)->en[i]? =some e->e.key=x/\e.val.cells.size=cs.length/\(ag=true->∃vs,e.val= .agg vs)/\(ag=false->e.val.cells= #[e.val]))
   (hd:∀(i j:Nat) (x:Value) (ag:Bool) (cs:List D) (e:MapEntry) (d:D) (u:Value),es[i]? =some (x,ag,cs)->en[i]? =some e->cs[j]? =some d->e.val.cells[j]? =some u->RC w I d u):RC w I (.mp es) (.map (some r))
theorem RC.mono {w:World}(z:∀b,I b->w'.heap[b]? =w.heap[b]?)(q:∀b,I b->I' b){d:D}(h:RC w I d u):RC w' I' d u:=by
 have A:∀(a:Addr),I a.block->w'.cell? a=w.cell? a:=fun a C=>World.cell?_of_block (z a.block C);induction h with
 |v x h=>exact .v x h
 |nl a c=>exact .nl a c
 |sl s b o c B t f l n y E m=>exact .sl s b o c B t (q b f) l n (fun i j cs d F G=>(A ⟨b,o+i*B+j,none⟩ f).trans (y i j cs d F G)) m
 |pt cs off b o t f l n m=>exact .pt cs off b o t (q b f) (fun j d e=>(A ⟨b,o+j,none⟩ f).trans (l j d e)) m
 |mp s r H k f l n y E m=>exact .mp s r H k (q r f) ((z r f).trans l) n y m
theorem RC.plain {w:World}{d:D}(hp:U4 d=true)(h:RC w I d u):RC w' I' d u:=by
 cases h with
 |v _ h=>exact .v _ h
 |_=>cases hp
theorem RC.one {w:World}{d:D}(h:RC w I d u):u.oneCell'=true:=by
 cases h<;>first |assumption |rfl
def Dj (w:World)(I:Nat->Prop)(d:D)(u:Value):Prop:=
 match d with
 | .ag cs=>∃b:Array Value,u= .agg b/\b.size=cs.length/\∀(j:Nat) (d:D),cs[j]? =some d->∃x,b[j]? =some x/\RC w I d x
 |d=>RC w I d u
def RV (w:World)(I:Nat->Prop)(d:D)(u:Value):Prop:=
 match d with
 | .tu e=>∃b:Array Value,u= .tuple b/\b.size=e.length/\∀(j:Nat) (d:D),e[j]? =some d->∃x,b[j]? =some x/\Dj w I d x
 |d=>Dj w I d u
theorem Dj.mono {w:World}(f:∀b,I b->w'.heap[b]? =w.heap[b]?)(l:∀b,I b->I' b){d:D}(h:Dj w I d u):Dj w' I' d u:=by
 unfold Dj at *;split at h
 ·have⟨m,n,q,r⟩:=h;exact⟨m,n,q,fun j d e=>let ⟨x,e1,e2⟩:=r j d e;⟨x,e1,e2.mono f l⟩⟩
 exact h.mono f l
theorem RV.mono {w:World}(f:∀b,I b->w'.heap[b]? =w.heap[b]?)(l:∀b,I b->I' b){d:D}(h:RV w I d u):RV w' I' d u:=by
 unfold RV at *;split at h
 ·have⟨m,n,q,r⟩:=h;exact⟨m,n,q,fun j d e=>let ⟨x,e1,e2⟩:=r j d e;⟨x,e1,e2.mono f l⟩⟩
 exact h.mono f l
def AO.fz:AO->Bool
 | .rw _ _ _ _ b=>b
 |_=>false
def AO.isRw:AO->Bool
 | .rw .. =>true
 |_=>false
structure Cf where
 hp:Hp
 φ:Nat->Nat
 w:World
 kn:Nat->Prop
structure Gh where
 base:Nat
 M0:Nat->Prop
 fb:Nat
def Im (g:Gh)(c:Cf)(b:Bool)(k:Nat):Prop:=k<c.w.heap.size/\¬g.M0 k/\(∀id o,c.hp id=some o->o.fz=false->c.φ id≠k)/\(b=false->g.base<=k)
inductive RA (g:Gh) (c:Cf):AV->Value->Prop
 |v (x:Value) (h:x.oneCell'=true):RA g c (.v x) x
 |d (x:D) (b:Bool) (u:Value) (h:RC c.w (Im g c b) x u):RA g c (.d x b) u
 |pt (id off:Nat) (hn:c.kn id) (ho:∀o,c.hp id=some o->o.isRw=false):RA g c (.pt id off) (.pointer (some ⟨c.φ id,off,none⟩))
 |mo (id:Nat) (hn:c.kn id) (ho:∀o,c.hp id=some o->o.isRw=false):RA g c (.mo id) (.map (some (c.φ id)))
 |pr (id ver i off:Nat) (u:Value) (hn:c.kn id) (hp:∃a,u= .pointer (some a))
   (h:∀es sz v br fz,c.hp id=some (.rw es sz v br fz)->ver<=v/\(ver=v->u= .pointer (some ⟨c.φ id,i*sz+off,none⟩))):RA g c (.pr id ver i off) u
 |so (id ver off len:Nat) (u:Value) (hn:c.kn id) (hp:∃a m,u= .slice a len m)
   (h:∀es sz v br fz,c.hp id=some (.rw es sz v br fz)->ver<=v/\(ver=v->off+len<=es.length/\∃cur T C,c.w.heap[c.φ id]? =some (.cells cur T (0,0))/\cur.size=(off+C)*sz/\u= .slice (some ⟨c.φ id,off*sz,none⟩) len C)):RA g c (.so id ver off len) u
 |fn (f:FuncId) (caps:List AV) (us:Nat->Value) (n:Nat) (hn:caps.length=n) (h:∀(j:Nat) (x:AV),caps[j]? =some x->RA g c x (us j)):RA g c (.fn f caps) (.func (.func f) #[] (Array.ofFn (n:=n) fun j=>us j))
def Dk (g:Gh)(c:Cf)(x:AV)(u:Value):Prop:=
 match x with
 | .un=>True
 | .ag cs=>∃d:Array Value,u= .agg d/\d.size=cs.length/\∀(j:Nat) (x:AV),cs[j]? =some x->∃y,d[j]? =some y/\RA g c x y
 | .d (.ag cs) b=>Dj c.w (Im g c b) (.ag cs) u
 |x=>RA g c x u
def Au (g:Gh)(c:Cf)(x:AV)(u:Value):Prop:=
 match x with
 | .tu cs=>∃d:Array Value,u= .tuple d/\d.size=cs.length/\∀(j:Nat) (x:AV),cs[j]? =some x->∃y,d[j]? =some y/\Dk g c x y
 | .d (.tu cs) b=>RV c.w (Im g c b) (.tu cs) u
 |x=>Dk g c x u
def OK (g:Gh)(c:Cf)(id:Nat):AO->Prop
 | .bx cs=>∃T b,c.w.heap[c.φ id]? =some (.cells b T (0,0))/\b.size=cs.length/\∀(j:Nat) (x:AV),cs[j]? =some x->∃u,b[j]? =some u/\RA g c x u
 | .rw f l _ m _=>0<l/\(∀(i:Nat) (cs:List D),f[i]? =some cs->cs.length=l)/\∃T b C,c.w.heap[c.φ id]? =some (.cells b T (0,0))/\b.size=C*l/\f.length<=C/\C<=maxLen/\ ∀(i j:Nat) (cs:List D) (d:D),f[i]? =some cs->cs[j]? =some d->∃u,b[i*l+j]? =some u/\RC c.w (Im g c m) d u
 | .mo f n=>∃h k,c.w.heap[c.φ id]? =some (.map h k)/\h.size=f.length/\(n=false->k=h.size/\∀(i:Nat) (e:MapEntry),h[i]? =some e->e.born=i)/\ ∀(i:Nat) (x:Value) (y:AV),f[i]? =some (x,y)->∃e,h[i]? =some e/\e.key=x/\Dk g c y e.val
def az (g:Gh)(k:Nat):Prop:=g.base<=k/\¬g.M0 k
structure HR (g:Gh) (c:Cf):Prop where
 le:g.base<=c.w.heap.size
 m0:∀k,g.M0 k->k<c.w.heap.size
 dom:∀id o,c.hp id=some o->c.kn id/\az g (c.φ id)/\c.φ id<c.w.heap.size
 inj:∀i j o p,c.hp i=some o->c.hp j=some p->i≠j->c.φ i≠c.φ j
 obj:∀id o,c.hp id=some o->OK g c id o
structure CP (c c':Cf):Prop where
 os:c'.w.os=c.w.os
 tape:c'.w.tape=c.w.tape
 output:c'.w.output=c.w.output
 size:c.w.heap.size<=c'.w.heap.size
 kn:∀id,c.kn id->c'.kn id
 block:∀k,k<c.w.heap.size->(∀id o,c.hp id=some o->o.fz=false->c.φ id≠k)->c'.w.heap[k]? =c.w.heap[k]?
 muts:∀id o',c'.hp id=some o'->o'.fz=false->c.w.heap.size<=c'.φ id\/∃o,c.hp id=some o/\o.fz=false/\c'.φ id=c.φ id
 keep:∀id,c.kn id->(∀o,c.hp id=some o->o.isRw=false)->c'.φ id=c.φ id/\∀o',c'.hp id=some o'->o'.isRw=false
 rows:∀id es' sz v' br' fz',c.kn id->c'.hp id=some (.rw es' sz v' br' fz')->∃es v br fz,c.hp id=some (.rw es sz v br fz)/\v<=v'/\
  (v=v'->c'.φ id=c.φ id/\es.length=es'.length/\∀cur T,c.w.heap[c.φ id]? =some (.cells cur T (0,0))->∃cur',c'.w.heap[c.φ id]? =some (.cells cur' T (0,0))/\cur'.size=cur.size)
 drawn:c.w.drawn<=c'.w.drawn
theorem CP.refl (c:Cf):CP c c:=⟨rfl,rfl,rfl,Lc _,fun _ h=>h,fun _ _ _=>rfl,fun _ o h b=>.inr ⟨o,h,b,rfl⟩,fun _ _ h=>⟨rfl,h⟩,
 fun _ d _ v f l _ h=>⟨d,v,f,l,h,Lc _,fun _=>⟨rfl,rfl,fun m _ e=>⟨m,e,rfl⟩⟩⟩,Lc _⟩
theorem CP.trans {a b c:Cf}(h:CP a b)(k:CP b c):CP a c:=by
 refine⟨k.os.trans h.os,k.tape.trans h.tape,k.output.trans h.output,Lv h.size k.size,fun i E=>k.kn i (h.kn i E),?_,?_,?_,?_,Lv h.drawn k.drawn⟩
 ·intro x y z;refine(k.block x (LF y h.size) fun id o n r=> ?_).trans (h.block x y z);rcases h.muts id o n r with d |⟨s,d,l,f⟩
  ·omega
  rw[f];exact z id s d l
 ·intro id F n r;rcases k.muts id F n r with d |⟨s,d,l,f⟩
  ·exact .inl (Lv h.size d)
  rcases h.muts id s d l with m |⟨G,m,t,v⟩
  ·exact .inl (by rw[f];exact m)
  exact .inr ⟨G,m,t,f.trans v⟩
 ·intro id q n;have⟨d,l⟩:=h.keep id q n;have⟨f,m⟩:=k.keep id (h.kn _ q) l;exact⟨f.trans d,m⟩
 intro id H A J K L q M;have⟨N,O,Q,R,d,l,f⟩:=k.rows id H A J K L (h.kn _ q) M;have⟨S,U,V,X,m,t,v⟩:=h.rows id N A O Q R q d;refine⟨S,U,V,X,m,Lv t l,fun e=> ?_⟩;have⟨Y,g2,g3⟩:=f (by omega);have⟨w,g5,g6⟩:=v (by omega);refine⟨Y.trans w,g5.trans g2,fun Z T hc=> ?_⟩;have⟨aa,B,e2⟩:=g6 Z T hc;rw[<-w] at B;have⟨ab,C,e4⟩:=g3 aa T B;rw[w] at C;exact⟨ab,C,e4.trans e2⟩
section
variable {g:Gh}{c c':Cf}
theorem Im.ext (h:CP c c'){b:Bool}(e:Im g c b k):Im g c' b k:=by
 have⟨f,l,m,n⟩:=e;refine⟨LF f h.size,l,fun id o q r=> ?_,n⟩;rcases h.muts id o q r with d |⟨s,d,t,v⟩
 ·omega
 rw[v];exact m id s d t
theorem Im.block (h:CP c c'){b:Bool}(d:Im g c b k):c'.w.heap[k]? =c.w.heap[k]? :=h.block k d.1 d.2.2.1
theorem Im.weak {b:Bool}(d:Im g c b k):Im g c true k:=⟨d.1,d.2.1,d.2.2.1,by simp⟩
theorem RC.ext (h:CP c c'){b:Bool}{d:D}(f:RC c.w (Im g c b) d u):RC c'.w (Im g c' b) d u:=f.mono (fun _ e=>e.block h) fun _ e=>e.ext h
theorem Dj.ext (h:CP c c'){b:Bool}{d:D}(f:Dj c.w (Im g c b) d u):Dj c'.w (Im g c' b) d u:=f.mono (fun _ e=>e.block h) fun _ e=>e.ext h
theorem RV.ext (h:CP c c'){b:Bool}{d:D}(f:RV c.w (Im g c b) d u):RV c'.w (Im g c' b) d u:=f.mono (fun _ e=>e.block h) fun _ e=>e.ext h
theorem RA.ext (h:CP c c'){x:AV}(hr:RA g c x u):RA g c' x u:=by
 induction hr with
 |v x h=>exact .v x h
 |d x b u h1=>exact .d x b u (h1.ext h)
 |pt id off hn ho=>
  obtain⟨h1,h2⟩:=h.keep id hn ho;rw[<-h1];exact .pt id off (h.kn _ hn) h2
 |mo id hn ho=>
  obtain⟨h1,h2⟩:=h.keep id hn ho;rw[<-h1];exact .mo id (h.kn _ hn) h2
 |pr id ver i off u hn hp h1=>
  refine .pr id ver i off u (h.kn _ hn) hp fun es' sz v' br' fz' hr=> ?_;obtain⟨es,v,br,fz,h2,h3,h4⟩:=h.rows id es' sz v' br' fz' hn hr;obtain⟨h5,h6⟩:=h1 es sz v br fz h2;refine⟨by omega,fun e=> ?_⟩;obtain⟨h7,_,_⟩:=h4 (by omega);rw[h7];exact h6 (by omega)
 |so id ver off len u hn hp h1=>
  refine .so id ver off len u (h.kn _ hn) hp fun es' sz v' br' fz' hr=> ?_;obtain⟨es,v,br,fz,h2,h3,h4⟩:=h.rows id es' sz v' br' fz' hn hr;obtain⟨h5,h6⟩:=h1 es sz v br fz h2;refine⟨by omega,fun e=> ?_⟩;obtain⟨h7,h8,h9⟩:=h4 (by omega);obtain⟨k1,cur,T,C,k2,k3,k4⟩:=h6 (by omega);obtain⟨cur',k5,k6⟩:=h9 cur T k2
  exact⟨by omega,cur',T,C,by rw[h7];exact k5,by rw[k6];exact k3,by rw[h7];exact k4⟩
 |fn f caps us n hn _ ih=>exact .fn f caps us n hn ih
theorem RA.one {x:AV}(f:RA g c x u):u.oneCell'=true:=by
 cases f with
 |v x h=>exact h
 |d x b u h=>exact h.one
 |pr id l i off u n e _=>obtain⟨a,rfl⟩:=e;rfl
 |so id l off q u n e _=>obtain⟨a,m,rfl⟩:=e;rfl
 |_=>rfl
theorem Dk.ext (h:CP c c'){x:AV}(b:Dk g c x u):Dk g c' x u:=by
 unfold Dk at *;split at b
 ·trivial
 ·have⟨d,f,l,m⟩:=b;exact⟨d,f,l,fun j x e=>let ⟨y,e1,e2⟩:=m j x e;⟨y,e1,e2.ext h⟩⟩
 ·exact Dj.ext h b
 exact RA.ext h b
theorem Au.ext (h:CP c c'){x:AV}(b:Au g c x u):Au g c' x u:=by
 unfold Au at *;split at b
 ·have⟨d,f,l,m⟩:=b;exact⟨d,f,l,fun j x e=>let ⟨y,e1,e2⟩:=m j x e;⟨y,e1,e2.ext h⟩⟩
 ·exact RV.ext h b
 exact Dk.ext h b
theorem OK.ext (h:CP c c')(n:OK g c id o)(q:c'.φ id=c.φ id)(r:c'.w.heap[c.φ id]? =c.w.heap[c.φ id]?):OK g c' id o:=by
 cases o with
 |bx cs=>
  have⟨T,s,b,f,t⟩:=n;exact⟨T,s,by rw[q,r];exact b,f,fun j x e=>let ⟨u,l,m⟩:=t j x e;⟨u,l,m.ext h⟩⟩
 |rw z H v J K=>
  have⟨b,f,T,s,C,t,A,w,B,E⟩:=n;exact⟨b,f,T,s,C,by rw[q,r];exact t,A,w,B,fun i j cs d l m=>let ⟨u,e3,e4⟩:=E i j cs d l m;⟨u,e3,e4.ext h⟩⟩
 |mo z L=>
  have⟨F,k,b,f,G,w⟩:=n;exact⟨F,k,by rw[q,r];exact b,f,G,fun i x y e=>let ⟨e',l,m,e3⟩:=w i x y e;⟨e',l,m,e3.ext h⟩⟩
end
end
section
theorem Ap (k:Nat)(x:α)(f:Nat->α):upd k x f k=x:=by simp[upd]
theorem sx (c:Nat)(h:0<c:=by omega):∃e,c=e+1:=⟨c-1,by omega⟩
theorem Ai (x:α)(f:Nat->α)(h:j≠k):upd k x f j=f j:=by simp[upd,h]
theorem Aa {x:α}{f:Nat->α}(h:j≠k:=by omega):upd k x f j=f j:=Ai x f h
theorem Cp [Decidable p](h:p:=by omega):decide p=true:=decide_eq_true h
theorem C6 [Decidable p](h:¬p:=by omega):decide p=false:=decide_eq_false h
theorem Fu (h:p:=by omega):p=True:=eq_true h
theorem Ey (h:¬p:=by omega):p=False:=eq_false h
theorem ifp.{u}{α:Sort u}{p:Prop}[Decidable p]{a b:α}(h:p:=by omega):(if p then a else b)=a:=if_pos h
theorem ifn.{u}{α:Sort u}{p:Prop}[Decidable p]{a b:α}(h:¬p:=by omega):(if p then a else b)=b:=if_neg h
section
variable {g:Gh}{c:Cf}
theorem CP.more (c:Cf)(kn:Nat->Prop)(b:∀i,c.kn i->kn i):CP c ⟨c.hp,c.φ,c.w,kn⟩:=
 ⟨rfl,rfl,rfl,Lc _,b,fun _ _ _=>rfl,fun _ o h d=>.inr ⟨o,h,d,rfl⟩,fun _ _ h=>⟨rfl,h⟩,fun _ f _ v l m _ h=>⟨f,v,l,m,h,Lc _,fun _=>⟨rfl,rfl,fun n _ e=>⟨n,e,rfl⟩⟩⟩,Lc _⟩
theorem HR.more (h:HR g c)(kn:Nat->Prop)(d:∀i,c.kn i->kn i):HR g ⟨c.hp,c.φ,c.w,kn⟩:=
 ⟨h.le,h.m0,fun id o b=>⟨d _ (h.dom id o b).1,(h.dom id o b).2⟩,h.inj,fun id o b=>(h.obj id o b).ext (CP.more c kn d) rfl rfl⟩
theorem CP.new (h:HR g c){b:Nat}{ao:AO}(q:¬c.kn id)(r:w'.os=c.w.os)(ht:w'.tape=c.w.tape)(s:w'.output=c.w.output)
  (t:c.w.heap.size<=w'.heap.size) (m:∀k,k<c.w.heap.size->w'.heap[k]? =c.w.heap[k]?) (v:c.w.heap.size<=b) (w:∀i,c.kn i->kn i) (y:c.w.drawn<=w'.drawn:=by first |exact Lc _ |exact BB _):
  CP c ⟨upd id (some ao) c.hp,upd id b c.φ,w',kn⟩:=by
 have n:∀i,c.kn i->i≠id:=fun i d e=>q (e▸d);refine⟨r,ht,s,t,w,fun k z _=>m k z,?_,?_,?_,y⟩
 ·intro i A f B;by_cases e:i=id
  ·subst e;exact .inl (by simpa [upd] using v)
  simp only[Ai _ _ e] at f⊢;exact .inr ⟨A,f,B,trivial⟩
 ·intro i d f;simp only[Ai _ _ (n i d)];exact⟨trivial,f⟩
 intro i C K E F G d l;simp only[Ai _ _ (n i d)] at l⊢;refine⟨C,E,F,G,l,Lc _,fun _=>⟨trivial,rfl,fun H T J=>⟨H,?_,rfl⟩⟩⟩;exact(m _ (h.dom i _ l).2.2).trans J
theorem HR.new (h:HR g c){b:Nat}{ao:AO}(m:CP c ⟨upd id (some ao) c.hp,upd id b c.φ,w',kn⟩)(E:¬c.kn id)(F:c.w.heap.size<=b)(r:b<w'.heap.size)(s:kn id)
  (t:∀k,k<c.w.heap.size->w'.heap[k]? =c.w.heap[k]?) (v:OK g ⟨upd id (some ao) c.hp,upd id b c.φ,w',kn⟩ id ao):HR g ⟨upd id (some ao) c.hp,upd id b c.φ,w',kn⟩:=by
 have n:=m.size;have w:=m.kn;have G:=h.le;refine⟨Lv h.le n,fun k y=>LF (h.m0 k y) n,?_,?_,?_⟩
 ·intro i o d;by_cases e:i=id
  ·subst e;simp only[Ap];exact⟨s,⟨by omega,fun z=>by have:=h.m0 _ z;omega⟩,r⟩
  simp only[Ai _ _ e] at d⊢;have⟨A,B,C⟩:=h.dom i o d;exact⟨w i A,B,LF C n⟩
 ·intro i j o p d l q;by_cases e:i=id
  ·subst e;have f:j≠i:=fun e=>q e.symm;simp only[Ai _ _ f] at l;simp only[Ap,Ai _ _ f]
   have:=(h.dom j p l).2.2;omega
  simp only[Ai _ _ e] at d;by_cases f:j=id
  ·subst f;simp only[Ap,Ai _ _ e]
   have:=(h.dom i o d).2.2;omega
  simp only[Ai _ _ f] at l;simp only[Ai _ _ e,Ai _ _ f];exact h.inj i j o p d l q
 intro i o d;by_cases e:i=id
 ·subst e;simp only[Ap] at d;cases d;exact v
 simp only[Ai _ _ e] at d;exact(h.obj i o d).ext m (by simp only[Ai _ _ e]) (t _ (h.dom i o d).2.2)
theorem CP.chg (h:HR g c){b:Nat}{o':AO}(m:c.hp i=some o)(C:o.fz=false)(H:w'.os=c.w.os)(ht:w'.tape=c.w.tape)(J:w'.output=c.w.output)
  (K:c.w.heap.size<=w'.heap.size) (E:∀k,k<c.w.heap.size->k≠c.φ i->w'.heap[k]? =c.w.heap[k]?) (L:b=c.φ i\/c.w.heap.size<=b) (M:∀i,c.kn i->kn i)
  (N:o.isRw=false->b=c.φ i/\o'.isRw=false)
  (O:∀n q f r s,o'= .rw n q f r s->∃t v z A,o= .rw t q v z A/\v<=f/\(v=f->b=c.φ i/\t.length=n.length/\∀w T,c.w.heap[c.φ i]? =some (.cells w T (0,0))->∃F,w'.heap[c.φ i]? =some (.cells F T (0,0))/\F.size=w.size)) (Q:c.w.drawn<=w'.drawn:=by first |exact Lc _ |exact BB _):
  CP c ⟨upd i (some o') c.hp,upd i b c.φ,w',kn⟩:=by
 refine⟨H,ht,J,K,M,fun k R S=>E k R fun e=>S i o m C e.symm,?_,?_,?_,Q⟩
 ·intro j p y U;by_cases e:j=i
  ·subst e;simp only[Ap];rcases L with d |d
   ·exact .inr ⟨o,m,C,d⟩
   exact .inl d
  simp only[Ai _ _ e] at y⊢;exact .inr ⟨p,y,U,trivial⟩
 ·intro j y G;by_cases e:j=i
  ·subst e;have⟨d,B⟩:=N (G o m);simp only[Ap];exact⟨d,fun p V=>by cases V;exact B⟩
  simp only[Ai _ _ e];exact⟨trivial,G⟩
 intro j n q f r s y l;by_cases e:j=i
 ·subst e;simp only[Ap] at l⊢;cases l;have⟨t,v,z,A,d,B,h3⟩:=O n q f r s rfl;exact⟨t,v,z,A,d▸m,B,h3⟩
 simp only[Ai _ _ e] at l⊢;refine⟨n,f,r,s,l,Lc _,fun _=>⟨trivial,rfl,fun w T hc=>⟨w,?_,rfl⟩⟩⟩;exact(E _ (h.dom j _ l).2.2 (h.inj j i _ o l m e)).trans hc
theorem HR.chg (h:HR g c){b:Nat}{o':AO}(n:c.hp i=some o)(r:CP c ⟨upd i (some o') c.hp,upd i b c.φ,w',kn⟩)
  (C:∀k,k<c.w.heap.size->k≠c.φ i->w'.heap[k]? =c.w.heap[k]?) (t:b=c.φ i\/c.w.heap.size<=b) (E:b<w'.heap.size)
  (F:OK g ⟨upd i (some o') c.hp,upd i b c.φ,w',kn⟩ i o'):HR g ⟨upd i (some o') c.hp,upd i b c.φ,w',kn⟩:=by
 have s:=r.size;have v:=r.kn;have K:=h.le;have w:=h.dom i o n;have y:∀j p,c.hp j=some p->j≠i->c.φ j≠b:=fun j p d e=>by
  have z:=h.inj j i p o d n e;have A:=(h.dom j p d).2.2;rcases t with l |l
  ·omega
  omega
 refine⟨Lv h.le s,fun k m=>LF (h.m0 k m) s,?_,?_,?_⟩
 ·intro j p d;by_cases e:j=i
  ·subst e;simp only[Ap];have G:az g b:=by
    rcases t with l |l
    ·rw[l];exact w.2.1
    exact⟨by omega,fun H=>by have:=h.m0 _ H;omega⟩
   exact⟨v _ w.1,G,E⟩
  simp only[Ai _ _ e] at d⊢;have⟨z,A,l⟩:=h.dom j p d;exact⟨v j z,A,LF l s⟩
 ·intro j k p q d m B;by_cases e:j=i
  ·subst e;have f:k≠j:=fun e=>B e.symm;simp only[Ai _ _ f] at m;simp only[Ap,Ai _ _ f];exact fun J=>y k q m f J.symm
  simp only[Ai _ _ e] at d;by_cases f:k=i
  ·subst f;simp only[Ap,Ai _ _ e];exact y j p d e
  simp only[Ai _ _ f] at m;simp only[Ai _ _ e,Ai _ _ f];exact h.inj j k p q d m B
 intro j p d;by_cases e:j=i
 ·subst e;simp only[Ap] at d;cases d;exact F
 simp only[Ai _ _ e] at d;exact(h.obj j p d).ext r (by simp only[Ai _ _ e]) (C _ (h.dom j p d).2.2 (h.inj j i p o d n e))
theorem CP.frz (h:HR g c)(kn:Nat->Prop)(z:∀i,c.kn i->kn i)(is:List Nat):CP c ⟨CC (frz c.hp is) c.hp,c.φ,c.w,kn⟩/\HR g ⟨CC (frz c.hp is) c.hp,c.φ,c.w,kn⟩:=by
 have G:∀(is:List Nat) (s:Hp),(∀id,s id=c.hp id\/∃d f v l n,c.hp id=some (.rw d f v l n)/\s id=some (.rw d f v l true))->
   ∀id,CC (Ab.frz c.hp is) s id=c.hp id\/∃d f v l n,c.hp id=some (.rw d f v l n)/\CC (Ab.frz c.hp is) s id=some (.rw d f v l true):=by
  intro is;induction is with
  |nil=>exact fun s h=>h
  |cons i r C=>
   intro s E;unfold Ab.frz;split
   ·rename_i d f v l n w;simp only[CC];refine C _ fun id=> ?_;by_cases e:id=i
    ·subst e;exact .inr ⟨d,f,v,l,n,w,Ap _ _ _⟩
    rw[Ai _ _ e];exact E id
   exact C _ E
 have t:=G is c.hp fun id=>.inl rfl;generalize CC (Ab.frz c.hp is) c.hp=s at t;have w:CP c ⟨s,c.φ,c.w,kn⟩:=by
  refine⟨rfl,rfl,rfl,Lc _,z,fun _ _ _=>rfl,?_,?_,?_,Lc _⟩
  ·intro id y m F;rcases t id with b |⟨d,f,v,l,n,b,q⟩
   ·exact .inr ⟨y,b▸m,F,rfl⟩
   simp only[q,Lf] at m;subst m;simp[AO.fz] at F
  ·intro id _ m;refine⟨rfl,fun y H=> ?_⟩;rcases t id with b |⟨d,f,v,l,n,b,q⟩
   ·exact m y (b▸H)
   have:=m _ b;simp[AO.isRw] at this
  intro id J f K L M _ A;rcases t id with b |⟨d,f,v,l,n,b,q⟩
  ·exact⟨J,K,L,M,b▸A,Lc _,fun _=>⟨rfl,rfl,fun B _ e=>⟨B,e,rfl⟩⟩⟩
  simp only[q,Lf,AO.rw.injEq] at A;obtain⟨rfl,rfl,rfl,rfl,rfl⟩:=A;exact⟨d,v,l,n,b,Lc _,fun _=>⟨rfl,rfl,fun B _ e=>⟨B,e,rfl⟩⟩⟩
 refine⟨w,⟨h.le,h.m0,?_,?_,?_⟩⟩
 ·intro id o m;rcases t id with b |⟨d,f,v,l,n,b,q⟩
  ·exact⟨z _ (h.dom id o (b▸m)).1,(h.dom id o (b▸m)).2⟩
  exact⟨z _ (h.dom id _ b).1,(h.dom id _ b).2⟩
 ·intro i j o p N O Q
  have:∀id o,s id=some o->∃y,c.hp id=some y:=fun id o m=>by
   rcases t id with b |⟨d,f,v,l,n,b,q⟩
   ·exact⟨o,b▸m⟩
   exact⟨_,b⟩
  have⟨R,b⟩:=this i o N;have⟨S,q⟩:=this j p O;exact h.inj i j R S b q Q
 intro id o m;rcases t id with b |⟨d,f,v,l,n,b,q⟩
 ·exact(h.obj id o (b▸m)).ext w rfl rfl
 simp only[q,Lf] at m;subst m;exact OK.ext (o:=.rw d f v l n) w (h.obj id _ b) rfl rfl
end
end
section
structure Ad (P:Program) (tab:Nat->TI):Prop where
 dflt:∀T,(tab T).ok=false->tab T={}
 info:∀T,(tab T).ok=true->∃i z,P.info? T=some i/\i.size=(tab T).size/\i.bytes=(tab T).bytes/\i.zero=some z/\z.cells=(tab T).zero.toArray/\(tab T).zero.length=(tab T).size/\(∀x∈(tab T).zero,x.oneCell'=true)/\((tab T).agg=true->∃vs,z= .agg vs)/\((tab T).agg=false->z.oneCell'=true)
 kind:∀T,(tab T).ok=true->∃d,P.underlying T=some d/\match (tab T).kind with
  | .slice=>d= .slice (tab T).elem
  | .string=>d= .string
  | .int k=>d= .int k
  | .bool=>d= .bool
  | .ptr=>∃e,d= .pointer e
  | .map=>∃k,d= .map k (tab T).elem
  | .array n=>d= .array n (tab T).elem/\(tab (tab T).elem).ok=true/\∀(i:Nat) (p:Nat × Nat),(tab T).offs[i]? =some p->p=(i*(tab (tab T).elem).size,(tab (tab T).elem).size)
  | .struct=>∃fs,d= .struct fs/\fs.size=(tab T).offs.length/\∀(i:Nat) (f:Field),fs[i]? =some f->∃fi,P.info? f.type=some fi/\(tab T).offs[i]? =some (f.offset,fi.size)
  | .other=>match d with | .struct _ | .array _ _=>False |_=>True
 flat:∀T ks,(tab T).flat=some ks->∀(xs ys:List Value) (b:Bool),EH ks xs ys=some b->∀w,(Op.equal T (.agg xs.toArray) (.agg ys.toArray)).run P w= .ok b w
 guard:∀T ks,(tab T).flat=some ks->P.eqGuardType P.depth T=false
 mkey:∀T q,(tab T).mkey=some q->∃kt,P.underlying T=some (.map kt (tab T).elem)/\(tab (tab T).elem).ok=true/\∀x,Gg q x=true->(∀w e,(Instr.checkKey e 10000 kt x).run P w= .ok () w)/\
  (∀y,KN q x y=some true->y=x/\Instr.sameBits 10000 x x=true)/\∀(ens:List MapEntry) (r:Option Nat),J8 q x (ens.map (·.key))=some r->∀w,(Instr.findKey kt x ens).run P w= .ok (r.bind fun i=>(ens[i]?).map fun e=>(i,e.val)) w
theorem IQ (b o j:Nat):(⟨b,o,none⟩:Addr).add j=⟨b,o+j,none⟩:=by unfold Addr.add;split<;>simp_all
section types
variable {P:Program}{tab:Nat->TI}(ht:Ad P tab)
include ht
theorem Ad.okOf {T:Nat}(h:(tab T).kind≠ .other):(tab T).ok=true:=by
 cases e:(tab T).ok with
 |true=>rfl
 |false=>rw[ht.dflt T e] at h;exact absurd rfl h
theorem Ad.sizeOf {T:Nat}(h:(tab T).ok=true)(w:World):(sizeOf T).run P w= .ok (tab T).size w:=by
 have⟨i,z,b,d,_⟩:=ht.info T h;simp[Go.sizeOf,typeInfo,b,d]
theorem Ad.isAgg {T:Nat}(h:(tab T).ok=true)(w:World):(isAgg T).run P w= .ok (tab T).agg w:=by
 have⟨d,e,b⟩:=ht.kind T h;unfold Go.isAgg TI.agg;rw[Sem.run_bind,run_underlying e];cases f:(tab T).kind<;>simp only[f] at b
 case other=>cases d<;>simp_all
 case struct=>obtain⟨l,rfl,_⟩:=b;simp
 case map=>obtain⟨k,rfl⟩:=b;simp
 case ptr=>obtain⟨k,rfl⟩:=b;simp
 case array=>obtain⟨rfl,_⟩:=b;simp
 all_goals (subst b;simp)
theorem Ad.slice {T:Nat}(h:(tab T).kind= .slice):P.underlying T=some (.slice (tab T).elem):=by
 have⟨d,e,b⟩:=ht.kind T (ht.okOf (by rw[h];decide));rw[h] at b;subst b;exact e
theorem Ad.string {T:Nat}(h:(tab T).kind= .string):P.underlying T=some .string:=by
 have⟨d,e,b⟩:=ht.kind T (ht.okOf (by rw[h];decide));rw[h] at b;subst b;exact e
theorem iW {T:Nat}(h:(tab T).ok=true)(b:(tab T).agg=true)(w:World)(p:Addr)(L:List Value)(d:L.length=(tab T).size)(e:∀(j:Nat) (v:Value),L[j]? =some v->w.cell? (p.add j)=some v):
  (loadVar T p).run P w= .ok (.agg L.toArray) w:=by
 have:=run_loadCells_list (P:=P) w p L e;simp[loadVar,ht.isAgg h,b,ht.sizeOf h,<-d,this]
theorem iX {T:Nat}(h:(tab T).ok=true)(b:(tab T).agg=false)(w:World)(p:Addr)(u:Value)(d:w.cell? p=some u):(loadVar T p).run P w= .ok u w:=by
 simp[loadVar,ht.isAgg h,b,load,Sem.run,d]
end types
def He (P:Program)(o:Oper)(a:Act)(w:World)(u:Value)(w':World):Prop:=(execOp a.eval o).run P w= .ok (.value u) w'\/((execOp a.eval o).run P w= .ok .skip w'/\u=undef)
def CU (P:Program)(o:Oper)(a:Act)(g:Gh)(c:Cf)(id:Nat)(v:AV)(δ:List (Nat × AO)):Prop:=∃b u w',He P o a c.w u w'/\CP c ⟨CC δ c.hp,b,w',fun k=>c.kn k\/k=id⟩/\HR g ⟨CC δ c.hp,b,w',fun k=>c.kn k\/k=id⟩/\Au g ⟨CC δ c.hp,b,w',fun k=>c.kn k\/k=id⟩ v u
section
variable {P:Program}{tab:Nat->TI}{o:Oper}{a:Act}{g:Gh}{c:Cf}{id:Nat}
theorem CU.pure (b:HR g c){v:AV}(h:(execOp a.eval o).run P c.w= .ok (.value u) c.w)(d:Au g c v u):CU P o a g c id v []:=
 ⟨c.φ,u,c.w,.inl h,CP.more c _ fun _ h=>.inl h,b.more _ fun _ h=>.inl h,d.ext (CP.more c _ fun _ h=>.inl h)⟩
theorem Au.v {x u:Value}(h:Au g c (.v x) u):u=x/\x.oneCell'=true:=by
 cases(show RA g c (.v x) u from h) with
 |v _ b=>exact⟨rfl,b⟩
theorem Au.pt {i off:Nat}{u:Value}(h:Au g c (.pt i off) u):u= .pointer (some ⟨c.φ i,off,none⟩)/\c.kn i/\∀o,c.hp i=some o->o.isRw=false:=by
 cases(show RA g c (.pt i off) u from h) with
 |pt _ _ b d=>exact⟨rfl,b,d⟩
theorem Au.pr {i ver k off:Nat}{u:Value}(h:Au g c (.pr i ver k off) u){es sz br fz}(b:c.hp i=some (.rw es sz ver br fz)):u= .pointer (some ⟨c.φ i,k*sz+off,none⟩)/\c.kn i:=by
 cases(show RA g c (.pr i ver k off) u from h) with
 |pr _ _ _ _ _ d _ e=>exact⟨(e _ _ _ _ _ b).2 rfl,d⟩
theorem Au.so {i ver off b:Nat}{u:Value}(h:Au g c (.so i ver off b) u){es sz br fz}(e:c.hp i=some (.rw es sz ver br fz)):
  off+b<=es.length/\c.kn i/\∃d T C,c.w.heap[c.φ i]? =some (.cells d T (0,0))/\d.size=(off+C)*sz/\u= .slice (some ⟨c.φ i,off*sz,none⟩) b C:=by
 cases(show RA g c (.so i ver off b) u from h) with
 |so _ _ _ _ _ f _ l=>
  have⟨m,n⟩:=(l _ _ _ _ _ e).2 rfl;exact⟨m,f,n⟩
theorem Au.dpt {b:Bool}(h:Au g c (.d (.pt cs off) b) u):RC c.w (Im g c b) (.pt cs off) u:=by
 cases(show RA g c (.d (.pt cs off) b) u from h) with
 |d _ _ _ h=>exact h
theorem Au.dsl {es:List (List D)}{b:Bool}(h:Au g c (.d (.sl es) b) u):RC c.w (Im g c b) (.sl es) u:=by
 cases(show RA g c (.d (.sl es) b) u from h) with
 |d _ _ _ h=>exact h
theorem RC.toRA {d:D}{b:Bool}(h:RC c.w (Im g c b) d u):RA g c (CE b d) u:=by
 cases d with
 |v x=>cases h with |v _ e=>exact RA.v _ e
 |sl f=>exact RA.d _ _ _ h
 |pt cs off=>exact RA.d _ _ _ h
 |mp f=>exact RA.d _ _ _ h
 |ag cs=>cases h
 |tu cs=>cases h
theorem RA.toAt {x:AV}(h:RA g c x u):Au g c x u:=by
 cases x with
 |d x b=>cases x with
  |ag cs=>cases h with |d _ _ _ e=>cases e
  |tu cs=>cases h with |d _ _ _ e=>cases e
  |_=>exact h
 |ag cs=>cases h
 |tu cs=>cases h
 |un=>trivial
 |_=>exact h
theorem ME (xs:List α)(off n j:Nat)(x:α)(h:((xs.drop off).take n)[j]? =some x):j<n/\xs[off+j]? =some x:=by
 rw[Nq] at h;split at h
 ·rename_i b;exact⟨b,by rw[NV] at h;exact h⟩
 cases h
theorem Xz {n:Nat}{xs b:List α}(h:sub off n xs=some b):off+n<=xs.length/\b=(xs.drop off).take n/\b.length=n:=by
 unfold sub at h;split at h
 ·rename_i d;cases h;exact⟨d,rfl,by rw[LC,Nv];omega⟩
 cases h
theorem iY (e:HR g c)(ht:Ad P tab){T:Nat}(h:o.op= .load T x)(l:(tab T).ok=true)(m:(tab T).agg=true)(n:a.eval x= .pointer (some ⟨bl,off,none⟩))
  {v:AV} (f:Nat->Value) (q:∀j,j<(tab T).size->c.w.cell? ⟨bl,off+j,none⟩=some (f j)) (r:Au g c v (.agg ((List.range (tab T).size).map f).toArray)):CU P o a g c id v []:=by
 refine CU.pure e (u:=.agg ((List.range (tab T).size).map f).toArray) ?_ r
 have:=iW ht l m c.w ⟨bl,off,none⟩ ((List.range (tab T).size).map f) (by simp) (fun j v b=>by
  rw[Lp] at b;by_cases d:j<(tab T).size
  ·rw[Bk d] at b;simp only[LQ,Lf] at b;rw[IQ,<-b];exact q j d
  rw[Nk (by simp;omega)] at b;cases b)
 unfold execOp;simp only[h,n,Instr.loadAt,Instr.sureAddr,Sem.run_bind,Sem.run_pure,Result.andThen_ok,this]
theorem iZ (b:HR g c)(ht:Ad P tab){T:Nat}(d:o.op= .load T x)(e:(tab T).ok=true)(f:(tab T).agg=false)(h:a.eval x= .pointer (some ⟨bl,off,none⟩))
  {v:AV}  (l:c.w.cell? ⟨bl,off,none⟩=some u) (m:Au g c v u):CU P o a g c id v []:=by
 refine CU.pure b (u:=u) ?_ m;unfold execOp;simp only[d,h,Instr.loadAt,Instr.sureAddr,Sem.run_bind,Sem.run_pure,Result.andThen_ok,iX ht e f c.w _ u l]
theorem ic (n:Nat)(f:Nat->Value)(h:j<n):((List.range n).map f).toArray[j]? =some (f j):=by
 rw[Nx,Lp,Bk h];rfl
theorem ig (l:HR g c)(ht:Ad P tab){T:Nat}(n:o.op= .load T x)(q:(tab T).ok=true){cs:List AV}(A:Au g c (.pt i off) (a.eval x))(B:c.hp i=some (.bx cs)){v:AV}
  (d:(if (tab T).agg then(sub off (tab T).size cs).map AV.ag else cs[off]?)=some v):CU P o a g c id v []:=by
 have⟨e,_,_⟩:=A.pt;have⟨J,f,C,K,r⟩:=l.obj i _ B;have s:∀k,c.w.cell? ⟨c.φ i,k,none⟩=f[k]? :=fun k=>by simp[World.cell?,C]
 cases h:(tab T).agg with
 |true=>
  simp only[h,if_true,La] at d;obtain⟨L,E,rfl⟩:=d;have⟨M,F,G⟩:=Xz E;refine iY l ht n q h e (fun j=>f.getD (off+j) undef) (fun j t=> ?_) ⟨_,rfl,by simp[G],fun j y w=> ?_⟩
  ·rw[s,LD (by omega)];simp[Array.getD,show off+j<f.size by omega]
  ·rw[F] at w;have⟨t,H⟩:=ME _ _ _ _ _ w;have⟨u,b,m⟩:=r _ _ H;refine⟨u,?_,m⟩;rw[ic _ _ t];have z:off+j<f.size:=(by omega);rw[LD z] at b;simp only[Lf] at b;simp[Array.getD,z,b]
 |false=>
  simp only[h,Nr,if_false] at d;have⟨u,b,m⟩:=r off v d;exact iZ l ht n q h e ((s off).trans b) m.toAt
theorem bB (h:HR g c)(ht:Ad P tab){T:Nat}(l:o.op= .load T x)(m:(tab T).ok=true){of:Nat}{b:Bool}(us:Nat->Value)(n:a.eval x= .pointer (some ⟨bl,of+off,none⟩))
  (q:∀(j:Nat) (d:D),cs[j]? =some d->c.w.cell? ⟨bl,of+j,none⟩=some (us j)) (r:∀(j:Nat) (d:D),cs[j]? =some d->RC c.w (Im g c b) d (us j)) {v:AV}
  (e:(if (tab T).agg then(sub off (tab T).size cs).map (fun c=>AV.d (.ag c) b) else(cs[off]?).map (CE b))=some v):CU P o a g c id v []:=by
 cases f:(tab T).agg with
 |true=>
  simp only[f,if_true,La] at e;obtain⟨E,z,rfl⟩:=e;have⟨F,A,B⟩:=Xz z;refine iY h ht l m f n (fun j=>us (off+j)) (fun j s=> ?_) ⟨_,rfl,by simp[B],fun j y t=> ?_⟩
  ·rw[Ny];exact q (off+j) _ (Le (by omega))
  ·rw[A] at t;have⟨s,C⟩:=ME _ _ _ _ _ t;exact⟨_,ic _ _ s,r _ _ C⟩
 |false=>
  simp only[f,Nr,if_false,La] at e;obtain⟨d,w,rfl⟩:=e;exact iZ h ht l m f n (q off d w) (r off d w).toRA.toAt
theorem ii (n:HR g c)(ht:Ad P tab){T:Nat}(w:o.op= .load T x)(y:(tab T).ok=true){ver sz:Nat}{br z:Bool}{es:List (List D)}(A:Au g c (.pr i ver k off) (a.eval x))(q:c.hp i=some (.rw es sz ver br z))(r:es[k]? =some cs){v:AV}
  (B:(if (tab T).agg then(sub off (tab T).size cs).map (fun c=>AV.d (.ag c) br) else(cs[off]?).map (CE br))=some v):CU P o a g c id v []:=by
 have⟨e,_⟩:=A.pr q;have⟨F,G,H,f,C,E,J,K,L,s⟩:=n.obj i _ q;refine bB n ht w y (fun j=>f.getD (k*sz+j) undef) e (fun j d m=> ?_) (fun j d m=> ?_) B
 ·have⟨u,b,t⟩:=s k j cs d r m;have l:k*sz+j<f.size:=by
   rcases LY (k*sz+j) f.size with h |h
   ·exact h
   rw[Bc h] at b;cases b
  simp[World.cell?,E,Array.getD,l]
 have⟨u,b,t⟩:=s k j cs d r m;have l:k*sz+j<f.size:=by
  rcases LY (k*sz+j) f.size with h |h
  ·exact h
  rw[Bc h] at b;cases b
 rw[LD l] at b;simp only[Lf] at b;simpa [Array.getD,l,b] using t
end
end
end Go.Proofs.YtnmkbmefohakmaaGreat.Ab
