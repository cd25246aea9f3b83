/-
 The machine that works with plain values: what it does, how its data stand in memory, its small steps.
-/
import Derived.Calls
import Derived.Tactics
import Derived.Below
import Derived.Laws.AppendOwn
import Derived.WalkKit
import Derived.Laws.Tables
import Derived.Great.BuildSlice
import Derived.Laws.AppendOwnNone
namespace Go.Proofs.YtnmkbmefohakmaaGreat.Ab
section
inductive D where
 |v (x:Value)
 |sl (es:List (List D))
 |pt (cs:List D) (off:Nat)
 |mp (es:List (Value × Bool × List D))
 |ag (cs:List D)
 |tu (vs:List D)
 deriving Inhabited
inductive AV where
 |v (x:Value)
 |d (x:D) (b:Bool)
 |ag (cs:List AV)
 |tu (vs:List AV)
 |pt (id off:Nat)
 |pr (id ver i off:Nat)
 |so (id ver off len:Nat)
 |mo (id:Nat)
 |fn (f:FuncId) (caps:List AV)
 |un
 deriving Inhabited
inductive AO where
 |bx (cs:List AV)
 |rw(es:List (List D)) (sz ver:Nat) (br fz:Bool)
 |mo (es:List (Value × AV)) (dl:Bool)
 deriving Inhabited
inductive TK where
 |other |slice |struct |array (n:Nat) |string |int (k:IntKind) |map |bool |ptr
 deriving DecidableEq,Inhabited
structure TI where
 ok:Bool:=false
 kind:TK:=.other
 size:Nat:=1
 bytes:Nat:=8
 offs:List (Nat × Nat):=[]
 elem:Nat:=0
 zero:List Value:=[]
 flat:Option (List TK):=none
 mkey:Option (Bool × List TK):=none
 deriving Inhabited
def TI.agg (t:TI):Bool:=match t.kind with | .struct | .array _=>true |_=>false
def upd {α:Type}(k:Nat)(x:α)(f:Nat->α):Nat->α:=fun j=>if j=k then x else f j
abbrev Fr:=Nat->AV
abbrev Hp:=Nat->Option AO
structure St where
 fr:Fr
 hp:Hp
 nx:Nat
def upds:List (Nat × AO)->Hp->Hp
 |[],h=>h
 |(k,o)::r,h=>upds r (upd k (some o) h)
def noFr:Fr:=fun _=>.un
def noHp:Hp:=fun _=>none
def lift (b:Bool):D->AV
 | .v x=>.v x
 |d=>.d d b
def ofV:Value->AV
 | .agg cs=>if cs.toList.all (·.oneCell') then .ag (cs.toList.map AV.v) else .un
 | .tuple _=>.un
 |x=>.v x
def ev (fr:Fr):Operand->AV
 | .tmp t=>fr t
 | .const x=>ofV x
 | .func f=>.fn f []
 | .global _=>.un
def qP_:AV->Option (List AV)
 | .ag cs=>some cs
 | .d (.ag cs) b=>some (cs.map (lift b))
 | .d (.tu _) _ | .tu _ | .un=>none
 |x=>some [x]
def aggA:AV->Option (List AV)
 | .ag cs=>some cs
 | .d (.ag cs) b=>some (cs.map (lift b))
 |_=>none
def xl_:D->List D
 | .ag cs=>cs
 |x=>[x]
def isV:D->Bool
 | .v _=>true
 |_=>false
def zU_ (cs:List D):Bool:=cs.all isV
def zV_ (es:List (List D)):Bool:=es.all zU_
def toD1 (hp:Hp):AV->Option (D × Bool × List Nat)
 | .v (.slice none 0 0)=>some (.sl [],false,[])
 | .v x=>some (.v x,false,[])
 | .d (.ag _) _ | .d (.tu _) _=>none
 | .d x b=>some (x,b,[])
 | .so id ver off n=>match hp id with
  |some (.rw es _ v br _)=>if v=ver then some (.sl ((es.drop off).take n),br,[id]) else none
  |_=>none
 |_=>none
def toDs (hp:Hp):List AV->Option (List D × Bool × List Nat)
 |[]=>some ([],false,[])
 |c::r=>match toD1 hp c,toDs hp r with
  |some (d,b,i),some (ds,b',i')=>some (d::ds,b||b',i++i')
  |_,_=>none
def toD (hp:Hp):AV->Option (D × Bool × List Nat)
 | .ag cs=>(toDs hp cs).map fun(ds,b,i)=>(.ag ds,b,i)
 | .d (.ag cs) b=>some (.ag cs,b&& !zU_ cs,[])
 |x=>toD1 hp x
def toDl (hp:Hp):List AV->Option (List D × Bool × List Nat)
 |[]=>some ([],false,[])
 |c::r=>match toD hp c,toDl hp r with
  |some (d,b,i),some (ds,b',i')=>some (d::ds,b||b',i++i')
  |_,_=>none
def toR (hp:Hp):AV->Option (D × Bool × List Nat)
 | .tu cs=>(toDl hp cs).map fun(ds,b,i)=>(.tu ds,b,i)
 |x=>toD hp x
def frz (hp:Hp):List Nat->List (Nat × AO)
 |[]=>[]
 |i::r=>match hp i with
  |some (.rw es sz v br _)=>(i,.rw es sz v br true)::frz hp r
  |_=>frz hp r
def noId (i:Nat):List Nat->Bool
 |[]=>true
 |j::r=>if i=j then false else noId i r
def setL {α:Type}(i:Nat)(xs ys:List α):List α:=ys.take i++xs++ys.drop (i+xs.length)
def sub {α:Type}(i n:Nat)(xs:List α):Option (List α):=if i+n<=xs.length then some ((xs.drop i).take n) else none
def intV (op:BinOp)(k:IntKind)(a b:Int):Option Value:=
 match op with
 | .add=>some (.int k (k.wrap (a+b)))
 | .sub=>some (.int k (k.wrap (a-b)))
 | .mul=>some (.int k (k.wrap (a*b)))
 | .quo=>if b=0 then none else some (.int k (k.wrap (a.tdiv b)))
 | .rem=>if b=0 then none else some (.int k (a.tmod b))
 | .and=>some (.int k (k.wrap (BitVec.ofInt k.bits a &&& BitVec.ofInt k.bits b).toNat))
 | .or=>some (.int k (k.wrap (BitVec.ofInt k.bits a ||| BitVec.ofInt k.bits b).toNat))
 | .xor=>some (.int k (k.wrap (BitVec.ofInt k.bits a^^^BitVec.ofInt k.bits b).toNat))
 | .andNot=>some (.int k (k.wrap (BitVec.ofInt k.bits a &&& ~~~BitVec.ofInt k.bits b).toNat))
 | .lss=>some (.bool (decide (a<b)))
 | .leq=>some (.bool (decide (a<=b)))
 | .gtr=>some (.bool (decide (a > b)))
 | .geq=>some (.bool (decide (a>=b)))
 | .eql=>some (.bool (a==b))
 | .neq=>some (.bool (a != b))
 |_=>none
def strV (op:BinOp)(a b:ByteArray):Option Value:=
 match op with
 | .add=>if a.size+b.size<=maxLen then some (.string (a++b)) else none
 | .eql=>some (.bool (a.toList==b.toList))
 | .neq=>some (.bool !(a.toList==b.toList))
 | .lss=>some (.bool (Op.bytesLess a.toList b.toList))
 | .leq=>some (.bool (Op.bytesLess a.toList b.toList||a.toList==b.toList))
 | .gtr=>some (.bool !(Op.bytesLess a.toList b.toList||a.toList==b.toList))
 | .geq=>some (.bool !(Op.bytesLess a.toList b.toList))
 |_=>none
def binV (op:BinOp):Value->Value->Option Value
 | .int k a,.int k' b=>match op with
  | .shl=>if b<0 then none else some (.int k (k.wrap (a*2^(min b.toNat k.bits))))
  | .shr=>if b<0 then none else some (.int k (a.fdiv (2^(min b.toNat k.bits))))
  |_=>if k=k' then intV op k a b else none
 | .string a,.string b=>strV op a b
 |_,_=>none
def nilV (tab:Nat->TI)(T:Nat)(op:BinOp):Value->Value->Option Value
 | .slice none 0 0,.slice none 0 0=>if (tab T).kind= .slice then match op with
  | .eql=>some (.bool true)
  | .neq=>some (.bool false)
  |_=>none else none
 | .pointer none,.pointer none=>if (tab T).kind= .ptr then match op with
  | .eql=>some (.bool true)
  | .neq=>some (.bool false)
  |_=>none else none
 |x,y=>binV op x y
def eq1:TK->Value->Value->Option Bool
 | .int k,.int k' a,.int k'' b=>if k=k'/\k=k'' then some (a==b) else none
 | .string,.string a,.string b=>some (a==b)
 | .bool,.bool a,.bool b=>some (a==b)
 |_,_,_=>none
def eqK:List TK->List Value->List Value->Option Bool
 |[],[],[]=>some true
 |k::ks,x::xs,y::ys=>match eq1 k x y,eqK ks xs ys with
  |some b,some c=>some (b&&c)
  |_,_=>none
 |_,_,_=>none
def vm_:List AV->Option (List Value)
 |[]=>some []
 | .v x::r=>(vm_ r).map (x:: ·)
 |_=>none
def we_:AV->Bool
 | .ag _ | .tu _ | .un | .d (.ag _) _ | .d (.tu _) _=>false
 |_=>true
def dY_:AV->Bool
 | .pt _ _ | .pr _ _ _ _ | .d (.pt _ _) _=>true
 |_=>false
def fE_:AV->Bool
 | .d (.sl (_::_)) _=>true
 |_=>false
def isMo:AV->Bool
 | .mo _=>true
 |_=>false
def eqF:BinOp->Option AV
 | .eql=>some (.v (.bool false))
 | .neq=>some (.v (.bool true))
 |_=>none
def bin (tab:Nat->TI)(op:BinOp)(T:Nat)(x y:AV):Option AV:=
 match x,y with
 | .v (.bool a),.v (.bool b)=>match (tab T).kind,op with
  | .bool,.eql=>some (.v (.bool (a==b)))
  | .bool,.neq=>some (.v (.bool !(a==b)))
  |_,_=>none
 | .v a,.v b=>(nilV tab T op a b).map .v
 |x,.v (.pointer none)=>if dY_ x/\(tab T).kind= .ptr then match op with
  | .eql=>some (.v (.bool false))
  | .neq=>some (.v (.bool true))
  |_=>none else none
 |x,.v (.slice none 0 0)=>if fE_ x/\(tab T).kind= .slice then eqF op else none
 |x,.v (.map none)=>if isMo x/\(tab T).mkey.isSome then eqF op else none
 |x,y=>match (tab T).flat,aggA x,aggA y with
  |some ks,some cs,some ds=>match vm_ cs,vm_ ds with
   |some xs,some ys=>match eqK ks xs ys with
    |some b=>match op with
     | .eql=>some (.v (.bool b))
     | .neq=>some (.v (.bool !b))
     |_=>none
    |none=>none
   |_,_=>none
  |_,_,_=>none
def binH (tab:Nat->TI)(hp:Hp)(op:BinOp)(T:Nat)(x y:AV):Option AV:=
 match x,y with
 | .so i v _ _,.v (.slice none 0 0)=>match hp i with
  |some (.rw _ _ ver _ _)=>if v=ver/\(tab T).kind= .slice then eqF op else none
  |_=>none
 |x,y=>bin tab op T x y
def fF_:AV->Option Int
 | .v (.int _ n)=>some n
 |_=>none
def qT_ (x:AV):Option Nat:=match fF_ x with
 |some n=>if 0<=n then some n.toNat else none
 |none=>none
def xB_ (ρ:Operand->AV)(len:Nat)(lo hi:Option Operand):Option (Nat × Nat):=
 match (match lo with |none=>some 0 |some o=>qT_ (ρ o)),(match hi with |none=>some len |some o=>qT_ (ρ o)) with
 |some l,some h=>if l<=h/\h<=len then some (l,h) else none
 |_,_=>none
def yn_ (offs:List (Nat × Nat))(ρ:Operand->AV):List AV->List (Nat × Operand)->Option (List AV)
 |cs,[]=>some cs
 |cs,(i,x)::r=>match offs[i]?,qP_ (ρ x) with
  |some (off,n),some xs=>if xs.length=n/\off+n<=cs.length then yn_ offs ρ (setL off xs cs) r else none
  |_,_=>none
def v9_ (hp:Hp):AV->Option (List (List D) × Bool × List Nat)
 | .d (.sl ys) b=>some (ys,b&& !zV_ ys,[])
 | .so id v off n=>match hp id with
  |some (.rw es _ ver br _)=>if v=ver then some ((es.drop off).take n,br,[id]) else none
  |_=>none
 | .v (.slice none 0 0)=>some ([],false,[])
 |_=>none
def chk (sz:Nat)(es:List (List D)):Bool:=es.all fun e=>e.length==sz
def movA (k:Nat):AV->Option AV
 | .pt i o=>some (.pt i (o+k))
 | .d (.pt cs o) b=>some (.d (.pt cs (o+k)) b)
 | .pr i ver r o=>some (.pr i ver r (o+k))
 |_=>none
def ixArr (tab:Nat->TI)(T:Nat)(x:AV)(i:Option Nat):Option (AV × List (Nat × AO)):=
 match (tab T).kind,i with
 | .array len,some n=>if n<len then(movA (n*(tab (tab T).elem).size) x).map fun v=>(v,[]) else none
 |_,_=>none
def isV1:AV->Bool
 | .tu _ | .d (.tu _) _=>false
 |_=>true
def keyA (x:AV):Option Value:=
 match aggA x with
 |some cs=>(vm_ cs).map fun xs=>.agg xs.toArray
 |none=>match x with
  | .v y=>some y
  |_=>none
def wf1:TK->Value->Bool
 | .int k,.int k' _=>k==k'
 | .string,.string _=>true
 | .bool,.bool _=>true
 |_,_=>false
def wfK:List TK->List Value->Bool
 |[],[]=>true
 |k::ks,x::xs=>wf1 k x&&wfK ks xs
 |_,_=>false
def xQ_:Bool × List TK->Value->Bool
 |(true,ks),.agg xs=>wfK ks xs.toList
 |(false,[k]),x=>wf1 k x
 |_,_=>false
def yo_:Bool × List TK->Value->Value->Option Bool
 |(true,ks),.agg xs,.agg ys=>eqK ks xs.toList ys.toList
 |(false,[k]),x,y=>eq1 k x y
 |_,_,_=>none
def kR_ (q:Bool × List TK)(x:Value):List Value->Option (Option Nat)
 |[]=>some none
 |y::r=>match yo_ q x y with
  |some true=>some (some 0)
  |some false=>match kR_ q x r with
   |some (some i)=>some (some (i+1))
   |o=>o
  |none=>none
def jw_ (q:Bool × List TK)(x:Value):List (Value × AV)->Option (Option (Nat × AV))
 |[]=>some none
 |(y,v)::r=>match yo_ q x y with
  |some true=>some (some (0,v))
  |some false=>match jw_ q x r with
   |some (some (i,v))=>some (some (i+1,v))
   |o=>o
  |none=>none
def valX (b:Bool):Bool × List D->AV
 |(true,cs)=>.d (.ag cs) b
 |(false,[c])=>lift b c
 |(false,_)=>.un
def xt_ (b:Bool)(es:List (Value × Bool × List D)):List (Value × AV):=es.map fun p=>(p.1,valX b p.2)
def kg_:Value->D
 | .slice none 0 0=>.sl []
 |x=>.v x
def uK_ (b:Bool)(t:TI):AV:=match t.agg,t.zero with
 |false,[.slice none 0 0]=>.v (.slice none 0 0)
 |a,z=>valX b (a,z.map kg_)
def wk_ (t:TI):Option AV:=if t.agg then some (.ag (t.zero.map AV.v)) else match t.zero with
 |[z]=>some (.v z)
 |_=>none
def mput (q:Bool × List TK)(k:Value)(v:AV)(es:List (Value × AV)):Option (List (Value × AV)):=match jw_ q k es with
 |some (some (i,_))=>some (es.set i (k,v))
 |some none=>some (es++[(k,v)])
 |none=>none
def mC_ (tab:Nat->TI)(T:Nat)(x:Option (List AV))(i:Option Nat):Option (AV × List (Nat × AO)):=
 match (tab T).kind,x,i with
 | .array len,some cs,some n=>if n<len then
   (if (tab (tab T).elem).agg then(sub (n*(tab (tab T).elem).size) (tab (tab T).elem).size cs).map fun c=>(.ag c,[]) else(cs[n*(tab (tab T).elem).size]?).map fun c=>(c,[])) else none
 |_,_,_=>none
def appZ (tab:Nat->TI)(id T T':Nat)(x:AV)(n:Option Nat):Option (AV × List (Nat × AO)):=
 match (tab T').kind,x,n with
 | .int _,.v (.slice none 0 0),some n=>if (tab T).kind= .slice/\(tab (tab T).elem).ok/\0<(tab (tab T).elem).size/\(tab (tab T).elem).bytes<=32768/\0<n/\n<=4294967296 then
   some (.so id 0 0 n,[(id,.rw (List.replicate n ((tab (tab T).elem).zero.map D.v)) (tab (tab T).elem).size 0 false false)]) else none
 |_,_,_=>none
def yp_:List (List D)->Option (List UInt8)
 |[]=>some []
 |[.v (.int .u8 n)]::r=>(yp_ r).map fun l=>UInt8.ofNat n.toNat::l
 |_::_=>none
def ql_ (tab:Nat->TI)(ρ:Operand->AV)(hp:Hp)(id:Nat):Op->Option (AV × List (Nat × AO))
 | .move x | .assign x=>some (ρ x,[])
 | .pick c a b=>match ρ c with
  | .v (.bool t)=>some (if t then ρ a else ρ b,[])
  |_=>none
 | .alloc T=>if (tab T).ok then some (.pt id 0,[(id,.bx ((tab T).zero.map AV.v))]) else none
 | .box _ x=>(qP_ (ρ x)).map fun cs=>(.pt id 0,[(id,.bx cs)])
 | .build T ps=>if (tab T).ok/\(tab T).agg then(yn_ (tab T).offs ρ ((tab T).zero.map AV.v) ps.toList).map fun cs=>(.ag cs,[]) else none
 | .load T x=>if (tab T).ok then match ρ x with
  | .pt i off=>match hp i with
   |some (.bx cs)=>if (tab T).agg then(sub off (tab T).size cs).map fun c=>(.ag c,[]) else(cs[off]?).map fun c=>(c,[])
   |_=>none
  | .d (.pt cs off) b=>if (tab T).agg then(sub off (tab T).size cs).map fun c=>(.d (.ag c) b,[]) else(cs[off]?).map fun c=>(lift b c,[])
  | .pr i ver k off=>match hp i with
   |some (.rw es _ v br _)=>if v=ver then match es[k]? with
     |some cs=>if (tab T).agg then(sub off (tab T).size cs).map fun c=>(.d (.ag c) br,[]) else(cs[off]?).map fun c=>(lift br c,[])
     |none=>none
    else none
   |_=>none
  |_=>none else none
 | .store T x y=>if (tab T).ok then match ρ x,qP_ (ρ y) with
  | .pt i off,some xs=>match hp i with
   |some (.bx cs)=>if xs.length=(tab T).size/\off+xs.length<=cs.length then some (.un,[(i,.bx (setL off xs cs))]) else none
   |_=>none
  | .pr i ver k off,some xs=>match hp i,toDs hp xs with
   |some (.rw es sz v br false),some (ds,b,is)=>match es[k]? with
    |some cs=>if ver=v/\xs.length=(tab T).size/\off+xs.length<=cs.length/\noId i is=true then some (.un,frz hp is++[(i,.rw (es.set k (setL off ds cs)) sz v (br||b) false)]) else none
    |none=>none
   |_,_=>none
  |_,_=>none else none
 | .nilCheck x=>if dY_ (ρ x) then some (ρ x,[]) else none
 | .binOp op T x y _=>(binH tab hp op T (ρ x) (ρ y)).map fun v=>(v,[])
 | .unOp op _ x=>match op,ρ x with
  | .not,.v (.bool b)=>some (.v (.bool !b),[])
  | .neg,.v (.int k n)=>some (.v (.int k (k.wrap (0-n))),[])
  |_,_=>none
 | .convert s t x=>match (tab s).ok,(tab t).kind,ρ x with
  |true,.int k,.v (.int _ n)=>some (.v (.int k (k.wrap n)),[])
  |true,.string,.v (.string s)=>some (.v (.string s),[])
  |true,.string,.so i ver off len=>match hp i with
   |some (.rw es sz v _ _)=>if v=ver/\sz=1/\(tab s).kind= .slice/\(tab (tab s).elem).kind= .int .u8 then(yp_ ((es.drop off).take len)).map fun bs=>(.v (.string ⟨bs.toArray⟩),[]) else none
   |_=>none
  |_,_,_=>none
 | .fieldAddr T x f=>if (tab T).kind= .struct then match (tab T).offs[f]? with
  |some (off,n)=>if n=0 then none else match ρ x with
   | .pt i o=>some (.pt i (o+off),[])
   | .d (.pt cs o) b=>some (.d (.pt cs (o+off)) b,[])
   | .pr i ver k o=>some (.pr i ver k (o+off),[])
   |_=>none
  |none=>none else none
 | .indexAddr T x i=>if (tab T).kind= .slice then match ρ x,qT_ (ρ i) with
  | .d (.sl es) b,some n=>match es[n]? with
   |some cs=>if (tab (tab T).elem).ok/\cs.length=(tab (tab T).elem).size then some (.d (.pt cs 0) b,[]) else none
   |none=>none
  | .so i ver off len,some n=>match hp i with
   |some (.rw _ sz v _ _)=>if n<len/\ver=v/\(tab (tab T).elem).ok/\sz=(tab (tab T).elem).size then some (.pr i ver (off+n) 0,[]) else none
   |_=>none
  |_,_=>none else ixArr tab T (ρ x) (qT_ (ρ i))
 | .index T x i=>if (tab T).kind= .string then match ρ x,qT_ (ρ i) with
  | .v (.string s),some n=>(s[n]?).map fun b=>(.v (.int .u8 b.toNat),[])
  |_,_=>none else mC_ tab T (aggA (ρ x)) (qT_ (ρ i))
 | .slice T x lo hi none=>match (tab T).kind,ρ x with
  | .string,.v (.string s)=>(xB_ ρ s.size lo hi).map fun p=>(.v (.string (s.extract p.1 p.2)),[])
  | .slice,.d (.sl es) b=>if (tab (tab T).elem).ok/\chk (tab (tab T).elem).size es then(xB_ ρ es.length lo hi).map fun p=>(.d (.sl ((es.take p.2).drop p.1)) b,[]) else none
  | .slice,.so i ver off len=>match xB_ ρ len lo hi,hp i with
   |some (l,h),some (.rw _ sz v _ _)=>if ver=v/\(tab (tab T).elem).ok/\sz=(tab (tab T).elem).size then(if l=0\/l<len then some (.so i ver (off+l) (h-l),[]) else some (.d (.sl []) false,[])) else none
   |_,_=>none
  | .slice,.v (.slice none 0 0)=>if (tab (tab T).elem).ok then(xB_ ρ 0 lo hi).map fun _=>(.v (.slice none 0 0),[]) else none
  |_,_=>none
 | .extract x i=>match ρ x with
  | .tu vs=>(vs[i]?).map fun v=>(v,[])
  | .d (.tu ds) b=>(ds[i]?).map fun d=>(lift b d,[])
  |_=>none
 | .makeFunc (.func f) first caps=>if first.size=0/\(caps.toList.map ρ).all we_ then some (.fn f (caps.toList.map ρ),[]) else none
 | .buildSlice T n ps=>if (tab T).kind= .slice/\ps.toList.map (·.1)=List.range n/\(tab (tab T).elem).ok/\0<(tab (tab T).elem).size/\n*(tab (tab T).elem).size<=16777216 then
   match toDl hp (ps.toList.map fun p=>ρ p.2) with
   |some (ds,b,is)=>if chk (tab (tab T).elem).size (ds.map xl_) then some (.so id 0 0 n,frz hp is++[(id,.rw (ds.map xl_) (tab (tab T).elem).size 0 b false)]) else none
   |none=>none
  else none
 | .call { callee:=.builtin .len,args,argTypes }=>match args.toList,argTypes.toList with
  |[x],[T]=>match (tab T).kind,ρ x with
   | .slice,.d (.sl es) _=>some (.v (.int .i64 es.length),[])
   | .slice,.so _ _ _ n=>some (.v (.int .i64 n),[])
   | .slice,.v (.slice none 0 0)=>some (.v (.int .i64 0),[])
   | .string,.v (.string s)=>some (.v (.int .i64 s.size),[])
   |_,_=>none
  |_,_=>none
 | .call { callee:=.builtin .append,args,argTypes }=>match args.toList,argTypes.toList with
  |[x,y],[T,T']=>if T=T'/\(tab T).kind= .slice/\(tab (tab T).elem).ok/\0<(tab (tab T).elem).size then
   match v9_ hp (ρ y),ρ x with
   |some (ys,b,_),.v (.slice none 0 0)=>
    if chk (tab (tab T).elem).size ys/\(tab (tab T).elem).bytes<=32768/\ys.length<=4294967296 then
     if ys.length=0 then some (.v (.slice none 0 0),[]) else some (.so id 0 0 ys.length,[(id,.rw ys (tab (tab T).elem).size 0 b false)])
    else none
   |some (ys,b,_),.so i v off n=>match hp i with
    |some (.rw es sz ver br false)=>
     if v=ver/\off=0/\n<=es.length/\sz=(tab (tab T).elem).size/\chk sz ys/\(tab (tab T).elem).bytes<=32768/\n+ys.length<=4294967296 then
      some (.so i (ver+1) 0 (n+ys.length),[(i,.rw (es.take n++ys) sz (ver+1) (br||b) false)]) else none
    |_=>none
   |_,_=>none
  else appZ tab id T T' (ρ x) (qT_ (ρ y))
  |_,_=>none
 | .makeMap T none=>match (tab T).mkey with
  |some _=>some (.mo id,[(id,.mo [] false)])
  |none=>none
 | .lookup T x k ok=>match (tab T).mkey,keyA (ρ k),wk_ (tab (tab T).elem) with
  |some q,some kv,some z=>if xQ_ q kv then match ρ x with
   | .mo i=>match hp i with
    |some (.mo es _)=>match jw_ q kv es with
     |some none=>some (if ok then .tu [z,.v (.bool false)] else z,[])
     |some (some (_,v))=>some (if ok then .tu [v,.v (.bool true)] else v,[])
     |none=>none
    |_=>none
   | .d (.mp es) b=>match jw_ q kv (xt_ b es) with
    |some none=>some (if ok then .tu [uK_ b (tab (tab T).elem),.v (.bool false)] else uK_ b (tab (tab T).elem),[])
    |some (some (_,v))=>some (if ok then .tu [v,.v (.bool true)] else v,[])
    |none=>none
   | .v (.map none)=>some (if ok then .tu [z,.v (.bool false)] else z,[])
   |_=>none else none
  |_,_,_=>none
 | .mapUpdate T m k x | .insert T m k x=>match (tab T).mkey,keyA (ρ k) with
  |some q,some kv=>if xQ_ q kv/\isV1 (ρ x) then match ρ m with
   | .mo i=>match hp i with
    |some (.mo es dl)=>(mput q kv (ρ x) es).map fun es'=>(.un,[(i,.mo es' dl)])
    |_=>none
   |_=>none else none
  |_,_=>none
 | .mapEntry T m k=>match (tab T).mkey,keyA (ρ k),wk_ (tab (tab T).elem) with
  |some q,some kv,some z=>if xQ_ q kv then match ρ m with
   | .mo i=>match hp i with
    |some (.mo es false)=>match jw_ q kv es with
     |some none=>some (.tu [z,.v (.int .i64 es.length)],[(i,.mo (es++[(kv,z)]) false)])
     |some (some (j,v))=>some (.tu [v,.v (.int .i64 j)],[(i,.mo (es.set j (kv,v)) false)])
     |none=>none
    |_=>none
   |_=>none else none
  |_,_,_=>none
 | .entryStore _ m st x=>match ρ m,qT_ (ρ st) with
  | .mo i,some j=>if isV1 (ρ x) then match hp i with
   |some (.mo es false)=>match es[j]? with
    |some (k,_)=>some (.un,[(i,.mo (es.set j (k,ρ x)) false)])
    |none=>none
   |_=>none else none
  |_,_=>none
 | .call { callee:=.builtin .delete,args,argTypes }=>match args.toList,argTypes.toList with
  |[m,k],[T,_]=>match (tab T).mkey,keyA (ρ k) with
   |some q,some kv=>if xQ_ q kv then match ρ m with
    | .mo i=>match hp i with
     |some (.mo es _)=>match jw_ q kv es with
      |some none=>some (.tu [],[])
      |some (some (j,_))=>some (.tu [],[(i,.mo (es.eraseIdx j) true)])
      |none=>none
     |_=>none
    |_=>none else none
   |_,_=>none
  |_,_=>none
 | .makeSlice T l c=>if (tab T).kind= .slice/\(tab (tab T).elem).ok/\0<(tab (tab T).elem).size/\(tab (tab T).elem).bytes<=32768 then match qT_ (ρ l),qT_ (ρ c) with
  |some n,some m=>if n<=m/\m<=4294967296 then some (.so id 0 0 n,[(id,.rw (List.replicate n ((tab (tab T).elem).zero.map D.v)) (tab (tab T).elem).size 0 false false)]) else none
  |_,_=>none
  else none
 | .call { callee:=.builtin .min,args, .. }=>match args.toList with
  |[x,y]=>match ρ x,ρ y with
   | .v (.int k a),.v (.int _ b)=>some (.v (.int k (if b<a then b else a)),[])
   |_,_=>none
  |_=>none
 | .call { callee:=.builtin .max,args, .. }=>match args.toList with
  |[x,y]=>match ρ x,ρ y with
   | .v (.int k a),.v (.int _ b)=>some (.v (.int k (if b > a then b else a)),[])
   |_,_=>none
  |_=>none
 | .call { callee:=.builtin .clear,args,argTypes }=>match args.toList,argTypes.toList with
  |[x],[T]=>if (tab T).kind= .slice/\(tab (tab T).elem).ok/\0<(tab (tab T).elem).size then match ρ x with
   | .v (.slice none 0 0)=>some (.tu [],[])
   | .so i ver off n=>match hp i with
    |some (.rw es sz v br false)=>if ver=v/\sz=(tab (tab T).elem).size/\off+n<=es.length then
      (if n=0 then some (.tu [],[]) else some (.tu [],[(i,.rw (es.take off++List.replicate n ((tab (tab T).elem).zero.map D.v)++es.drop (off+n)) sz v br false)])) else none
    |_=>none
   |_=>none else none
  |_,_=>none
 | .call { callee:=.builtin .cap,args,argTypes }=>match args.toList,argTypes.toList with
  |[x],[T]=>match (tab T).kind,ρ x with
   | .slice,.v (.slice none 0 0)=>some (.v (.int .i64 0),[])
   |_,_=>none
  |_,_=>none
 |_=>none
end
section
inductive RC (w:World) (I:Nat->Prop):D->Value->Prop
 |v (x:Value) (h:x.oneCell'=true):RC w I (.v x) x
 |nl (a:Option Addr) (c:Nat):RC w I (.sl []) (.slice a 0 c)
 |sl (es:List (List D)) (b o c sz:Nat) (us:Nat->Nat->Value) (hI:I b) (hc:es.length<=c)
   (hz:∀(i:Nat) (cs:List D),es[i]? =some cs->cs.length=sz)
   (hm:∀(i j:Nat) (cs:List D) (d:D),es[i]? =some cs->cs[j]? =some d->w.cell? ⟨b,o+i*sz+j,none⟩=some (us i j))
   (hd:∀(i j:Nat) (cs:List D) (d:D),es[i]? =some cs->cs[j]? =some d->RC w I d (us i j)):RC w I (.sl es) (.slice (some ⟨b,o,none⟩) es.length c)
 |pt (cs:List D) (off b o:Nat) (us:Nat->Value) (hI:I b)
   (hm:∀(j:Nat) (d:D),cs[j]? =some d->w.cell? ⟨b,o+j,none⟩=some (us j))
   (hd:∀(j:Nat) (d:D),cs[j]? =some d->RC w I d (us j)):RC w I (.pt cs off) (.pointer (some ⟨b,o+off,none⟩))
 |mp (es:List (Value × Bool × List D)) (r:Nat) (en:Array MapEntry) (k:Nat) (hI:I r) (hm:w.heap[r]? =some (.map en k)) (hn:en.size=es.length)
   (hk:∀(i:Nat) (x:Value) (ag:Bool) (cs:List D) (e:MapEntry),es[i]? =some (x,ag,cs)->en[i]? =some e->e.key=x/\e.val.cells.size=cs.length/\(ag=true->∃vs,e.val= .agg vs)/\(ag=false->e.val.cells= #[e.val]))
   (hd:∀(i j:Nat) (x:Value) (ag:Bool) (cs:List D) (e:MapEntry) (d:D) (u:Value),es[i]? =some (x,ag,cs)->en[i]? =some e->cs[j]? =some d->e.val.cells[j]? =some u->RC w I d u):RC w I (.mp es) (.map (some r))
theorem RC.mono {w w':World}{I I':Nat->Prop}(hb:∀b,I b->w'.heap[b]? =w.heap[b]?)(hI:∀b,I b->I' b){d:D}{u:Value}(h:RC w I d u):RC w' I' d u:=by
 have hc:∀(a:Addr),I a.block->w'.cell? a=w.cell? a:=fun a ha=>World.cell?_of_block (hb a.block ha);induction h with
 |v x h=>exact .v x h
 |nl a c=>exact .nl a c
 |sl es b o c sz us h1 h2 h3 h4 h5 ih=>exact .sl es b o c sz us (hI b h1) h2 h3 (fun i j cs d e1 e2=>(hc ⟨b,o+i*sz+j,none⟩ h1).trans (h4 i j cs d e1 e2)) ih
 |pt cs off b o us h1 h2 h3 ih=>exact .pt cs off b o us (hI b h1) (fun j d e=>(hc ⟨b,o+j,none⟩ h1).trans (h2 j d e)) ih
 |mp es r en k h1 h2 h3 h4 h5 ih=>exact .mp es r en k (hI r h1) ((hb r h1).trans h2) h3 h4 ih
theorem RC.plain {w w':World}{I I':Nat->Prop}{d:D}{u:Value}(hp:isV d=true)(h:RC w I d u):RC w' I' d u:=by
 cases h with
 |v _ h=>exact .v _ h
 |_=>cases hp
theorem RC.one {w:World}{I:Nat->Prop}{d:D}{u:Value}(h:RC w I d u):u.oneCell'=true:=by
 cases h<;>first |assumption |rfl
def RV1 (w:World)(I:Nat->Prop)(d:D)(u:Value):Prop:=
 match d with
 | .ag cs=>∃vs:Array Value,u= .agg vs/\vs.size=cs.length/\∀(j:Nat) (d:D),cs[j]? =some d->∃x,vs[j]? =some x/\RC w I d x
 |d=>RC w I d u
def RV (w:World)(I:Nat->Prop)(d:D)(u:Value):Prop:=
 match d with
 | .tu ds=>∃vs:Array Value,u= .tuple vs/\vs.size=ds.length/\∀(j:Nat) (d:D),ds[j]? =some d->∃x,vs[j]? =some x/\RV1 w I d x
 |d=>RV1 w I d u
theorem RV1.mono {w w':World}{I I':Nat->Prop}(hb:∀b,I b->w'.heap[b]? =w.heap[b]?)(hI:∀b,I b->I' b){d:D}{u:Value}(h:RV1 w I d u):RV1 w' I' d u:=by
 unfold RV1 at *;split at h
 ·obtain⟨vs,h1,h2,h3⟩:=h
  exact⟨vs,h1,h2,fun j d e=>let ⟨x,e1,e2⟩:=h3 j d e;⟨x,e1,e2.mono hb hI⟩⟩
 ·exact h.mono hb hI
theorem RV.mono {w w':World}{I I':Nat->Prop}(hb:∀b,I b->w'.heap[b]? =w.heap[b]?)(hI:∀b,I b->I' b){d:D}{u:Value}(h:RV w I d u):RV w' I' d u:=by
 unfold RV at *;split at h
 ·obtain⟨vs,h1,h2,h3⟩:=h
  exact⟨vs,h1,h2,fun j d e=>let ⟨x,e1,e2⟩:=h3 j d e;⟨x,e1,e2.mono hb hI⟩⟩
 ·exact h.mono hb hI
def AO.fz:AO->Bool
 | .rw _ _ _ _ fz=>fz
 |_=>false
def AO.isRw:AO->Bool
 | .rw .. =>true
 |_=>false
structure Cf where
 hp:Hp
 φ:Nat->Nat
 w:World
 kn:Nat->Prop
structure Gh where
 base:Nat
 M0:Nat->Prop
 fb:Nat
def Im (g:Gh)(c:Cf)(b:Bool)(k:Nat):Prop:=
 k<c.w.heap.size/\¬g.M0 k/\(∀id o,c.hp id=some o->o.fz=false->c.φ id≠k)/\(b=false->g.base<=k)
inductive RA (g:Gh) (c:Cf):AV->Value->Prop
 |v (x:Value) (h:x.oneCell'=true):RA g c (.v x) x
 |d (x:D) (b:Bool) (u:Value) (h:RC c.w (Im g c b) x u):RA g c (.d x b) u
 |pt (id off:Nat) (hn:c.kn id) (ho:∀o,c.hp id=some o->o.isRw=false):RA g c (.pt id off) (.pointer (some ⟨c.φ id,off,none⟩))
 |mo (id:Nat) (hn:c.kn id) (ho:∀o,c.hp id=some o->o.isRw=false):RA g c (.mo id) (.map (some (c.φ id)))
 |pr (id ver i off:Nat) (u:Value) (hn:c.kn id) (hp:∃a,u= .pointer (some a))
   (h:∀es sz v br fz,c.hp id=some (.rw es sz v br fz)->ver<=v/\(ver=v->u= .pointer (some ⟨c.φ id,i*sz+off,none⟩))):RA g c (.pr id ver i off) u
 |so (id ver off len:Nat) (u:Value) (hn:c.kn id) (hp:∃a m,u= .slice a len m)
   (h:∀es sz v br fz,c.hp id=some (.rw es sz v br fz)->ver<=v/\(ver=v->off+len<=es.length/\∃cur T C,c.w.heap[c.φ id]? =some (.cells cur T (0,0))/\cur.size=(off+C)*sz/\u= .slice (some ⟨c.φ id,off*sz,none⟩) len C)):RA g c (.so id ver off len) u
 |fn (f:FuncId) (caps:List AV) (us:Nat->Value) (n:Nat) (hn:caps.length=n) (h:∀(j:Nat) (x:AV),caps[j]? =some x->RA g c x (us j)):RA g c (.fn f caps) (.func (.func f) #[] (Array.ofFn (n:=n) fun j=>us j))
def RA1 (g:Gh)(c:Cf)(x:AV)(u:Value):Prop:=
 match x with
 | .un=>True
 | .ag cs=>∃vs:Array Value,u= .agg vs/\vs.size=cs.length/\∀(j:Nat) (x:AV),cs[j]? =some x->∃y,vs[j]? =some y/\RA g c x y
 | .d (.ag cs) b=>RV1 c.w (Im g c b) (.ag cs) u
 |x=>RA g c x u
def RAt (g:Gh)(c:Cf)(x:AV)(u:Value):Prop:=
 match x with
 | .tu cs=>∃vs:Array Value,u= .tuple vs/\vs.size=cs.length/\∀(j:Nat) (x:AV),cs[j]? =some x->∃y,vs[j]? =some y/\RA1 g c x y
 | .d (.tu cs) b=>RV c.w (Im g c b) (.tu cs) u
 |x=>RA1 g c x u
def OK (g:Gh)(c:Cf)(id:Nat):AO->Prop
 | .bx cs=>∃T vs,c.w.heap[c.φ id]? =some (.cells vs T (0,0))/\vs.size=cs.length/\∀(j:Nat) (x:AV),cs[j]? =some x->∃u,vs[j]? =some u/\RA g c x u
 | .rw es sz _ br _=>0<sz/\(∀(i:Nat) (cs:List D),es[i]? =some cs->cs.length=sz)/\∃T vs C,c.w.heap[c.φ id]? =some (.cells vs T (0,0))/\vs.size=C*sz/\es.length<=C/\C<=maxLen/\
   ∀(i j:Nat) (cs:List D) (d:D),es[i]? =some cs->cs[j]? =some d->∃u,vs[i*sz+j]? =some u/\RC c.w (Im g c br) d u
 | .mo es dl=>∃en k,c.w.heap[c.φ id]? =some (.map en k)/\en.size=es.length/\(dl=false->k=en.size/\∀(i:Nat) (e:MapEntry),en[i]? =some e->e.born=i)/\
   ∀(i:Nat) (x:Value) (y:AV),es[i]? =some (x,y)->∃e,en[i]? =some e/\e.key=x/\RA1 g c y e.val
def Out (g:Gh)(k:Nat):Prop:=g.base<=k/\¬g.M0 k
structure HR (g:Gh) (c:Cf):Prop where
 le:g.base<=c.w.heap.size
 m0:∀k,g.M0 k->k<c.w.heap.size
 dom:∀id o,c.hp id=some o->c.kn id/\Out g (c.φ id)/\c.φ id<c.w.heap.size
 inj:∀i j o p,c.hp i=some o->c.hp j=some p->i≠j->c.φ i≠c.φ j
 obj:∀id o,c.hp id=some o->OK g c id o
structure Ext (c c':Cf):Prop where
 os:c'.w.os=c.w.os
 tape:c'.w.tape=c.w.tape
 output:c'.w.output=c.w.output
 size:c.w.heap.size<=c'.w.heap.size
 kn:∀id,c.kn id->c'.kn id
 block:∀k,k<c.w.heap.size->(∀id o,c.hp id=some o->o.fz=false->c.φ id≠k)->c'.w.heap[k]? =c.w.heap[k]?
 muts:∀id o',c'.hp id=some o'->o'.fz=false->c.w.heap.size<=c'.φ id\/∃o,c.hp id=some o/\o.fz=false/\c'.φ id=c.φ id
 keep:∀id,c.kn id->(∀o,c.hp id=some o->o.isRw=false)->c'.φ id=c.φ id/\∀o',c'.hp id=some o'->o'.isRw=false
 rows:∀id es' sz v' br' fz',c.kn id->c'.hp id=some (.rw es' sz v' br' fz')->∃es v br fz,c.hp id=some (.rw es sz v br fz)/\v<=v'/\
  (v=v'->c'.φ id=c.φ id/\es.length=es'.length/\∀cur T,c.w.heap[c.φ id]? =some (.cells cur T (0,0))->∃cur',c'.w.heap[c.φ id]? =some (.cells cur' T (0,0))/\cur'.size=cur.size)
 drawn:c.w.drawn<=c'.w.drawn
theorem Ext.refl (c:Cf):Ext c c:=⟨rfl,rfl,rfl,Nat.le_refl _,fun _ h=>h,fun _ _ _=>rfl,fun _ o h hf=>.inr ⟨o,h,hf,rfl⟩,fun _ _ h=>⟨rfl,h⟩,
 fun _ es _ v br fz _ h=>⟨es,v,br,fz,h,Nat.le_refl _,fun _=>⟨rfl,rfl,fun cur _ e=>⟨cur,e,rfl⟩⟩⟩,Nat.le_refl _⟩
theorem Ext.trans {a b c:Cf}(h:Ext a b)(k:Ext b c):Ext a c:=by
 refine⟨k.os.trans h.os,k.tape.trans h.tape,k.output.trans h.output,Nat.le_trans h.size k.size,fun i hi=>k.kn i (h.kn i hi),?_,?_,?_,?_,Nat.le_trans h.drawn k.drawn⟩
 ·intro x hx hm
  refine(k.block x (Nat.lt_of_lt_of_le hx h.size) fun id o ho hf=> ?_).trans (h.block x hx hm);rcases h.muts id o ho hf with h1 |⟨o1,h1,h2,h3⟩
  ·omega
  ·rw[h3];exact hm id o1 h1 h2
 ·intro id o' ho hf
  rcases k.muts id o' ho hf with h1 |⟨o1,h1,h2,h3⟩
  ·exact .inl (Nat.le_trans h.size h1)
  ·rcases h.muts id o1 h1 h2 with h4 |⟨o2,h4,h5,h6⟩
   ·exact .inl (by rw[h3];exact h4)
   grind
 ·intro id hn ho
  obtain⟨h1,h2⟩:=h.keep id hn ho;obtain⟨h3,h4⟩:=k.keep id (h.kn _ hn) h2;exact⟨h3.trans h1,h4⟩
 ·intro id es' sz v' br' fz' hn hr
  obtain⟨es1,v1,br1,fz1,h1,h2,h3⟩:=k.rows id es' sz v' br' fz' (h.kn _ hn) hr;obtain⟨es0,v0,br0,fz0,h4,h5,h6⟩:=h.rows id es1 sz v1 br1 fz1 hn h1;grind
section
variable {g:Gh}{c c':Cf}
theorem Im.ext (h:Ext c c'){b:Bool}{k:Nat}(hk:Im g c b k):Im g c' b k:=by
 obtain⟨h1,h2,h3,h4⟩:=hk;refine⟨Nat.lt_of_lt_of_le h1 h.size,h2,fun id o ho hf=> ?_,h4⟩;rcases h.muts id o ho hf with h5 |⟨o1,h5,h6,h7⟩
 ·omega
 ·rw[h7];exact h3 id o1 h5 h6
theorem Im.block (h:Ext c c'){b:Bool}{k:Nat}(hk:Im g c b k):c'.w.heap[k]? =c.w.heap[k]? :=h.block k hk.1 hk.2.2.1
theorem Im.weak {b:Bool}{k:Nat}(hk:Im g c b k):Im g c true k:=⟨hk.1,hk.2.1,hk.2.2.1,by simp⟩
theorem RC.ext (h:Ext c c'){b:Bool}{d:D}{u:Value}(hr:RC c.w (Im g c b) d u):RC c'.w (Im g c' b) d u:=hr.mono (fun _ hk=>hk.block h) fun _ hk=>hk.ext h
theorem RV1.ext (h:Ext c c'){b:Bool}{d:D}{u:Value}(hr:RV1 c.w (Im g c b) d u):RV1 c'.w (Im g c' b) d u:=hr.mono (fun _ hk=>hk.block h) fun _ hk=>hk.ext h
theorem RV.ext (h:Ext c c'){b:Bool}{d:D}{u:Value}(hr:RV c.w (Im g c b) d u):RV c'.w (Im g c' b) d u:=hr.mono (fun _ hk=>hk.block h) fun _ hk=>hk.ext h
theorem RA.ext (h:Ext c c'){x:AV}{u:Value}(hr:RA g c x u):RA g c' x u:=by
 induction hr with
 |v x h=>exact .v x h
 |d x b u h1=>exact .d x b u (h1.ext h)
 |pt id off hn ho=>
  obtain⟨h1,h2⟩:=h.keep id hn ho;rw[<-h1];exact .pt id off (h.kn _ hn) h2
 |mo id hn ho=>
  obtain⟨h1,h2⟩:=h.keep id hn ho;rw[<-h1];exact .mo id (h.kn _ hn) h2
 |pr id ver i off u hn hp h1=>
  refine .pr id ver i off u (h.kn _ hn) hp fun es' sz v' br' fz' hr=> ?_;obtain⟨es,v,br,fz,h2,h3,h4⟩:=h.rows id es' sz v' br' fz' hn hr;grind
 |so id ver off len u hn hp h1=>
  refine .so id ver off len u (h.kn _ hn) hp fun es' sz v' br' fz' hr=> ?_;obtain⟨es,v,br,fz,h2,h3,h4⟩:=h.rows id es' sz v' br' fz' hn hr;grind
 |fn f caps us n hn _ ih=>exact .fn f caps us n hn ih
theorem RA.one {x:AV}{u:Value}(hr:RA g c x u):u.oneCell'=true:=by
 cases hr with
 |v x h=>exact h
 |d x b u h=>exact h.one
 |pr id ver i off u hn hp _=>obtain⟨a,rfl⟩:=hp;rfl
 |so id ver off len u hn hp _=>obtain⟨a,m,rfl⟩:=hp;rfl
 |_=>rfl
theorem RA1.ext (h:Ext c c'){x:AV}{u:Value}(hr:RA1 g c x u):RA1 g c' x u:=by
 unfold RA1 at *;grind [RV1.ext,RA.ext]
theorem RAt.ext (h:Ext c c'){x:AV}{u:Value}(hr:RAt g c x u):RAt g c' x u:=by
 unfold RAt at *;grind [RV.ext,RA1.ext]
theorem OK.ext (h:Ext c c'){id:Nat}{o:AO}(ho:OK g c id o)(hφ:c'.φ id=c.φ id)(hb:c'.w.heap[c.φ id]? =c.w.heap[c.φ id]?):OK g c' id o:=by
 cases o with
 |bx cs=>
  obtain⟨T,vs,h1,h2,h3⟩:=ho;exact⟨T,vs,by rw[hφ,hb];exact h1,h2,fun j x e=>let ⟨u,e1,e2⟩:=h3 j x e;⟨u,e1,e2.ext h⟩⟩
 |rw es sz v br fz=>
  obtain⟨h1,h2,T,vs,C,h3,h4,h5,h6,h7⟩:=ho;exact⟨h1,h2,T,vs,C,by rw[hφ,hb];exact h3,h4,h5,h6,fun i j cs d e1 e2=>let ⟨u,e3,e4⟩:=h7 i j cs d e1 e2;⟨u,e3,e4.ext h⟩⟩
 |mo es dl=>
  obtain⟨en,k,h1,h2,h0,h5⟩:=ho;exact⟨en,k,by rw[hφ,hb];exact h1,h2,h0,fun i x y e=>let ⟨e',e1,e2,e3⟩:=h5 i x y e;⟨e',e1,e2,e3.ext h⟩⟩
end
end
section
theorem qd_ {α:Type}(k:Nat)(x:α)(f:Nat->α):upd k x f k=x:=by simp[upd]
theorem qb_ {α:Type}{k j:Nat}(x:α)(f:Nat->α)(h:j≠k):upd k x f j=f j:=by simp[upd,h]
section
variable {g:Gh}{c:Cf}
theorem Ext.more (c:Cf)(kn:Nat->Prop)(hk:∀i,c.kn i->kn i):Ext c ⟨c.hp,c.φ,c.w,kn⟩:=
 ⟨rfl,rfl,rfl,Nat.le_refl _,hk,fun _ _ _=>rfl,fun _ o h hf=>.inr ⟨o,h,hf,rfl⟩,fun _ _ h=>⟨rfl,h⟩,fun _ es _ v br fz _ h=>⟨es,v,br,fz,h,Nat.le_refl _,fun _=>⟨rfl,rfl,fun cur _ e=>⟨cur,e,rfl⟩⟩⟩,Nat.le_refl _⟩
theorem HR.more (h:HR g c)(kn:Nat->Prop)(hk:∀i,c.kn i->kn i):HR g ⟨c.hp,c.φ,c.w,kn⟩:=
 ⟨h.le,h.m0,fun id o ho=>⟨hk _ (h.dom id o ho).1,(h.dom id o ho).2⟩,h.inj,fun id o ho=>(h.obj id o ho).ext (Ext.more c kn hk) rfl rfl⟩
theorem Ext.new (_:HR g c){id b:Nat}{ao:AO}{w':World}{kn:Nat->Prop}(hid:¬c.kn id)(hos:w'.os=c.w.os)(ht:w'.tape=c.w.tape)(hou:w'.output=c.w.output)
  (hs:c.w.heap.size<=w'.heap.size) (hbl:∀k,k<c.w.heap.size->w'.heap[k]? =c.w.heap[k]?) (hb:c.w.heap.size<=b) (hk:∀i,c.kn i->kn i) (hdr:c.w.drawn<=w'.drawn:=by first |exact Nat.le_refl _ |exact Nat.le_succ _):
  Ext c ⟨upd id (some ao) c.hp,upd id b c.φ,w',kn⟩:=by
 have hne:∀i,c.kn i->i≠id:=fun i hi e=>hid (e▸hi);refine⟨hos,ht,hou,hs,hk,fun k hlt _=>hbl k hlt,?_,?_,?_,hdr⟩
 ·intro i o' ho hf
  by_cases e:i=id
  ·subst e
   exact .inl (by simpa [upd] using hb)
  ·simp only[qb_ _ _ e] at ho⊢
   exact .inr ⟨o',ho,hf,trivial⟩
 ·intro i hi ho
  simp only[qb_ _ _ (hne i hi)];exact⟨trivial,ho⟩
 ·intro i es' sz v' br' fz' hi hr
  simp only[qb_ _ _ (hne i hi)] at hr⊢;grind
theorem HR.new (h:HR g c){id b:Nat}{ao:AO}{w':World}{kn:Nat->Prop}(he:Ext c ⟨upd id (some ao) c.hp,upd id b c.φ,w',kn⟩)(hid:¬c.kn id)(hb:c.w.heap.size<=b)(hb2:b<w'.heap.size)(hkid:kn id)
  (hbl:∀k,k<c.w.heap.size->w'.heap[k]? =c.w.heap[k]?) (ho:OK g ⟨upd id (some ao) c.hp,upd id b c.φ,w',kn⟩ id ao):HR g ⟨upd id (some ao) c.hp,upd id b c.φ,w',kn⟩:=by
 have hle:=he.size;have hkk:=he.kn;have hg:=h.le;refine⟨Nat.le_trans h.le hle,fun k hk=>Nat.lt_of_lt_of_le (h.m0 k hk) hle,?_,?_,?_⟩
 ·intro i o hi
  by_cases e:i=id
  ·subst e
   simp only[qd_];exact⟨hkid,⟨by omega,fun hm=>by have:=h.m0 _ hm;omega⟩,hb2⟩
  ·simp only[qb_ _ _ e] at hi⊢
   obtain⟨h1,h2,h3⟩:=h.dom i o hi;grind
 ·intro i j o p hi hj hij
  by_cases e:i=id
  ·subst e
   have e2:j≠i:=fun e=>hij e.symm;simp only[qb_ _ _ e2] at hj;simp only[qd_,qb_ _ _ e2]
   have:=(h.dom j p hj).2.2
   omega
  ·simp only[qb_ _ _ e] at hi
   by_cases e2:j=id
   ·subst e2
    simp only[qd_,qb_ _ _ e]
    have:=(h.dom i o hi).2.2
    omega
   ·simp only[qb_ _ _ e2] at hj
    simp only[qb_ _ _ e,qb_ _ _ e2];exact h.inj i j o p hi hj hij
 ·intro i o hi
  by_cases e:i=id
  ·subst e
   simp only[qd_] at hi;cases hi;exact ho
  ·simp only[qb_ _ _ e] at hi
   exact(h.obj i o hi).ext he (by simp only[qb_ _ _ e]) (hbl _ (h.dom i o hi).2.2)
theorem Ext.chg (h:HR g c){i b:Nat}{o o':AO}{w':World}{kn:Nat->Prop}(hi:c.hp i=some o)(hf:o.fz=false)(hos:w'.os=c.w.os)(ht:w'.tape=c.w.tape)(hou:w'.output=c.w.output)
  (hs:c.w.heap.size<=w'.heap.size) (hbl:∀k,k<c.w.heap.size->k≠c.φ i->w'.heap[k]? =c.w.heap[k]?) (hb:b=c.φ i\/c.w.heap.size<=b) (hk:∀i,c.kn i->kn i)
  (hrw:o.isRw=false->b=c.φ i/\o'.isRw=false)
  (hr:∀es' sz v' br' fz',o'= .rw es' sz v' br' fz'->∃es v br fz,o= .rw es sz v br fz/\v<=v'/\(v=v'->b=c.φ i/\es.length=es'.length/\∀cur T,c.w.heap[c.φ i]? =some (.cells cur T (0,0))->∃cur',w'.heap[c.φ i]? =some (.cells cur' T (0,0))/\cur'.size=cur.size)) (hdr:c.w.drawn<=w'.drawn:=by first |exact Nat.le_refl _ |exact Nat.le_succ _):
  Ext c ⟨upd i (some o') c.hp,upd i b c.φ,w',kn⟩:=by
 refine⟨hos,ht,hou,hs,hk,fun k hlt hm=>hbl k hlt fun e=>hm i o hi hf e.symm,?_,?_,?_,hdr⟩
 ·intro j p hj hpf
  by_cases e:j=i
  ·grind [qd_]
  ·simp only[qb_ _ _ e] at hj⊢
   exact .inr ⟨p,hj,hpf,trivial⟩
 ·intro j hj ho
  by_cases e:j=i
  ·grind [qd_]
  ·simp only[qb_ _ _ e]
   exact⟨trivial,ho⟩
 ·intro j es' sz v' br' fz' hj hrj
  by_cases e:j=i
  ·subst e
   simp only[qd_] at hrj⊢;grind
  ·simp only[qb_ _ _ e] at hrj⊢
   refine⟨es',v',br',fz',hrj,Nat.le_refl _,fun _=>⟨trivial,rfl,fun cur T hc=>⟨cur,?_,rfl⟩⟩⟩;exact(hbl _ (h.dom j _ hrj).2.2 (h.inj j i _ o hrj hi e)).trans hc
theorem HR.chg (h:HR g c){i b:Nat}{o o':AO}{w':World}{kn:Nat->Prop}(hi:c.hp i=some o)(he:Ext c ⟨upd i (some o') c.hp,upd i b c.φ,w',kn⟩)
  (hbl:∀k,k<c.w.heap.size->k≠c.φ i->w'.heap[k]? =c.w.heap[k]?) (hb:b=c.φ i\/c.w.heap.size<=b) (hb2:b<w'.heap.size)
  (ho:OK g ⟨upd i (some o') c.hp,upd i b c.φ,w',kn⟩ i o'):HR g ⟨upd i (some o') c.hp,upd i b c.φ,w',kn⟩:=by
 have hle:=he.size;have hkk:=he.kn;have hg:=h.le;have hd:=h.dom i o hi;have far:∀j p,c.hp j=some p->j≠i->c.φ j≠b:=fun j p hj e=>by
  have h1:=h.inj j i p o hj hi e;have h2:=(h.dom j p hj).2.2;omega
 refine⟨Nat.le_trans h.le hle,fun k hk=>Nat.lt_of_lt_of_le (h.m0 k hk) hle,?_,?_,?_⟩
 ·intro j p hj
  by_cases e:j=i
  ·subst e
   simp only[qd_];have hout:Out g b:=by
    rcases hb with h3 |h3
    ·rw[h3];exact hd.2.1
    ·exact⟨by omega,fun hm=>by have:=h.m0 _ hm;omega⟩
   exact⟨hkk _ hd.1,hout,hb2⟩
  ·simp only[qb_ _ _ e] at hj⊢
   obtain⟨h1,h2,h3⟩:=h.dom j p hj;grind
 ·intro j k p q hj hk hjk
  by_cases e:j=i
  ·grind [qb_,qd_]
  ·simp only[qb_ _ _ e] at hj
   by_cases e2:k=i
   ·subst e2
    simp only[qd_,qb_ _ _ e];exact far j p hj e
   ·simp only[qb_ _ _ e2] at hk
    simp only[qb_ _ _ e,qb_ _ _ e2];exact h.inj j k p q hj hk hjk
 ·intro j p hj
  by_cases e:j=i
  ·subst e
   simp only[qd_] at hj;cases hj;exact ho
  ·simp only[qb_ _ _ e] at hj
   exact(h.obj j p hj).ext he (by simp only[qb_ _ _ e]) (hbl _ (h.dom j p hj).2.2 (h.inj j i p o hj hi e))
theorem Ext.frz (h:HR g c)(kn:Nat->Prop)(hk:∀i,c.kn i->kn i)(is:List Nat):Ext c ⟨upds (frz c.hp is) c.hp,c.φ,c.w,kn⟩/\HR g ⟨upds (frz c.hp is) c.hp,c.φ,c.w,kn⟩:=by
 have key:∀(is:List Nat) (hp':Hp),(∀id,hp' id=c.hp id\/∃es sz v br fz,c.hp id=some (.rw es sz v br fz)/\hp' id=some (.rw es sz v br true))->
   ∀id,upds (Ab.frz c.hp is) hp' id=c.hp id\/∃es sz v br fz,c.hp id=some (.rw es sz v br fz)/\upds (Ab.frz c.hp is) hp' id=some (.rw es sz v br true):=by
  intro is;induction is with
  |nil=>exact fun hp' h=>h
  |cons i r ih=>
   intro hp' hh;unfold Ab.frz;split
   ·rename_i es sz v br fz he
    simp only[upds];grind [id,qd_,qb_]
   ·exact ih _ hh
 have hd:=key is c.hp fun id=>.inl rfl;generalize upds (Ab.frz c.hp is) c.hp=hp' at hd;have he:Ext c ⟨hp',c.φ,c.w,kn⟩:=by
  refine⟨rfl,rfl,rfl,Nat.le_refl _,hk,fun _ _ _=>rfl,?_,?_,?_,Nat.le_refl _⟩
  ·intro id o' ho hf
   rcases hd id with h1 |⟨es,sz,v,br,fz,h1,h2⟩
   ·exact .inr ⟨o',h1▸ho,hf,rfl⟩
   ·simp only[h2,Option.some.injEq] at ho
    subst ho;simp[AO.fz] at hf
  ·intro id _ ho
   refine⟨rfl,fun o' ho'=> ?_⟩;grind [id,AO.isRw]
  ·grind
 refine⟨he,⟨h.le,h.m0,?_,?_,?_⟩⟩
 ·intro id o ho
  rcases hd id with h1 |⟨es,sz,v,br,fz,h1,h2⟩
  ·exact⟨hk _ (h.dom id o (h1▸ho)).1,(h.dom id o (h1▸ho)).2⟩
  ·exact⟨hk _ (h.dom id _ h1).1,(h.dom id _ h1).2⟩
 ·intro i j o p hi hj hij
  have:∀id o,hp' id=some o->∃o',c.hp id=some o':=fun id o ho=>by
   grind
  obtain⟨o1,h1⟩:=this i o hi;obtain⟨o2,h2⟩:=this j p hj;exact h.inj i j o1 o2 h1 h2 hij
 ·intro id o ho
  rcases hd id with h1 |⟨es,sz,v,br,fz,h1,h2⟩
  ·exact(h.obj id o (h1▸ho)).ext he rfl rfl
  ·simp only[h2,Option.some.injEq] at ho
   subst ho;exact OK.ext (o:=.rw es sz v br fz) he (h.obj id _ h1) rfl rfl
end
end
section
structure TabOk (P:Program) (tab:Nat->TI):Prop where
 dflt:∀T,(tab T).ok=false->tab T={}
 info:∀T,(tab T).ok=true->∃i z,P.info? T=some i/\i.size=(tab T).size/\i.bytes=(tab T).bytes/\i.zero=some z/\z.cells=(tab T).zero.toArray/\(tab T).zero.length=(tab T).size/\(∀x∈(tab T).zero,x.oneCell'=true)/\((tab T).agg=true->∃vs,z= .agg vs)/\((tab T).agg=false->z.oneCell'=true)
 kind:∀T,(tab T).ok=true->∃d,P.underlying T=some d/\match (tab T).kind with
  | .slice=>d= .slice (tab T).elem
  | .string=>d= .string
  | .int k=>d= .int k
  | .bool=>d= .bool
  | .ptr=>∃e,d= .pointer e
  | .map=>∃k,d= .map k (tab T).elem
  | .array n=>d= .array n (tab T).elem/\(tab (tab T).elem).ok=true/\∀(i:Nat) (p:Nat × Nat),(tab T).offs[i]? =some p->p=(i*(tab (tab T).elem).size,(tab (tab T).elem).size)
  | .struct=>∃fs,d= .struct fs/\fs.size=(tab T).offs.length/\∀(i:Nat) (f:Field),fs[i]? =some f->∃fi,P.info? f.type=some fi/\(tab T).offs[i]? =some (f.offset,fi.size)
  | .other=>match d with | .struct _ | .array _ _=>False |_=>True
 flat:∀T ks,(tab T).flat=some ks->∀(xs ys:List Value) (b:Bool),eqK ks xs ys=some b->∀w,(Op.equal T (.agg xs.toArray) (.agg ys.toArray)).run P w= .ok b w
 guard:∀T ks,(tab T).flat=some ks->P.eqGuardType P.depth T=false
 mkey:∀T q,(tab T).mkey=some q->∃kt,P.underlying T=some (.map kt (tab T).elem)/\(tab (tab T).elem).ok=true/\∀x,xQ_ q x=true->(∀w e,(Instr.checkKey e 10000 kt x).run P w= .ok () w)/\
  (∀y,yo_ q x y=some true->y=x/\Instr.sameBits 10000 x x=true)/\∀(ens:List MapEntry) (r:Option Nat),kR_ q x (ens.map (·.key))=some r->∀w,(Instr.findKey kt x ens).run P w= .ok (r.bind fun i=>(ens[i]?).map fun e=>(i,e.val)) w
theorem zx_ (b o j:Nat):(⟨b,o,none⟩:Addr).add j=⟨b,o+j,none⟩:=by unfold Addr.add;split<;>simp_all
section types
variable {P:Program}{tab:Nat->TI}(ht:TabOk P tab)
include ht
theorem TabOk.okOf {T:Nat}(h:(tab T).kind≠ .other):(tab T).ok=true:=by
 cases e:(tab T).ok with
 |true=>rfl
 |false=>rw[ht.dflt T e] at h;exact absurd rfl h
theorem TabOk.sizeOf {T:Nat}(h:(tab T).ok=true)(w:World):(sizeOf T).run P w= .ok (tab T).size w:=by
 obtain⟨i,z,h1,h2,_⟩:=ht.info T h;simp[Go.sizeOf,typeInfo,h1,h2]
theorem TabOk.isAgg {T:Nat}(h:(tab T).ok=true)(w:World):(isAgg T).run P w= .ok (tab T).agg w:=by
 obtain⟨d,h1,h2⟩:=ht.kind T h;unfold Go.isAgg TI.agg;rw[Sem.run_bind,run_underlying h1];cases hk:(tab T).kind<;>simp only[hk] at h2
 case other=>cases d<;>simp_all
 case struct=>obtain⟨fs,rfl,_⟩:=h2;simp
 case map=>obtain⟨k,rfl⟩:=h2;simp
 case ptr=>obtain⟨k,rfl⟩:=h2;simp
 case array=>obtain⟨rfl,_⟩:=h2;simp
 all_goals (subst h2;simp)
theorem TabOk.slice {T:Nat}(h:(tab T).kind= .slice):P.underlying T=some (.slice (tab T).elem):=by
 obtain⟨d,h1,h2⟩:=ht.kind T (ht.okOf (by rw[h];decide));rw[h] at h2;subst h2;exact h1
theorem TabOk.string {T:Nat}(h:(tab T).kind= .string):P.underlying T=some .string:=by
 obtain⟨d,h1,h2⟩:=ht.kind T (ht.okOf (by rw[h];decide));rw[h] at h2;subst h2;exact h1
theorem ky_ {T:Nat}(h:(tab T).ok=true)(hg:(tab T).agg=true)(w:World)(p:Addr)(L:List Value)(hL:L.length=(tab T).size)(hc:∀(j:Nat) (v:Value),L[j]? =some v->w.cell? (p.add j)=some v):
  (loadVar T p).run P w= .ok (.agg L.toArray) w:=by
 have:=run_loadCells_list (P:=P) w p L hc
 simp[loadVar,ht.isAgg h,hg,ht.sizeOf h,<-hL,this]
theorem kz_ {T:Nat}(h:(tab T).ok=true)(hg:(tab T).agg=false)(w:World)(p:Addr)(u:Value)(hc:w.cell? p=some u):(loadVar T p).run P w= .ok u w:=by
 simp[loadVar,ht.isAgg h,hg,load,Sem.run,hc]
end types
def Runs (P:Program)(o:Oper)(a:Act)(w:World)(u:Value)(w':World):Prop:=
 (execOp a.eval o).run P w= .ok (.value u) w'\/((execOp a.eval o).run P w= .ok .skip w'/\u=undef)
def Res (P:Program)(o:Oper)(a:Act)(g:Gh)(c:Cf)(id:Nat)(v:AV)(δ:List (Nat × AO)):Prop:=
 ∃φ' u w',Runs P o a c.w u w'/\Ext c ⟨upds δ c.hp,φ',w',fun k=>c.kn k\/k=id⟩/\HR g ⟨upds δ c.hp,φ',w',fun k=>c.kn k\/k=id⟩/\RAt g ⟨upds δ c.hp,φ',w',fun k=>c.kn k\/k=id⟩ v u
section
variable {P:Program}{tab:Nat->TI}{o:Oper}{a:Act}{g:Gh}{c:Cf}{id:Nat}
theorem Res.pure (hr:HR g c){v:AV}{u:Value}(h:(execOp a.eval o).run P c.w= .ok (.value u) c.w)(hv:RAt g c v u):Res P o a g c id v []:=
 ⟨c.φ,u,c.w,.inl h,Ext.more c _ fun _ h=>.inl h,hr.more _ fun _ h=>.inl h,hv.ext (Ext.more c _ fun _ h=>.inl h)⟩
theorem RAt.v {x u:Value}(h:RAt g c (.v x) u):u=x/\x.oneCell'=true:=by
 cases(show RA g c (.v x) u from h) with
 |v _ h1=>exact⟨rfl,h1⟩
theorem RAt.pt {i off:Nat}{u:Value}(h:RAt g c (.pt i off) u):u= .pointer (some ⟨c.φ i,off,none⟩)/\c.kn i/\∀o,c.hp i=some o->o.isRw=false:=by
 cases(show RA g c (.pt i off) u from h) with
 |pt _ _ h1 h2=>exact⟨rfl,h1,h2⟩
theorem RAt.pr {i ver k off:Nat}{u:Value}(h:RAt g c (.pr i ver k off) u){es sz br fz}(hi:c.hp i=some (.rw es sz ver br fz)):u= .pointer (some ⟨c.φ i,k*sz+off,none⟩)/\c.kn i:=by
 cases(show RA g c (.pr i ver k off) u from h) with
 |pr _ _ _ _ _ h1 _ h3=>exact⟨(h3 _ _ _ _ _ hi).2 rfl,h1⟩
theorem RAt.so {i ver off len:Nat}{u:Value}(h:RAt g c (.so i ver off len) u){es sz br fz}(hi:c.hp i=some (.rw es sz ver br fz)):
  off+len<=es.length/\c.kn i/\∃cur T C,c.w.heap[c.φ i]? =some (.cells cur T (0,0))/\cur.size=(off+C)*sz/\u= .slice (some ⟨c.φ i,off*sz,none⟩) len C:=by
 cases(show RA g c (.so i ver off len) u from h) with
 |so _ _ _ _ _ h1 _ h3=>
  grind
theorem RAt.dpt {cs:List D}{off:Nat}{b:Bool}{u:Value}(h:RAt g c (.d (.pt cs off) b) u):RC c.w (Im g c b) (.pt cs off) u:=by
 cases(show RA g c (.d (.pt cs off) b) u from h) with
 |d _ _ _ h=>exact h
theorem RAt.dsl {es:List (List D)}{b:Bool}{u:Value}(h:RAt g c (.d (.sl es) b) u):RC c.w (Im g c b) (.sl es) u:=by
 cases(show RA g c (.d (.sl es) b) u from h) with
 |d _ _ _ h=>exact h
theorem RC.toRA {d:D}{b:Bool}{u:Value}(h:RC c.w (Im g c b) d u):RA g c (lift b d) u:=by
 cases d with
 |v x=>cases h with
  |v _ h1=>exact RA.v _ h1
 |sl es=>exact RA.d _ _ _ h
 |pt cs off=>exact RA.d _ _ _ h
 |mp es=>exact RA.d _ _ _ h
 |ag cs=>cases h
 |tu cs=>cases h
theorem RA.toAt {x:AV}{u:Value}(h:RA g c x u):RAt g c x u:=by
 cases x with
 |d x b=>cases x with
  |ag cs=>cases h with
   |d _ _ _ h1=>cases h1
  |tu cs=>cases h with
   |d _ _ _ h1=>cases h1
  |_=>exact h
 |ag cs=>cases h
 |tu cs=>cases h
 |un=>trivial
 |_=>exact h
theorem wl_ {α:Type}(xs:List α)(off n j:Nat)(x:α)(h:((xs.drop off).take n)[j]? =some x):j<n/\xs[off+j]? =some x:=by
 grind
theorem kY_ {α:Type}{off n:Nat}{xs ys:List α}(h:sub off n xs=some ys):off+n<=xs.length/\ys=(xs.drop off).take n/\ys.length=n:=by
 unfold sub at h;grind
theorem fG_ (hr:HR g c)(ht:TabOk P tab){T:Nat}{x:Operand}(ho:o.op= .load T x)(hok:(tab T).ok=true)(hg:(tab T).agg=true){bl off:Nat}(hx:a.eval x= .pointer (some ⟨bl,off,none⟩))
  {v:AV} (f:Nat->Value) (hc:∀j,j<(tab T).size->c.w.cell? ⟨bl,off+j,none⟩=some (f j)) (hv:RAt g c v (.agg ((List.range (tab T).size).map f).toArray)):Res P o a g c id v []:=by
 refine Res.pure hr (u:=.agg ((List.range (tab T).size).map f).toArray) ?_ hv
 have:=ky_ ht hok hg c.w ⟨bl,off,none⟩ ((List.range (tab T).size).map f) (by simp) (fun j v hj=>by
  grind [List.getElem?_range,Option.some.injEq,zx_,List.getElem?_eq_none])
 grind [execOp,Instr.loadAt,Instr.sureAddr,Sem.run_bind,Sem.run_pure,Result.andThen_ok]
theorem fH_ (hr:HR g c)(ht:TabOk P tab){T:Nat}{x:Operand}(ho:o.op= .load T x)(hok:(tab T).ok=true)(hg:(tab T).agg=false){bl off:Nat}(hx:a.eval x= .pointer (some ⟨bl,off,none⟩))
  {v:AV} {u:Value} (hc:c.w.cell? ⟨bl,off,none⟩=some u) (hv:RAt g c v u):Res P o a g c id v []:=by
 refine Res.pure hr (u:=u) ?_ hv;unfold execOp;simp only[ho,hx,Instr.loadAt,Instr.sureAddr,Sem.run_bind,Sem.run_pure,Result.andThen_ok,kz_ ht hok hg c.w _ u hc]
theorem agg_at (n:Nat)(f:Nat->Value){j:Nat}(h:j<n):((List.range n).map f).toArray[j]? =some (f j):=by
 grind
theorem mD_ (hr:HR g c)(ht:TabOk P tab){T:Nat}{x:Operand}(ho:o.op= .load T x)(hok:(tab T).ok=true){i off:Nat}{cs:List AV}(hx:RAt g c (.pt i off) (a.eval x))(hi:c.hp i=some (.bx cs)){v:AV}
  (hv:(if (tab T).agg then(sub off (tab T).size cs).map AV.ag else cs[off]?)=some v):Res P o a g c id v []:=by
 obtain⟨e,_,_⟩:=hx.pt;obtain⟨T',vs,h1,h2,h3⟩:=hr.obj i _ hi;have hcell:∀k,c.w.cell? ⟨c.φ i,k,none⟩=vs[k]? :=fun k=>by simp[World.cell?,h1]
 cases hg:(tab T).agg with
 |true=>
  simp only[hg,if_true,Option.map_eq_some_iff] at hv;obtain⟨ys,hs,rfl⟩:=hv;obtain⟨h4,h5,h6⟩:=kY_ hs;refine fG_ hr ht ho hok hg e (fun j=>vs.getD (off+j) undef) (fun j hj=> ?_) ⟨_,rfl,by simp[h6],fun j y hy=> ?_⟩
  ·rw[hcell,Array.getElem?_eq_getElem (by omega)]
   simp[Array.getD,show off+j<vs.size by omega]
  ·rw[h5] at hy
   obtain⟨hj,hy2⟩:=wl_ _ _ _ _ _ hy;obtain⟨u,e1,e2⟩:=h3 _ _ hy2;simp_all
 |false=>
  simp only[hg,Bool.false_eq_true,if_false] at hv;obtain⟨u,e1,e2⟩:=h3 off v hv;exact fH_ hr ht ho hok hg e ((hcell off).trans e1) e2.toAt
theorem mE_ (hr:HR g c)(ht:TabOk P tab){T:Nat}{x:Operand}(ho:o.op= .load T x)(hok:(tab T).ok=true){bl of off:Nat}{b:Bool}{cs:List D}(us:Nat->Value)(hx:a.eval x= .pointer (some ⟨bl,of+off,none⟩))
  (hm:∀(j:Nat) (d:D),cs[j]? =some d->c.w.cell? ⟨bl,of+j,none⟩=some (us j)) (hd:∀(j:Nat) (d:D),cs[j]? =some d->RC c.w (Im g c b) d (us j)) {v:AV}
  (hv:(if (tab T).agg then(sub off (tab T).size cs).map (fun c=>AV.d (.ag c) b) else(cs[off]?).map (lift b))=some v):Res P o a g c id v []:=by
 cases hg:(tab T).agg with
 |true=>
  simp only[hg,if_true,Option.map_eq_some_iff] at hv;obtain⟨ys,hs,rfl⟩:=hv;obtain⟨h4,h5,h6⟩:=kY_ hs;refine fG_ hr ht ho hok hg hx (fun j=>us (off+j)) (fun j hj=> ?_) ⟨_,rfl,by simp[h6],fun j y hy=> ?_⟩
  ·rw[Nat.add_assoc]
   exact hm (off+j) _ (List.getElem?_eq_getElem (by omega))
  grind
 |false=>
  simp only[hg,Bool.false_eq_true,if_false,Option.map_eq_some_iff] at hv;obtain⟨d,hd1,rfl⟩:=hv;exact fH_ hr ht ho hok hg hx (hm off d hd1) (hd off d hd1).toRA.toAt
theorem mF_ (hr:HR g c)(ht:TabOk P tab){T:Nat}{x:Operand}(ho:o.op= .load T x)(hok:(tab T).ok=true){i ver k off sz:Nat}{br fz:Bool}{es:List (List D)}{cs:List D}(hx:RAt g c (.pr i ver k off) (a.eval x))(hi:c.hp i=some (.rw es sz ver br fz))(hk:es[k]? =some cs){v:AV}
  (hv:(if (tab T).agg then(sub off (tab T).size cs).map (fun c=>AV.d (.ag c) br) else(cs[off]?).map (lift br))=some v):Res P o a g c id v []:=by
 obtain⟨e,_⟩:=hx.pr hi;obtain⟨h0,hz,T',vs,C,h1,h2,h3,h4,h5⟩:=hr.obj i _ hi;refine mE_ hr ht ho hok (fun j=>vs.getD (k*sz+j) undef) e (fun j d hj=> ?_) (fun j d hj=> ?_) hv
 ·obtain⟨u,e1,e2⟩:=h5 k j cs d hk hj
  simp_all [World.cell?]
 ·obtain⟨u,e1,e2⟩:=h5 k j cs d hk hj
  simp_all
end
end
end Go.Proofs.YtnmkbmefohakmaaGreat.Ab
