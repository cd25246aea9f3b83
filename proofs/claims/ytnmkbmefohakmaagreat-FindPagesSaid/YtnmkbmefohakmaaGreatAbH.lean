/-
 The machine, run; rows that are sorted.
-/
import Derived.Sort.Statements
import Derived.Lib.Bytealg
import Derived.Test.YtnmkbmefohakmaaGreatAbG
namespace Go.Proofs.YtnmkbmefohakmaaGreat.Ab
section
open Go.RowKit
section
variable {tab:Nat->TI}{ρ:Operand->AV}{hp hp':Hp}{id:Nat}
def ovl (hp X:Hp):Hp:=fun i=>match hp i with
 |some o=>some o
 |none=>X i
end
end
section
open Go.RowKit
def evB0 (_:Nat->TI)(ρ:Operand->AV)(_:Hp)(_:Nat)(x:Operand):Option (AV × List (Nat × AO)):=some (ρ x,[])
def evB1 (_:Nat->TI)(ρ:Operand->AV)(_:Hp)(_:Nat)(c:Operand)(a:Operand)(b:Operand):Option (AV × List (Nat × AO)):=match ρ c with
  | .v (.bool t)=>some (if t then ρ a else ρ b,[])
  |_=>none
def evB2 (tab:Nat->TI)(_:Operand->AV)(_:Hp)(id:Nat)(T:TypeId):Option (AV × List (Nat × AO)):=if (tab T).ok then some (.pt id 0,[(id,.bx ((tab T).zero.map AV.v))]) else none
def evB3 (_:Nat->TI)(ρ:Operand->AV)(_:Hp)(id:Nat)(x:Operand):Option (AV × List (Nat × AO)):=(qP_ (ρ x)).map fun cs=>(.pt id 0,[(id,.bx cs)])
def evB4 (tab:Nat->TI)(ρ:Operand->AV)(_:Hp)(_:Nat)(T:TypeId)(ps:Array (Nat × Operand)):Option (AV × List (Nat × AO)):=if (tab T).ok/\(tab T).agg then(yn_ (tab T).offs ρ ((tab T).zero.map AV.v) ps.toList).map fun cs=>(.ag cs,[]) else none
def evB5 (tab:Nat->TI)(ρ:Operand->AV)(hp:Hp)(_:Nat)(T:TypeId)(x:Operand):Option (AV × List (Nat × AO)):=if (tab T).ok then match ρ x with
  | .pt i off=>match hp i with
   |some (.bx cs)=>if (tab T).agg then(sub off (tab T).size cs).map fun c=>(.ag c,[]) else(cs[off]?).map fun c=>(c,[])
   |_=>none
  | .d (.pt cs off) b=>if (tab T).agg then(sub off (tab T).size cs).map fun c=>(.d (.ag c) b,[]) else(cs[off]?).map fun c=>(lift b c,[])
  | .pr i ver k off=>match hp i with
   |some (.rw es _ v br _)=>if v=ver then match es[k]? with
     |some cs=>if (tab T).agg then(sub off (tab T).size cs).map fun c=>(.d (.ag c) br,[]) else(cs[off]?).map fun c=>(lift br c,[])
     |none=>none
    else none
   |_=>none
  |_=>none else none
def evB6 (tab:Nat->TI)(ρ:Operand->AV)(hp:Hp)(_:Nat)(T:TypeId)(x:Operand)(y:Operand):Option (AV × List (Nat × AO)):=if (tab T).ok then match ρ x,qP_ (ρ y) with
  | .pt i off,some xs=>match hp i with
   |some (.bx cs)=>if xs.length=(tab T).size/\off+xs.length<=cs.length then some (.un,[(i,.bx (setL off xs cs))]) else none
   |_=>none
  | .pr i ver k off,some xs=>match hp i,toDs hp xs with
   |some (.rw es sz v br false),some (ds,b,is)=>match es[k]? with
    |some cs=>if ver=v/\xs.length=(tab T).size/\off+xs.length<=cs.length/\noId i is=true then some (.un,frz hp is++[(i,.rw (es.set k (setL off ds cs)) sz v (br||b) false)]) else none
    |none=>none
   |_,_=>none
  |_,_=>none else none
def evB7 (_:Nat->TI)(ρ:Operand->AV)(_:Hp)(_:Nat)(x:Operand):Option (AV × List (Nat × AO)):=if dY_ (ρ x) then some (ρ x,[]) else none
def evB8 (tab:Nat->TI)(ρ:Operand->AV)(hp:Hp)(_:Nat)(op:BinOp)(T:TypeId)(x:Operand)(y:Operand):Option (AV × List (Nat × AO)):=(binH tab hp op T (ρ x) (ρ y)).map fun v=>(v,[])
def evB9 (_:Nat->TI)(ρ:Operand->AV)(_:Hp)(_:Nat)(op:UnOp)(x:Operand):Option (AV × List (Nat × AO)):=match op,ρ x with
  | .not,.v (.bool b)=>some (.v (.bool !b),[])
  | .neg,.v (.int k n)=>some (.v (.int k (k.wrap (0-n))),[])
  |_,_=>none
def evB10 (tab:Nat->TI)(ρ:Operand->AV)(hp:Hp)(_:Nat)(s:TypeId)(t:TypeId)(x:Operand):Option (AV × List (Nat × AO)):=match (tab s).ok,(tab t).kind,ρ x with
  |true,.int k,.v (.int _ n)=>some (.v (.int k (k.wrap n)),[])
  |true,.string,.v (.string s)=>some (.v (.string s),[])
  |true,.string,.so i ver off len=>match hp i with
   |some (.rw es sz v _ _)=>if v=ver/\sz=1/\(tab s).kind= .slice/\(tab (tab s).elem).kind= .int .u8 then(yp_ ((es.drop off).take len)).map fun bs=>(.v (.string ⟨bs.toArray⟩),[]) else none
   |_=>none
  |_,_,_=>none
def evB11 (tab:Nat->TI)(ρ:Operand->AV)(_:Hp)(_:Nat)(T:TypeId)(x:Operand)(f:Nat):Option (AV × List (Nat × AO)):=if (tab T).kind= .struct then match (tab T).offs[f]? with
  |some (off,n)=>if n=0 then none else match ρ x with
   | .pt i o=>some (.pt i (o+off),[])
   | .d (.pt cs o) b=>some (.d (.pt cs (o+off)) b,[])
   | .pr i ver k o=>some (.pr i ver k (o+off),[])
   |_=>none
  |none=>none else none
def evB12 (tab:Nat->TI)(ρ:Operand->AV)(hp:Hp)(_:Nat)(T:TypeId)(x:Operand)(i:Operand):Option (AV × List (Nat × AO)):=if (tab T).kind= .slice then match ρ x,qT_ (ρ i) with
  | .d (.sl es) b,some n=>match es[n]? with
   |some cs=>if (tab (tab T).elem).ok/\cs.length=(tab (tab T).elem).size then some (.d (.pt cs 0) b,[]) else none
   |none=>none
  | .so i ver off len,some n=>match hp i with
   |some (.rw _ sz v _ _)=>if n<len/\ver=v/\(tab (tab T).elem).ok/\sz=(tab (tab T).elem).size then some (.pr i ver (off+n) 0,[]) else none
   |_=>none
  |_,_=>none else ixArr tab T (ρ x) (qT_ (ρ i))
def evB13 (tab:Nat->TI)(ρ:Operand->AV)(_:Hp)(_:Nat)(T:TypeId)(x:Operand)(i:Operand):Option (AV × List (Nat × AO)):=if (tab T).kind= .string then match ρ x,qT_ (ρ i) with
  | .v (.string s),some n=>(s[n]?).map fun b=>(.v (.int .u8 b.toNat),[])
  |_,_=>none else mC_ tab T (aggA (ρ x)) (qT_ (ρ i))
def evB14 (tab:Nat->TI)(ρ:Operand->AV)(hp:Hp)(_:Nat)(T:TypeId)(x:Operand)(lo:Option Operand)(hi:Option Operand):Option (AV × List (Nat × AO)):=match (tab T).kind,ρ x with
  | .string,.v (.string s)=>(xB_ ρ s.size lo hi).map fun p=>(.v (.string (s.extract p.1 p.2)),[])
  | .slice,.d (.sl es) b=>if (tab (tab T).elem).ok/\chk (tab (tab T).elem).size es then(xB_ ρ es.length lo hi).map fun p=>(.d (.sl ((es.take p.2).drop p.1)) b,[]) else none
  | .slice,.so i ver off len=>match xB_ ρ len lo hi,hp i with
   |some (l,h),some (.rw _ sz v _ _)=>if ver=v/\(tab (tab T).elem).ok/\sz=(tab (tab T).elem).size then(if l=0\/l<len then some (.so i ver (off+l) (h-l),[]) else some (.d (.sl []) false,[])) else none
   |_,_=>none
  | .slice,.v (.slice none 0 0)=>if (tab (tab T).elem).ok then(xB_ ρ 0 lo hi).map fun _=>(.v (.slice none 0 0),[]) else none
  |_,_=>none
def evB15 (_:Nat->TI)(ρ:Operand->AV)(_:Hp)(_:Nat)(x:Operand)(i:Nat):Option (AV × List (Nat × AO)):=match ρ x with
  | .tu vs=>(vs[i]?).map fun v=>(v,[])
  | .d (.tu ds) b=>(ds[i]?).map fun d=>(lift b d,[])
  |_=>none
def evB16 (_:Nat->TI)(ρ:Operand->AV)(_:Hp)(_:Nat)(f:FuncId)(first:Array Operand)(caps:Array Operand):Option (AV × List (Nat × AO)):=if first.size=0/\(caps.toList.map ρ).all we_ then some (.fn f (caps.toList.map ρ),[]) else none
def evB17 (tab:Nat->TI)(ρ:Operand->AV)(hp:Hp)(id:Nat)(T:TypeId)(n:Nat)(ps:Array (Nat × Operand)):Option (AV × List (Nat × AO)):=if (tab T).kind= .slice/\ps.toList.map (·.1)=List.range n/\(tab (tab T).elem).ok/\0<(tab (tab T).elem).size/\n*(tab (tab T).elem).size<=16777216 then
   match toDl hp (ps.toList.map fun p=>ρ p.2) with
   |some (ds,b,is)=>if chk (tab (tab T).elem).size (ds.map xl_) then some (.so id 0 0 n,frz hp is++[(id,.rw (ds.map xl_) (tab (tab T).elem).size 0 b false)]) else none
   |none=>none
  else none
def evB18 (tab:Nat->TI)(ρ:Operand->AV)(_:Hp)(_:Nat)(args:Array Operand)(argTypes:Array TypeId):Option (AV × List (Nat × AO)):=match args.toList,argTypes.toList with
  |[x],[T]=>match (tab T).kind,ρ x with
   | .slice,.d (.sl es) _=>some (.v (.int .i64 es.length),[])
   | .slice,.so _ _ _ n=>some (.v (.int .i64 n),[])
   | .slice,.v (.slice none 0 0)=>some (.v (.int .i64 0),[])
   | .string,.v (.string s)=>some (.v (.int .i64 s.size),[])
   |_,_=>none
  |_,_=>none
def evB19 (tab:Nat->TI)(ρ:Operand->AV)(hp:Hp)(id:Nat)(args:Array Operand)(argTypes:Array TypeId):Option (AV × List (Nat × AO)):=match args.toList,argTypes.toList with
  |[x,y],[T,T']=>if T=T'/\(tab T).kind= .slice/\(tab (tab T).elem).ok/\0<(tab (tab T).elem).size then
   match v9_ hp (ρ y),ρ x with
   |some (ys,b,_),.v (.slice none 0 0)=>
    if chk (tab (tab T).elem).size ys/\(tab (tab T).elem).bytes<=32768/\ys.length<=4294967296 then
     if ys.length=0 then some (.v (.slice none 0 0),[]) else some (.so id 0 0 ys.length,[(id,.rw ys (tab (tab T).elem).size 0 b false)])
    else none
   |some (ys,b,_),.so i v off n=>match hp i with
    |some (.rw es sz ver br false)=>
     if v=ver/\off=0/\n<=es.length/\sz=(tab (tab T).elem).size/\chk sz ys/\(tab (tab T).elem).bytes<=32768/\n+ys.length<=4294967296 then
      some (.so i (ver+1) 0 (n+ys.length),[(i,.rw (es.take n++ys) sz (ver+1) (br||b) false)]) else none
    |_=>none
   |_,_=>none
  else appZ tab id T T' (ρ x) (qT_ (ρ y))
  |_,_=>none
def evB20 (tab:Nat->TI)(_:Operand->AV)(_:Hp)(id:Nat)(T:TypeId):Option (AV × List (Nat × AO)):=match (tab T).mkey with
  |some _=>some (.mo id,[(id,.mo [] false)])
  |none=>none
def evB21 (tab:Nat->TI)(ρ:Operand->AV)(hp:Hp)(_:Nat)(T:TypeId)(x:Operand)(k:Operand)(ok:Bool):Option (AV × List (Nat × AO)):=match (tab T).mkey,keyA (ρ k),wk_ (tab (tab T).elem) with
  |some q,some kv,some z=>if xQ_ q kv then match ρ x with
   | .mo i=>match hp i with
    |some (.mo es _)=>match jw_ q kv es with
     |some none=>some (if ok then .tu [z,.v (.bool false)] else z,[])
     |some (some (_,v))=>some (if ok then .tu [v,.v (.bool true)] else v,[])
     |none=>none
    |_=>none
   | .d (.mp es) b=>match jw_ q kv (xt_ b es) with
    |some none=>some (if ok then .tu [uK_ b (tab (tab T).elem),.v (.bool false)] else uK_ b (tab (tab T).elem),[])
    |some (some (_,v))=>some (if ok then .tu [v,.v (.bool true)] else v,[])
    |none=>none
   | .v (.map none)=>some (if ok then .tu [z,.v (.bool false)] else z,[])
   |_=>none else none
  |_,_,_=>none
def evB22 (tab:Nat->TI)(ρ:Operand->AV)(hp:Hp)(_:Nat)(T:TypeId)(m:Operand)(k:Operand)(x:Operand):Option (AV × List (Nat × AO)):=match (tab T).mkey,keyA (ρ k) with
  |some q,some kv=>if xQ_ q kv/\isV1 (ρ x) then match ρ m with
   | .mo i=>match hp i with
    |some (.mo es dl)=>(mput q kv (ρ x) es).map fun es'=>(.un,[(i,.mo es' dl)])
    |_=>none
   |_=>none else none
  |_,_=>none
def evB23 (tab:Nat->TI)(ρ:Operand->AV)(hp:Hp)(_:Nat)(T:TypeId)(m:Operand)(k:Operand):Option (AV × List (Nat × AO)):=match (tab T).mkey,keyA (ρ k),wk_ (tab (tab T).elem) with
  |some q,some kv,some z=>if xQ_ q kv then match ρ m with
   | .mo i=>match hp i with
    |some (.mo es false)=>match jw_ q kv es with
     |some none=>some (.tu [z,.v (.int .i64 es.length)],[(i,.mo (es++[(kv,z)]) false)])
     |some (some (j,v))=>some (.tu [v,.v (.int .i64 j)],[(i,.mo (es.set j (kv,v)) false)])
     |none=>none
    |_=>none
   |_=>none else none
  |_,_,_=>none
def evB24 (_:Nat->TI)(ρ:Operand->AV)(hp:Hp)(_:Nat)(m:Operand)(st:Operand)(x:Operand):Option (AV × List (Nat × AO)):=match ρ m,qT_ (ρ st) with
  | .mo i,some j=>if isV1 (ρ x) then match hp i with
   |some (.mo es false)=>match es[j]? with
    |some (k,_)=>some (.un,[(i,.mo (es.set j (k,ρ x)) false)])
    |none=>none
   |_=>none else none
  |_,_=>none
def evB25 (tab:Nat->TI)(ρ:Operand->AV)(hp:Hp)(_:Nat)(args:Array Operand)(argTypes:Array TypeId):Option (AV × List (Nat × AO)):=match args.toList,argTypes.toList with
  |[m,k],[T,_]=>match (tab T).mkey,keyA (ρ k) with
   |some q,some kv=>if xQ_ q kv then match ρ m with
    | .mo i=>match hp i with
     |some (.mo es _)=>match jw_ q kv es with
      |some none=>some (.tu [],[])
      |some (some (j,_))=>some (.tu [],[(i,.mo (es.eraseIdx j) true)])
      |none=>none
     |_=>none
    |_=>none else none
   |_,_=>none
  |_,_=>none
def evB26 (tab:Nat->TI)(ρ:Operand->AV)(_:Hp)(id:Nat)(T:TypeId)(l:Operand)(c:Operand):Option (AV × List (Nat × AO)):=if (tab T).kind= .slice/\(tab (tab T).elem).ok/\0<(tab (tab T).elem).size/\(tab (tab T).elem).bytes<=32768 then match qT_ (ρ l),qT_ (ρ c) with
  |some n,some m=>if n<=m/\m<=4294967296 then some (.so id 0 0 n,[(id,.rw (List.replicate n ((tab (tab T).elem).zero.map D.v)) (tab (tab T).elem).size 0 false false)]) else none
  |_,_=>none
  else none
def evB27 (_:Nat->TI)(ρ:Operand->AV)(_:Hp)(_:Nat)(args:Array Operand):Option (AV × List (Nat × AO)):=match args.toList with
  |[x,y]=>match ρ x,ρ y with
   | .v (.int k a),.v (.int _ b)=>some (.v (.int k (if b<a then b else a)),[])
   |_,_=>none
  |_=>none
def evB28 (_:Nat->TI)(ρ:Operand->AV)(_:Hp)(_:Nat)(args:Array Operand):Option (AV × List (Nat × AO)):=match args.toList with
  |[x,y]=>match ρ x,ρ y with
   | .v (.int k a),.v (.int _ b)=>some (.v (.int k (if b > a then b else a)),[])
   |_,_=>none
  |_=>none
def evB29 (tab:Nat->TI)(ρ:Operand->AV)(hp:Hp)(_:Nat)(args:Array Operand)(argTypes:Array TypeId):Option (AV × List (Nat × AO)):=match args.toList,argTypes.toList with
  |[x],[T]=>if (tab T).kind= .slice/\(tab (tab T).elem).ok/\0<(tab (tab T).elem).size then match ρ x with
   | .v (.slice none 0 0)=>some (.tu [],[])
   | .so i ver off n=>match hp i with
    |some (.rw es sz v br false)=>if ver=v/\sz=(tab (tab T).elem).size/\off+n<=es.length then
      (if n=0 then some (.tu [],[]) else some (.tu [],[(i,.rw (es.take off++List.replicate n ((tab (tab T).elem).zero.map D.v)++es.drop (off+n)) sz v br false)])) else none
    |_=>none
   |_=>none else none
  |_,_=>none
def evB30 (tab:Nat->TI)(ρ:Operand->AV)(args:Array Operand)(argTypes:Array TypeId):Option (AV × List (Nat × AO)):=match args.toList,argTypes.toList with
  |[x],[T]=>match (tab T).kind,ρ x with
   | .slice,.v (.slice none 0 0)=>some (.v (.int .i64 0),[])
   |_,_=>none
  |_,_=>none
def evBC (tab:Nat->TI)(ρ:Operand->AV)(hp:Hp)(id:Nat)(args:Array Operand)(argTypes:Array TypeId):Builtin->Option (AV × List (Nat × AO))
 | .len=>evB18 tab ρ hp id args argTypes
 | .append=>evB19 tab ρ hp id args argTypes
 | .delete=>evB25 tab ρ hp id args argTypes
 | .min=>evB27 tab ρ hp id args
 | .max=>evB28 tab ρ hp id args
 | .clear=>evB29 tab ρ hp id args argTypes
 | .cap=>evB30 tab ρ args argTypes
 |_=>none
def evCl (tab:Nat->TI)(ρ:Operand->AV)(hp:Hp)(id:Nat)(args:Array Operand)(argTypes:Array TypeId):Callee->Option (AV × List (Nat × AO))
 | .builtin b=>evBC tab ρ hp id args argTypes b
 |_=>none
def nr_ (tab:Nat->TI)(ρ:Operand->AV)(hp:Hp)(id:Nat):Op->Option (AV × List (Nat × AO))
 | .move x | .assign x=>evB0 tab ρ hp id x
 | .pick c a b=>evB1 tab ρ hp id c a b
 | .alloc T=>evB2 tab ρ hp id T
 | .box _ x=>evB3 tab ρ hp id x
 | .build T ps=>evB4 tab ρ hp id T ps
 | .load T x=>evB5 tab ρ hp id T x
 | .store T x y=>evB6 tab ρ hp id T x y
 | .nilCheck x=>evB7 tab ρ hp id x
 | .binOp op T x y _=>evB8 tab ρ hp id op T x y
 | .unOp op _ x=>evB9 tab ρ hp id op x
 | .convert s t x=>evB10 tab ρ hp id s t x
 | .fieldAddr T x f=>evB11 tab ρ hp id T x f
 | .indexAddr T x i=>evB12 tab ρ hp id T x i
 | .index T x i=>evB13 tab ρ hp id T x i
 | .slice T x lo hi none=>evB14 tab ρ hp id T x lo hi
 | .extract x i=>evB15 tab ρ hp id x i
 | .makeFunc (.func f) first caps=>evB16 tab ρ hp id f first caps
 | .buildSlice T n ps=>evB17 tab ρ hp id T n ps
 | .makeMap T none=>evB20 tab ρ hp id T
 | .lookup T x k ok=>evB21 tab ρ hp id T x k ok
 | .mapUpdate T m k x | .insert T m k x=>evB22 tab ρ hp id T m k x
 | .mapEntry T m k=>evB23 tab ρ hp id T m k
 | .entryStore _ m st x=>evB24 tab ρ hp id m st x
 | .makeSlice T l c=>evB26 tab ρ hp id T l c
 | .call c=>evCl tab ρ hp id c.args c.argTypes c.callee
 |_=>none
def vcall:Op->Option (Operand × Array Operand)
 | .call { callee:=.value f,args, .. }=>some (f,args)
 |_=>none
section
variable {P:Program}{tab:Nat->TI}
end
end
section
open Go.RowKit
inductive Tr (α:Type) where
 |lf
 |nd (l:Tr α) (x:Option α) (r:Tr α)
 |ov (k:Nat) (x:α) (t:Tr α)
def Tr.get {α:Type}:Tr α->Nat->Option α
 | .lf,_=>none
 | .nd l x r,k=>match k with
  |0=>x
  |k+1=>match k%2 with
   |0=>l.get (k / 2)
   |_=>r.get (k / 2)
 | .ov k' x t,k=>match Nat.beq k k' with
  |true=>some x
  |false=>t.get k
def Tr.set {α:Type}:Nat->Tr α->Nat->α->Tr α
 |0,t,k,x=>.ov k x t
 |n+1,t,k,x=>match t with
  | .ov k' y t=>.ov k x (.ov k' y t)
  | .lf=>match k with
   |0=>.nd .lf (some x) .lf
   |k+1=>match k%2 with
    |0=>.nd (Tr.set n .lf (k / 2) x) none .lf
    |_=>.nd .lf none (Tr.set n .lf (k / 2) x)
  | .nd l y r=>match k with
   |0=>.nd l (some x) r
   |k+1=>match k%2 with
    |0=>.nd (Tr.set n l (k / 2) x) y r
    |_=>.nd l y (Tr.set n r (k / 2) x)
def deep:Nat:=48
inductive N16 (α:Type) where
 |mk (a0 a1 a2 a3 a4 a5 a6 a7 a8 a9 a10 a11 a12 a13 a14 a15:α)
def N16.toL {α:Type}:N16 α->List α
 | .mk a0 a1 a2 a3 a4 a5 a6 a7 a8 a9 a10 a11 a12 a13 a14 a15=>[a0,a1,a2,a3,a4,a5,a6,a7,a8,a9,a10,a11,a12,a13,a14,a15]
structure Sel (α:Type) where
 g:N16 α->α
 s:α->N16 α->N16 α
def sel (α:Type)(k:Nat):Sel α:=
 match k with
 |0=>⟨fun n=>match n with | .mk a0 _ _ _ _ _ _ _ _ _ _ _ _ _ _ _=>a0,fun v n=>match n with | .mk _ a1 a2 a3 a4 a5 a6 a7 a8 a9 a10 a11 a12 a13 a14 a15=>.mk v a1 a2 a3 a4 a5 a6 a7 a8 a9 a10 a11 a12 a13 a14 a15⟩
 |1=>⟨fun n=>match n with | .mk _ a1 _ _ _ _ _ _ _ _ _ _ _ _ _ _=>a1,fun v n=>match n with | .mk a0 _ a2 a3 a4 a5 a6 a7 a8 a9 a10 a11 a12 a13 a14 a15=>.mk a0 v a2 a3 a4 a5 a6 a7 a8 a9 a10 a11 a12 a13 a14 a15⟩
 |2=>⟨fun n=>match n with | .mk _ _ a2 _ _ _ _ _ _ _ _ _ _ _ _ _=>a2,fun v n=>match n with | .mk a0 a1 _ a3 a4 a5 a6 a7 a8 a9 a10 a11 a12 a13 a14 a15=>.mk a0 a1 v a3 a4 a5 a6 a7 a8 a9 a10 a11 a12 a13 a14 a15⟩
 |3=>⟨fun n=>match n with | .mk _ _ _ a3 _ _ _ _ _ _ _ _ _ _ _ _=>a3,fun v n=>match n with | .mk a0 a1 a2 _ a4 a5 a6 a7 a8 a9 a10 a11 a12 a13 a14 a15=>.mk a0 a1 a2 v a4 a5 a6 a7 a8 a9 a10 a11 a12 a13 a14 a15⟩
 |4=>⟨fun n=>match n with | .mk _ _ _ _ a4 _ _ _ _ _ _ _ _ _ _ _=>a4,fun v n=>match n with | .mk a0 a1 a2 a3 _ a5 a6 a7 a8 a9 a10 a11 a12 a13 a14 a15=>.mk a0 a1 a2 a3 v a5 a6 a7 a8 a9 a10 a11 a12 a13 a14 a15⟩
 |5=>⟨fun n=>match n with | .mk _ _ _ _ _ a5 _ _ _ _ _ _ _ _ _ _=>a5,fun v n=>match n with | .mk a0 a1 a2 a3 a4 _ a6 a7 a8 a9 a10 a11 a12 a13 a14 a15=>.mk a0 a1 a2 a3 a4 v a6 a7 a8 a9 a10 a11 a12 a13 a14 a15⟩
 |6=>⟨fun n=>match n with | .mk _ _ _ _ _ _ a6 _ _ _ _ _ _ _ _ _=>a6,fun v n=>match n with | .mk a0 a1 a2 a3 a4 a5 _ a7 a8 a9 a10 a11 a12 a13 a14 a15=>.mk a0 a1 a2 a3 a4 a5 v a7 a8 a9 a10 a11 a12 a13 a14 a15⟩
 |7=>⟨fun n=>match n with | .mk _ _ _ _ _ _ _ a7 _ _ _ _ _ _ _ _=>a7,fun v n=>match n with | .mk a0 a1 a2 a3 a4 a5 a6 _ a8 a9 a10 a11 a12 a13 a14 a15=>.mk a0 a1 a2 a3 a4 a5 a6 v a8 a9 a10 a11 a12 a13 a14 a15⟩
 |8=>⟨fun n=>match n with | .mk _ _ _ _ _ _ _ _ a8 _ _ _ _ _ _ _=>a8,fun v n=>match n with | .mk a0 a1 a2 a3 a4 a5 a6 a7 _ a9 a10 a11 a12 a13 a14 a15=>.mk a0 a1 a2 a3 a4 a5 a6 a7 v a9 a10 a11 a12 a13 a14 a15⟩
 |9=>⟨fun n=>match n with | .mk _ _ _ _ _ _ _ _ _ a9 _ _ _ _ _ _=>a9,fun v n=>match n with | .mk a0 a1 a2 a3 a4 a5 a6 a7 a8 _ a10 a11 a12 a13 a14 a15=>.mk a0 a1 a2 a3 a4 a5 a6 a7 a8 v a10 a11 a12 a13 a14 a15⟩
 |10=>⟨fun n=>match n with | .mk _ _ _ _ _ _ _ _ _ _ a10 _ _ _ _ _=>a10,fun v n=>match n with | .mk a0 a1 a2 a3 a4 a5 a6 a7 a8 a9 _ a11 a12 a13 a14 a15=>.mk a0 a1 a2 a3 a4 a5 a6 a7 a8 a9 v a11 a12 a13 a14 a15⟩
 |11=>⟨fun n=>match n with | .mk _ _ _ _ _ _ _ _ _ _ _ a11 _ _ _ _=>a11,fun v n=>match n with | .mk a0 a1 a2 a3 a4 a5 a6 a7 a8 a9 a10 _ a12 a13 a14 a15=>.mk a0 a1 a2 a3 a4 a5 a6 a7 a8 a9 a10 v a12 a13 a14 a15⟩
 |12=>⟨fun n=>match n with | .mk _ _ _ _ _ _ _ _ _ _ _ _ a12 _ _ _=>a12,fun v n=>match n with | .mk a0 a1 a2 a3 a4 a5 a6 a7 a8 a9 a10 a11 _ a13 a14 a15=>.mk a0 a1 a2 a3 a4 a5 a6 a7 a8 a9 a10 a11 v a13 a14 a15⟩
 |13=>⟨fun n=>match n with | .mk _ _ _ _ _ _ _ _ _ _ _ _ _ a13 _ _=>a13,fun v n=>match n with | .mk a0 a1 a2 a3 a4 a5 a6 a7 a8 a9 a10 a11 a12 _ a14 a15=>.mk a0 a1 a2 a3 a4 a5 a6 a7 a8 a9 a10 a11 a12 v a14 a15⟩
 |14=>⟨fun n=>match n with | .mk _ _ _ _ _ _ _ _ _ _ _ _ _ _ a14 _=>a14,fun v n=>match n with | .mk a0 a1 a2 a3 a4 a5 a6 a7 a8 a9 a10 a11 a12 a13 _ a15=>.mk a0 a1 a2 a3 a4 a5 a6 a7 a8 a9 a10 a11 a12 a13 v a15⟩
 |_=>⟨fun n=>match n with | .mk _ _ _ _ _ _ _ _ _ _ _ _ _ _ _ a15=>a15,fun v n=>match n with | .mk a0 a1 a2 a3 a4 a5 a6 a7 a8 a9 a10 a11 a12 a13 a14 _=>.mk a0 a1 a2 a3 a4 a5 a6 a7 a8 a9 a10 a11 a12 a13 a14 v⟩
theorem N16.len {α:Type}(n:N16 α):n.toL.length=16:=by
 obtain⟨a0,a1,a2,a3,a4,a5,a6,a7,a8,a9,a10,a11,a12,a13,a14,a15⟩:=n;rfl
inductive FrT where
 |mk (m:N16 (N16 AV)) (r:Tr AV)
structure Slot where
 g:FrT->AV
 s:AV->FrT->FrT
def slotOf (b:Bool)(k:Nat)(i j:Nat):Slot:=
 match b with
 |true=>⟨fun t=>match t with | .mk m _=>(sel AV j).g ((sel (N16 AV) i).g m),fun v t=>match t with | .mk m r=>.mk ((sel (N16 AV) i).s ((sel AV j).s v ((sel (N16 AV) i).g m)) m) r⟩
 |false=>⟨fun t=>match t with | .mk _ r=>(r.get k).getD (.tu []),fun v t=>match t with | .mk m r=>.mk m (r.set deep k v)⟩
def slot (k:Nat):Slot:=slotOf (Nat.blt k 256) k (k / 16) (k%16)
def frT (t:FrT):Fr:=fun k=>(slot k).g t
def hpT (t:Tr AO):Hp:=fun k=>t.get k
def putT (d:Option Nat)(v:AV)(t:FrT):FrT:=match d with
 |some k=>(slot k).s v t
 |none=>t
def updT:List (Nat × AO)->Tr AO->Tr AO
 |[],h=>h
 |(k,o)::r,h=>updT r (h.set deep k o)
def e16 {α:Type}(x:α):N16 α:=.mk x x x x x x x x x x x x x x x x
def frE:FrT:=.mk (e16 (e16 (.tu []))) .lf
def fillT:List AV->Nat->FrT
 |[],_=>frE
 |v::r,k=>(slot k).s v (fillT r (k+1))
def one0 {α:Type}:Option α->List (Nat × α)
 |some a=>[(0,a)]
 |none=>[]
def Tr.all {α:Type}:Tr α->List (Nat × α)
 | .lf=>[]
 | .nd l x r=>one0 x++((l.all.map fun p=>(2*p.1+1,p.2))++(r.all.map fun p=>(2*p.1+2,p.2)))
 | .ov k x t=>t.all++[(k,x)]
def idsO:AO->List Nat
 | .bx cs=>idsL cs
 | .rw .. =>[]
 | .mo es _=>idsL (es.map (·.2))
def bY_ (hp:Hp):Nat->List Nat->Tr AO->Tr AO
 |0,_,acc=>acc
 |_,[],acc=>acc
 |n+1,i::w,acc=>match acc.get i with
  |some _=>bY_ hp n w acc
  |none=>match hp i with
   |some o=>bY_ hp n (idsO o++w) (acc.set deep i o)
   |none=>bY_ hp n w acc
structure XS where
 fr:FrT
 hp:Tr AO
 nx:Nat
def XS.st (x:XS)(X:Hp):St:=⟨frT x.fr,ovl (hpT x.hp) X,x.nx⟩
def hpB (B t:Tr AO):Hp:=ovl (hpT t) (hpT B)
def xWant (ops:Array Oper)(o:Oper)(fr:FrT):Option Bool:=
 match o.guard with
 |none=>some true
 |some (j,t)=>match (ops[j]?).bind (·.dst) with
  |none=>some false
  |some d=>match frT fr d with
   | .v (.bool b)=>some (b==t)
   | .tu []=>some false
   |_=>none
section
variable (tab:Nat->TI)(B:Tr AO)(call:Tr AO->FuncId->List AV->Tr AO->Nat->Option (AV × Tr AO × Nat))(pcall:FuncId->List D->Option (D × Bool))(N:Nat)
def xCall (f:Operand)(args:Array Operand)(x:XS):Option (AV × Tr AO × Nat):=
 match ev (frT x.fr) f with
 | .fn g caps=>call B g (args.toList.map (ev (frT x.fr))++caps) x.hp x.nx
 |_=>none
def xGen (op:Op)(id:Nat)(x:XS):Option (AV × Tr AO × Nat):=
 match nr_ tab (ev (frT x.fr)) (hpB B x.hp) id op with
 |some (v,δ)=>some (v,updT δ x.hp,x.nx)
 |none=>none
def xOp (op:Op)(id:Nat)(x:XS):Option (AV × Tr AO × Nat):=
 match vcall op with
 |some (f,args)=>xCall B call f args x
 |none=>xGen tab B op id x
def xOps (ops:Array Oper)(nx0:Nat):Nat->List Oper->XS->Option XS
 |_,[],x=>some x
 |i,o::r,x=>match xWant ops o x.fr with
  |none=>none
  |some false=>xOps ops nx0 (i+1) r ⟨putT o.dst (.tu []) x.fr,x.hp,x.nx⟩
  |some true=>match xOp tab B call o.op (nx0+i) x with
   |none=>none
   |some (v,hp,nx)=>xOps ops nx0 (i+1) r ⟨putT o.dst v x.fr,hp,nx⟩
def xDet (g:FuncId)(vs:List AV)(nx:Nat)(hR:Tr AO):Option (AV × List (Nat × AO) × List Nat × Option Nat):=match call hR g vs .lf nx with
 |some (v,hp',nx')=>some (v,hp'.all,hR.all.map (·.1),some nx')
 |none=>none
def xPure (op:Op)(g:FuncId)(ds:List D)(b:Bool)(is:List Nat)(fr:FrT):Option (AV × List (Nat × AO) × List Nat × Option Nat):=
 match pcall g ds with
 |some (d,fr')=>if is= []\/fr'=true then some (lift (!fr'&&b) d,[],qG_ (ev (frT fr)) op,none) else none
 |none=>none
def xArgD (op:Op)(g:FuncId)(vs:List AV)(nx:Nat)(fr:FrT)(hp:Tr AO):Option (AV × List (Nat × AO) × List Nat × Option Nat):=
 match toDl (hpB B hp) vs with
 |some (ds,b,is)=>match xPure pcall op g ds b is fr with
  |some r=>some r
  |none=>xDet call g vs nx (bY_ (hpB B hp) N (idsL vs) .lf)
 |none=>xDet call g vs nx (bY_ (hpB B hp) N (idsL vs) .lf)
def xCallD (op:Op)(f:Operand)(args:Array Operand)(nx:Nat)(fr:FrT)(hp:Tr AO):Option (AV × List (Nat × AO) × List Nat × Option Nat):=
 match ev (frT fr) f with
 | .fn g caps=>xArgD B call pcall N op g (args.toList.map (ev (frT fr))++caps) nx fr hp
 |_=>none
def xGenD (op:Op)(id:Nat)(fr:FrT)(hp:Tr AO):Option (AV × List (Nat × AO) × List Nat × Option Nat):=
 match nr_ tab (ev (frT fr)) (hpB B hp) id op with
 |some (v,δ)=>some (v,δ,qG_ (ev (frT fr)) op,none)
 |none=>none
def xOpD (op:Op)(id nx:Nat)(fr:FrT)(hp:Tr AO):Option (AV × List (Nat × AO) × List Nat × Option Nat):=
 match vcall op with
 |some (f,args)=>xCallD B call pcall N op f args nx fr hp
 |none=>match op with
  | .move y=>some (ev (frT fr) y,[],[],none)
  | .assign y=>some (ev (frT fr) y,[],[],none)
  |_=>xGenD tab B op id fr hp
def xOpsD (ops:Array Oper)(nx0:Nat):Nat->Nat->List Oper->List Rec->FrT->Tr AO->Option XS
 |nx,_,[],acc,fr,hp=>match yM_ ops acc.reverse with
  |true=>some ⟨fr,hp,nx⟩
  |false=>none
 |nx,i,o::r,acc,fr,hp=>match xWant ops o fr with
  |none=>none
  |some false=>xOpsD ops nx0 nx (i+1) r (⟨[],[],false⟩::acc) (putT o.dst (.tu []) fr) hp
  |some true=>match xOpD tab B call pcall N o.op (nx0+i) nx fr hp with
   |none=>none
   |some (v,δ,ids,n)=>xOpsD ops nx0 (n.getD nx) (i+1) r (⟨ids,δ.map (·.1),n.isSome⟩::acc) (putT o.dst v fr) (updT δ hp)
def xLoop (step:XS->Option (Ex × XS)):Nat->XS->Option (Ex × XS)
 |0,_=>none
 |n+1,x=>match step x with
  |some (.normal,x')=>xLoop step n x'
  |r=>r
def xC:Code->XS->Option (Ex × XS)
 | .skip,x=>some (.normal,x)
 | .label _,x=>some (.normal,x)
 | .ret,x=>some (.ret,x)
 | .exit n,x=>some (.exit n,x)
 | .seq a b,x=>match xC a x with
  |some (.normal,x')=>xC b x'
  |r=>r
 | .cond c a b,x=>match ev (frT x.fr) c with
  | .v (.bool t)=>match t with
   |true=>xC a x
   |false=>xC b x
  |_=>none
 | .block n a,x=>match xC a x with
  |some (.exit m,x')=>match Nat.beq m n with
   |true=>some (.normal,x')
   |false=>some (.exit m,x')
  |r=>r
 | .region _ ops draw,x=>match draw with
  |false=>(xOps tab B call ops x.nx 0 ops.toList ⟨x.fr,x.hp,x.nx+ops.size⟩).map fun x'=>(.normal,x')
  |true=>(xOpsD tab B call pcall N ops x.nx (x.nx+ops.size) 0 ops.toList [] x.fr x.hp).map fun x'=>(.normal,x')
 | .loop a,x=>xLoop (xC a) N x
 |_,_=>none
end
section
variable {P:Program}{tab:Nat->TI}{B:Tr AO}{call:Tr AO->FuncId->List AV->Tr AO->Nat->Option (AV × Tr AO × Nat)}{pcall:FuncId->List D->Option (D × Bool)}{N:Nat}
end
section
variable {P:Program}
end
def okFn (fn:Func):Bool:=match fn.body with
 |some code=> !(fn.name== "runtime.NumGoroutine")&&jK_ fn.ntmps code
 |none=>false
abbrev Prim:=FuncId->List AV->Option AV
structure PrimOK (P:Program) (prim:Prim):Prop where
 ok:∀f vs v,prim f vs=some v->∀hp nx,InlOK P f vs hp nx fun v2 hp2 nx2=>v2=v/\hp2=hp/\nx2=nx
section
variable (P:Program)(tab:Nat->TI)(N:Nat)(ok:Nat->Bool)(prim:Prim)
def xEnd (B:Tr AO)(rs:Array ResultVar):Option (Ex × XS)->Option (AV × Tr AO × Nat)
 |some (.exit _,_)=>none
 |some (_,x)=>(resA tab rs (x.st (hpT B))).map fun v=>(v,x.hp,x.nx)
 |none=>none
def xPc (xs:Tr AO->FuncId->List AV->Tr AO->Nat->Option (AV × Tr AO × Nat))(g:FuncId)(ds:List D):Option (D × Bool):=
 match xs .lf g (ds.map (lift true)) .lf 0 with
 |some (v,hp',_)=>match toR (hpT hp') v with
  |some (d,b,_)=>some (d, !b)
  |none=>none
 |none=>none
def isCl (P:Program)(g:FuncId):Bool:=match P.funcs[g]? with
 |some fn=>Nat.beq fn.ntmps 8&&(Nat.beq fn.targs.size 2&&Nat.beq fn.params.size 1)
 |none=>false
def xPd (xs:Tr AO->FuncId->List AV->Tr AO->Nat->Option (AV × Tr AO × Nat))(g:FuncId)(ds:List D):Option (D × Bool):=match isCl P g with
 |true=>none
 |false=>xPc xs g ds
def isSo:AV->Bool
 | .so _ _ _ _=>true
 |_=>false
def xPrimD (B hp:Tr AO)(f:FuncId)(vs:List AV):Option AV:=
 match vs.any isSo with
 |false=>none
 |true=>match toDl (hpB B hp) vs with
  |some (ds,_,_)=>match prim f (ds.map (lift true)) with
   |some v=>match toR noHp v with
    |some (d,false,_)=>some (lift false d)
    |_=>none
   |none=>none
  |none=>none
def xFun (xs:Tr AO->FuncId->List AV->Tr AO->Nat->Option (AV × Tr AO × Nat))(B:Tr AO)(f:FuncId)(vs:List AV)(hp:Tr AO)(nx:Nat):Option (AV × Tr AO × Nat):=
 match prim f vs with
 |some v=>some (v,hp,nx)
 |none=>match xPrimD prim B hp f vs with
  |some v=>some (v,hp,nx)
  |none=>match ok f with
   |false=>none
   |true=>match P.funcs[f]? with
    |none=>none
    |some fn=>match fn.body with
     |none=>none
     |some code=>match Nat.ble vs.length fn.ntmps with
      |false=>none
      |true=>xEnd tab B fn.results (xC tab B xs (xPd P xs) N code ⟨fillT vs 0,hp,nx⟩)
def xRun:Nat->Tr AO->FuncId->List AV->Tr AO->Nat->Option (AV × Tr AO × Nat)
 |0=>fun _ _ _ _ _=>none
 |n+1=>xFun P tab N ok prim (xRun n)
end
section
variable {P:Program}{tab:Nat->TI}{N:Nat}{ok:Nat->Bool}{prim:Prim}
end
def okOf (P:Program)(f:Nat):Bool:=match P.funcs[f]? with
 |some fn=>okFn fn
 |none=>false
def eval (P:Program)(prim:Prim)(N n:Nat)(f:FuncId)(ds:List D):Option (D × Bool):=xPc (xRun P (tabP P) N (okOf P) prim n) f ds
end
section
open Go.RowKit
section
variable {P:Program}
theorem InlOK.up {f:FuncId}{vs:List AV}{hp:Hp}{nx:Nat}{R:AV->Hp->Nat->Prop}(h:InlOK P f vs hp nx fun v2 hp2 nx2=>∃N,nx2<=N/\R v2 hp2 N):InlOK P f vs hp nx R:=
 ⟨h.1,fun g c args h1 h2 h3 h4 h5=>(h.2 g c args h1 h2 h3 h4 h5).mono fun _ _ ⟨u,v,c',nx',e1,⟨N,e2,e3⟩,e4,e5,e6,e7,e8,e9⟩=>
  ⟨u,v,c',N,e1,e3,e4,e5,e6,e7,by omega,fun i hi=>(e9 i hi).imp_right fun⟨h,h'⟩=>⟨h,by omega⟩⟩⟩
end
section
variable {α:Type}
def rows (enc:α->List D)(d:Array α):List (List D):=d.toList.map enc
end
end
section
theorem ns_ {ids:List Nat}{hp0 hp:Hp}{i:Nat}{x:Option AO}(h:∀j∈ids,hp j=hp0 j)(hi:i∉ids):∀j∈ids,upd i x hp j=hp0 j:=fun j hj=>by
 have:j≠i:=fun e=>hi (e▸hj)
 rw[qb_ _ _ this];exact h j hj
theorem qQ_ {hp:Hp}{i:Nat}{x:Option AO}(h:hp i=x):upd i x hp=hp:=by
 funext j;unfold upd;split
 ·rename_i e;rw[e,h]
 ·rfl
theorem qI_ {α:Type}(i:Nat)(x y:α)(f:Nat->α):upd i x (upd i y f)=upd i x f:=by
 funext j;unfold upd;split<;>rfl
end
section
def WH (ex:Nat->Prop)(hp' hp:Hp):Prop:=∀t,¬ex t->hp' t=none\/hp' t=hp t
theorem WH.all {hp' hp:Hp}(h:WH (fun _=>False) hp' hp):∀t,hp' t=none\/hp' t=hp t:=fun t=>h t id
theorem WH.upd {ex:Nat->Prop}{k:Nat}{x:Option AO}{hp' hp:Hp}(h:hp k=x)(hw:WH (fun t=>ex t\/t=k) hp' hp):WH ex (upd k x hp') hp:=fun t ht=>by
 unfold Ab.upd;split
 ·rename_i e;subst e;exact .inr h.symm
 ·rename_i e;exact hw t (fun h=>h.elim ht e)
theorem WH.base {ex:Nat->Prop}{hp' hp:Hp}(h:∀t,¬ex t->hp t=hp' t):WH ex hp' hp:=fun t ht=>.inr (h t ht).symm
theorem InlOK.fresh {P:Program}{f:FuncId}{vs:List AV}{hp:Hp}{nx:Nat}{R:AV->Hp->Nat->Prop}(h:(∀j,nx<=j->hp j=none)->InlOK P f vs hp nx R)(he:vn_ P f):InlOK P f vs hp nx R:=
 ⟨he,fun g c args h1 h2 h3 h4 h5=>(h fun j hj=>by
  cases e:hp j with
  |none=>rfl
  |some o=>
   have:=h2 j (h3.dom j o (by rw[h1];exact e)).1
   omega).2 g c args h1 h2 h3 h4 h5⟩
end
section
open Go.RowKit
def Sem (P:Program)(code:Code)(Q:Ex->St->Prop)(s:St):Prop:=
 ∀(g:Gh) (N:Nat) (c:Cf) (a:Act),jK_ N code=true->Sim g s c a N->code.wp P (Post g N Q s.nx c) a c.w
section
variable (P:Program)
def x7_:List It->(Ex->St->Prop)->Ex->St->Prop
 |[],Q,e,s=>Q e s
 | .c x::k,Q,e,s=>match e with
  | .normal=>Sem P x (x7_ k Q) s
  | .ret=>x7_ k Q .ret s
  | .exit m=>x7_ k Q (.exit m) s
 | .blk n::k,Q,e,s=>match e with
  | .normal=>x7_ k Q .normal s
  | .ret=>x7_ k Q .ret s
  | .exit m=>if m=n then x7_ k Q .normal s else x7_ k Q (.exit m) s
 | .lp X::k,Q,e,s=>match e with
  | .normal=>X s
  | .ret=>x7_ k Q .ret s
  | .exit m=>x7_ k Q (.exit m) s
def runS (k:List It)(Q:Ex->St->Prop)(s:St):Prop:=x7_ P k Q .normal s
end
section
variable {P:Program}{tab:Nat->TI}{k:List It}{Q Q':Ex->St->Prop}{s:St}{a b x:Code}{n m:Nat}{hp:Hp}
theorem Sem.mono (hQ:∀e s,Q e s->Q' e s)(h:Sem P a Q s):Sem P a Q' s:=fun g N c act hd hs=>Code.wp_mono (fun _ _ _ hp=>Post.mono hp hQ) (h g N c act hd hs)
theorem f7_ (ht:TabOk P tab)(hm:P.follows .mixedOrders=true)(h:W P tab a Q s):Sem P a Q s:=fun _ _ c act hd hs=>d7_ ht hm a Q s c act hd h hs
theorem ca_ (h:Sem P a (fun e s'=>match e with | .normal=>Sem P b Q s' |e=>Q e s') s):Sem P (.seq a b) Q s:=by
 intro g N c act hd hs;simp only[jK_,Bool.and_eq_true] at hd;refine wp_seq (Code.wp_mono (fun e a' w' hp=> ?_) (h g N c act hd.1 hs));obtain⟨ex,s',c',h1,h2,h3,h4,h5,h6,h7⟩:=hp;subst h1;subst h4;cases ex with
 |normal=>exact Code.wp_mono (fun e a' w' hp=>Post.after hp h5 h6 h7) (h2 g N c' a' hd.2 h3)
 |ret=>exact⟨.ret,s',c',rfl,h2,h3,rfl,h5,h6,h7⟩
 |exit n=>exact⟨.exit n,s',c',rfl,h2,h3,rfl,h5,h6,h7⟩
theorem wR_:∀(k:List It),x7_ P k Q .ret s=Q .ret s
 |[]=>rfl
 | .c _::k=>wR_ k
 | .blk _::k=>wR_ k
 | .lp _::k=>wR_ k
theorem cb_:x7_ P (.c a::k) Q (.exit m) s=x7_ P k Q (.exit m) s:=rfl
theorem rN_ {X:St->Prop}:x7_ P (.lp X::k) Q (.exit m) s=x7_ P k Q (.exit m) s:=rfl
theorem nt_:x7_ P (.blk n::k) Q (.exit m) s=if m=n then runS P k Q s else x7_ P k Q (.exit m) s:=rfl
theorem nu_ {e:Ex}:x7_ P [] Q e s=Q e s:=rfl
theorem bZ_:x7_ P k Q .normal s=runS P k Q s:=rfl
theorem rO_:runS P [] Q s=Q .normal s:=rfl
theorem rP_:runS P (.blk n::k) Q s=runS P k Q s:=rfl
theorem cc_ {X:St->Prop}:runS P (.lp X::k) Q s=X s:=rfl
attribute [go_sem] wR_ cb_ rN_ nt_ nu_ bZ_ rO_ rP_ cc_
theorem gU_ (h:runS P (.c a:: .c b::k) Q s):runS P (.c (.seq a b)::k) Q s:=
 ca_ (Sem.mono (fun e s h=>by cases e<;>exact h) (show Sem P a (x7_ P (.c b::k) Q) s from h))
theorem wg_ (ht:TabOk P tab)(hm:P.follows .mixedOrders=true):∀(k:List It) (e:Ex) (s:St),cont P tab k Q e s->x7_ P k Q e s
 |[],e,s,h=>h
 | .c x::k,e,s,h=>by
  cases e with
  |normal=>exact f7_ ht hm (W2_W x _ _ s (fun e s h=>wg_ ht hm k e s h) h)
  |ret=>exact wg_ ht hm k _ s h
  |exit m=>exact wg_ ht hm k _ s h
 | .blk n::k,e,s,h=>by
  cases e with
  |normal=>exact wg_ ht hm k _ s h
  |ret=>exact wg_ ht hm k _ s h
  |exit m=>
   show if m=n then _ else _
   by_cases e:m=n
   ·rw[if_pos e]
    have:(if m=n then cont P tab k Q .normal s else cont P tab k Q (.exit m) s):=h
    rw[if_pos e] at this;exact wg_ ht hm k _ s this
   ·rw[if_neg e]
    have:(if m=n then cont P tab k Q .normal s else cont P tab k Q (.exit m) s):=h
    rw[if_neg e] at this;exact wg_ ht hm k _ s this
 | .lp X::k,e,s,h=>by
  cases e with
  |normal=>exact h
  |ret=>exact wg_ ht hm k _ s h
  |exit m=>exact wg_ ht hm k _ s h
theorem h0_ (ht:TabOk P tab)(hm:P.follows .mixedOrders=true)(h:run P tab k Q s):runS P k Q s:=wg_ ht hm k .normal s h
theorem nv_ (ht:TabOk P tab)(hm:P.follows .mixedOrders=true)(h:run P tab [.c x] (x7_ P k Q) s):runS P (.c x::k) Q s:=f7_ ht hm (W2_W x _ _ s (fun _ _ h=>h) h)
theorem f8_ (ht:TabOk P tab){f:FuncId}{fn:Func}{code:Code}(hf:P.funcs[f]? =some fn)(hb:fn.body=some code)(hname:(fn.name== "runtime.NumGoroutine")=false)(hd:jK_ fn.ntmps code=true){vs:List AV}{nx:Nat}{R:AV->Hp->Nat->Prop}
  (hlen:vs.length<=fn.ntmps) (h:runS P [.c code] (EndW tab fn.results R) ⟨frOf vs,hp,nx⟩):InlOK P f vs hp nx R:=by
 refine⟨⟨fn,hf,hname,by rw[hb];rfl⟩,fun g c args hhp hkn hr hsz hargs=> ?_⟩;have h':Sem P code (EndW tab fn.results R) ⟨frOf vs,hp,nx⟩:=Sem.mono (fun e s h=>by cases e<;>exact h) h;refine wL_ hf hb (Code.wp_mono (fun e a' w' hpost=> ?_) (h' ⟨g.base,g.M0,c.w.heap.size⟩ fn.ntmps c _ hd ⟨hhp,hr.fb _,hkn,fun t=> ?_,by simp;omega,Nat.le_refl _,trivial⟩))
 ·obtain⟨ex,s',c',h1,h2,h3,h4,h5,h6,h7⟩:=hpost
  subst h1;subst h4;have fin:=mY_ (fn:=fn) (R:=R) ht h3 h5 h6 h7;cases ex with
  |normal=>exact⟨.inl rfl,fin h2⟩
  |ret=>exact⟨.inr rfl,fin h2⟩
  |exit n=>exact h2.elim
 ·refine RAt.tr (Trp.fb g c _) ?_
  show RAt g c (vs.getD t (.tu [])) _;by_cases hlt:t<vs.length
  ·have e1:vs[t]? =some vs[t]:=List.getElem?_eq_getElem hlt
   obtain⟨u,h1,h2⟩:=hargs t _ e1;have e2:vs.getD t (.tu [])=vs[t]:=by simp[List.getD,e1]
   rw[e2,Array.getD_eq_getD_getElem?,Array.getElem?_append_left (by omega),h1];exact h2
  ·have e2:vs.getD t (.tu [])= .tu []:=by simp[List.getD,List.getElem?_eq_none (Nat.le_of_not_lt hlt)]
   rw[e2];have e3:(args++Array.replicate (fn.ntmps-args.size) undef).getD t undef=undef:=by
    rw[Array.getD_eq_getD_getElem?,Array.getElem?_append_right (by omega)];by_cases h1:t-args.size<fn.ntmps-args.size
    ·simp[h1]
    ·simp[h1]
   rw[e3];exact k2_ c
end
end
section
open Go.RowKit
def ga_ (tab:Nat->TI)(op:Op)(ρ:Operand->AV):Bool:=
 match op with
 | .binOp .eql T x y _=>match ρ x,ρ y with
  | .d (.sl []) _,.v (.slice none 0 0)=>decide ((tab T).kind= .slice)
  |_,_=>false
 |_=>false
def fe_ (P:Program)(tab:Nat->TI)(op:Op)(id:Nat)(s:St)(K:AV->Hp->Nat->Prop):Prop:=
 if ga_ tab op (ev s.fr)=true then ∀t,K (.v (.bool t)) s.hp s.nx else kT_ P tab op id s K
def WLN (P:Program)(tab:Nat->TI)(ops:Array Oper)(nx0:Nat)(K:St->Prop):List Nat->St->Prop
 |[],s=>K s
 |i::r,s=>match ops[i]? with
  |none=>WLN P tab ops nx0 K r s
  |some o=>xC_ ops o s (fe_ P tab o.op (nx0+i) s fun v hp nx=>WLN P tab ops nx0 K r ⟨putS o.dst v s.fr,hp,nx⟩) (WLN P tab ops nx0 K r ⟨putS o.dst (.tu []) s.fr,s.hp,s.nx⟩)
section
variable {P:Program}{tab:Nat->TI}{g:Gh}{N:Nat}
theorem nw_ {o:Oper}{a:Act}{c:Cf}{id:Nat}{ρ:Operand->AV}(hr:HR g c)(ht:TabOk P tab)(hρ:∀x,RAt g c (ρ x) (a.eval x))(h:ga_ tab o.op ρ=true):∃t,Res P o a g c id (.v (.bool t)) []:=by
 unfold ga_ at h;split at h
 ·rename_i T x y T' ho
  split at h
  ·rename_i b e1 e2
   have hk:=of_decide_eq_true h;have h1:=hρ x;have h2:=hρ y;rw[e1] at h1;rw[e2] at h2;have h3:=h2.v.1;have key:∀(p:Option Addr) (n m:Nat),a.eval x= .slice p n m->∃t,Res P o a g c id (.v (.bool t)) []:=fun p n m e=>
    ⟨p.isNone,x6_ hr ho (by simp[e]) (by simp[e]) (u:=.bool p.isNone) (by
     rw[e,h3]
     have:=jy_ (P:=P) c.w 9999 T (tab T).elem p n m 0 0 (ht.slice hk)
     have e0:Op.equal T (.slice p n m) (.slice none 0 0)=Op.equalIn (9999+1) T (.slice p n m) (.slice none 0 0):=rfl;simp[binOp,e0,this]) (RA.v _ rfl)⟩
   have h4:=h1.dsl;generalize hu:a.eval x=u at h4;cases h4 with
   |nl a c=>exact key _ _ _ hu
   |sl es b o cx sz us h1 h2 h3 h4 h5=>exact key _ _ _ hu
  ·cases h
 ·cases h
theorem yU_ (ht:TabOk P tab){ops:Array Oper}{nx0:Nat}{K:St->Prop}{Q:Exit->Act->World->Prop}(hd:∀(i:Nat) (o:Oper) (d:Nat),ops[i]? =some o->o.dst=some d->d<N):
  ∀(l:List Nat) (s:St) (c:Cf) (a:Act),l.Nodup->(∀i∈l,i<ops.size)->WLN P tab ops nx0 K l s->Sim g s c a N->(∀j,c.kn j->∀i∈l,j≠nx0+i)->nx0+ops.size<=s.nx->
   (∀s' c' a',K s'->Sim g s' c' a' N->Ext c c'->s.nx<=s'.nx->(∀i,c'.kn i->c.kn i\/nx0<=i)->Q .normal a' c'.w)->wpOps P ops Q l a c.w
 |[],s,c,a,_,_,h,hs,_,_,hQ=>hQ s c a h hs (Ext.refl c) (Nat.le_refl _) fun _ h=>.inl h
 |i::l,s,c,a,hn,hb,h,hs,hkn,hnx,hQ=>by
  obtain⟨hni,hnl⟩:=List.nodup_cons.1 hn;unfold WLN at h;unfold wpOps;cases ho:ops[i]? with
  |none=>
   rw[ho] at h;exact yU_ ht hd l s c a hnl (fun i hi=>hb i (List.mem_cons_of_mem _ hi)) h hs (fun j hj i hi=>hkn j hj i (List.mem_cons_of_mem _ hi)) hnx hQ
  |some o=>
   rw[ho] at h;have hlt:i<ops.size:=(Array.getElem?_eq_some_iff.1 ho).1;have hdst:∀t,o.dst=some t->t<a.tmps.size:=fun t e=>by rw[hs.size];exact hd i o t ho e
   have hid:¬c.kn (nx0+i):=fun hk=>hkn _ hk i (List.mem_cons_self ..) rfl;have next:∀(c':Cf) (v:AV) (u:Value) (hp':Hp) (nx':Nat),c'.hp=hp'->HR g c'->Ext c c'->RAt g c' v u->s.nx<=nx'->(∀j,c'.kn j->c.kn j\/j=nx0+i\/(s.nx<=j/\j<nx'))->WLN P tab ops nx0 K l ⟨putS o.dst v s.fr,hp',nx'⟩->wpOps P ops Q l (a.put o.dst u) c'.w:=by
    intro c' v u hp' nx' h1 h2 h3 h4 h5 h6 h7;refine yU_ ht hd l _ c' _ hnl (fun i hi=>hb i (List.mem_cons_of_mem _ hi)) h7 ⟨h1,h2,fun j hj=> ?_,sO_ hs.fr h3 hdst h4,by rw[fO_];exact hs.size,by rw[kj_];exact hs.dfs.ext hs.hr h3⟩ (fun j hj i' hi'=> ?_) (Nat.le_trans hnx h5) fun s' c'' a' k1 k2 k3 k4 k5=>
     hQ s' c'' a' k1 k2 (h3.trans k3) (Nat.le_trans h5 k4) fun j hj=> ?_
    ·have:=hs.kn j
     rcases h6 j hj with h8 |h8 |h8
     ·exact Nat.lt_of_lt_of_le (hs.kn j h8) h5
     ·simp only;omega
     ·exact h8.2
    ·rcases h6 j hj with h8 |h8 |h8
     ·exact hkn j h8 i' (List.mem_cons_of_mem _ hi')
     ·intro e
      have:i'=i:=by omega
      subst this;exact hni hi'
     ·intro e
      have:=hb i' (List.mem_cons_of_mem _ hi')
      omega
    ·rcases k5 j hj with h8 |h8
     ·rcases h6 j h8 with h9 |h9 |h9
      ·exact .inl h9
      ·exact .inr (by omega)
      ·exact .inr (by omega)
     ·exact .inr h8
   rcases fP_ hs h with⟨hw,h⟩ |⟨hw,h⟩
   ·simp only[hw,if_true]
    left;unfold fe_ at h;split at h
    ·rename_i hnc
     obtain⟨t,φ',u,w',hrun,hext,hhr,hrv⟩:=nw_ (o:=o) (a:=a) (id:=nx0+i) hs.hr ht (fun x=>uL_ hs.fr x) hnc;have hgo:=next ⟨upds [] c.hp,φ',w',fun k=>c.kn k\/k=nx0+i⟩ (.v (.bool t)) u s.hp s.nx hs.hp hhr hext hrv (Nat.le_refl _) (fun j hj=>hj.imp_right .inl) (h t);unfold Oper.wp;rcases hrun with hrun |⟨hrun,hu⟩
     ·rw[hrun];exact hgo
     ·rw[hrun,Oper.upon_skip,<-hu];exact hgo
    unfold kT_ at h;split at h
    ·rename_i f args argTypes hop
     have hop':o.op= .call { callee:=.value f,args:=args,argTypes:=argTypes }:=hop;unfold bK_ at h;split at h
     ·rename_i k caps hf
      rcases h with⟨ds,b,is,d,fr,h1,h2,h3,h4⟩ |h
      ·obtain⟨vals,h5,h6⟩:=bL_ (K:=fun u w'=>wpOps P ops Q l (a.put o.dst u) w') hs hop' hf h1 h2 h3 fun u c' e1 e2 e3 e4 e5=>
        next c' _ u s.hp s.nx (e1.trans hs.hp) e4 e3 e5 (Nat.le_refl _) (fun j hj=>.inl (by rw[e2] at hj;exact hj)) h4
       unfold Oper.wp;rw[h5,Oper.upon_enter];exact h6.mono fun e w' ⟨u,he,hk⟩=>by rw[he];exact hk
      ·obtain⟨hen,hin⟩:=h
       have hfv:=uL_ hs.fr f;rw[hf] at hfv;generalize hF:a.eval f=fv at hfv;cases(show RA g c (.fn k caps) fv from hfv) with
       |fn _ _ us n hn' hus=>
        obtain⟨hsz,hall⟩:=yD_ hs.fr args hn' hus;unfold Oper.wp;rw[yC_ hop' hen hF c.w,Oper.upon_enter];refine(hin g c _ hs.hp hs.kn hs.hr hsz hall).mono fun e w' ⟨u,v,c',nx',he,hR,hw',h1,h2,h3,h4,h5⟩=> ?_;rw[he,<-hw'];exact next c' v u c'.hp nx' rfl h2 h1 h3 h4 (fun j hj=>(h5 j hj).imp_right .inr) hR
     ·exact h.elim
    ·split at h
     ·rename_i v δ hv
      rw[<-hs.hp] at hv;obtain⟨φ',u,w',hrun,hext,hhr,hrv⟩:=kB_ (o:=o) (a:=a) hs.hr ht (fun x=>uL_ hs.fr x) hid hv;have hgo:=next ⟨upds δ c.hp,φ',w',fun k=>c.kn k\/k=nx0+i⟩ v u (upds δ s.hp) s.nx (by rw[hs.hp]) hhr hext hrv (Nat.le_refl _) (fun j hj=>hj.imp_right .inl) h;unfold Oper.wp;rcases hrun with hrun |⟨hrun,hu⟩
      ·rw[hrun];exact hgo
      ·rw[hrun,Oper.upon_skip,<-hu];exact hgo
     ·exact h.elim
   ·simp only[hw,Bool.false_eq_true,if_false]
    refine next c (.tu []) undef s.hp s.nx hs.hp hs.hr (Ext.refl c) (k2_ c) (Nat.le_refl _) (fun j hj=>.inl hj) h
theorem gV_ (ht:TabOk P tab){ops:Array Oper}{id:Nat}{Q:Ex->St->Prop}(hd:jK_ N (.region id ops false)=true){l:List Nat}(hl:l.Nodup/\∀i∈l,i<ops.size){s:St}{c c0:Cf}{a:Act}(hs:Sim g s c a N)(h0:Ext c0 c)(hk0:∀i,c.kn i->c0.kn i)
  (h:WLN P tab ops s.nx (Q .normal) l ⟨s.fr,s.hp,s.nx+ops.size⟩):wpOps P ops (Post g N Q s.nx c0) l a c.w:=by
 refine yU_ ht (fun i o d ho hd'=> ?_) l ⟨s.fr,s.hp,s.nx+ops.size⟩ c a hl.1 hl.2 h ⟨hs.hp,hs.hr,fun i hi=>Nat.lt_of_lt_of_le (hs.kn i hi) (Nat.le_add_right _ _),hs.fr,hs.size,hs.dfs⟩ (fun j hj i _=> ?_) (Nat.le_refl _) fun s' c' a' h1 h2 h3 h4 h5=>
  ⟨.normal,s',c',rfl,h1,h2,rfl,h0.trans h3,Nat.le_trans (Nat.le_add_right _ _) h4,fun i hi=>(h5 i hi).imp_left (hk0 i)⟩
 ·simp only[jK_,Array.all_eq_true'] at hd
  have:=hd o (Array.mem_of_getElem? ho)
  rw[hd'] at this;simpa using this
 ·have:=hs.kn j hj
  omega
theorem ff_ {id:Nat}{ops:Array Oper}{Q:Ex->St->Prop}{s:St}(ht:TabOk P tab)(h:WLN P tab ops s.nx (Q .normal) (List.range ops.size) ⟨s.fr,s.hp,s.nx+ops.size⟩):Sem P (.region id ops false) Q s:=
 fun _ _ c _ hd hs=>wp_region (gV_ ht hd ⟨List.nodup_range,fun _ hi=>List.mem_range.1 hi⟩ hs (Ext.refl c) (fun _ h=>h) h)
end
end
section
open Go.RowKit
section
variable {P:Program}{tab:Nat->TI}{k:List It}{Q:Ex->St->Prop}{s:St}
theorem b0_ {id:Nat}{ops:Array Oper}(ht:TabOk P tab)(h:WLN P tab ops s.nx (x7_ P k Q .normal) (List.range ops.size) ⟨s.fr,s.hp,s.nx+ops.size⟩):runS P (.c (.region id ops false)::k) Q s:=
 ff_ (Q:=x7_ P k Q .normal|>fun q e s=>match e with | .normal=>q s |_=>False) ht h|>.mono fun e s h=>by cases e<;>first |exact h |exact h.elim
theorem f9_ {ops:Array Oper}{nx0 i:Nat}{r:List Nat}{K:St->Prop}{o:Oper}(ho:ops[i]? =some o)(hg:o.guard=none):WLN P tab ops nx0 K (i::r) s=fe_ P tab o.op (nx0+i) s fun v hp nx=>WLN P tab ops nx0 K r ⟨putS o.dst v s.fr,hp,nx⟩:=by
 rw[WLN,ho];simp only[xC_,hg]
theorem rQ_ {op:Op}{id:Nat}{K:AV->Hp->Nat->Prop}(h:ga_ tab op (ev s.fr)=false):fe_ P tab op id s K=kT_ P tab op id s K:=by
 unfold fe_;rw[if_neg (by rw[h];decide)]
theorem nx_ {op:Op}{id:Nat}{K:AV->Hp->Nat->Prop}(h:ga_ tab op (ev s.fr)=true):fe_ P tab op id s K=∀t,K (.v (.bool t)) s.hp s.nx:=by
 unfold fe_;rw[if_pos h]
theorem h1_ {x:Operand}{id:Nat}{K:AV->Hp->Nat->Prop}:kT_ P tab (.move x) id s K=K (ev s.fr x) s.hp s.nx:=rfl
def xR_ (T B:TypeId):Code:=
  ((Go.Code.region 0
            #[{ dst:=some 2,op:=Go.Op.assign (Go.Operand.const (Go.Value.slice none 0 0)),type:=T,
                pos:= "slices.go:355",after:= #[],guard:=none }]
            false).seq
        (((Go.Code.region 1
                  #[{ dst:=some 3,op:=Go.Op.move (Go.Operand.tmp 0),type:=T,pos:= "slices.go:357",
                      after:= #[],guard:=none },
                    { dst:=some 4,
                      op:=
                        Go.Op.binOp Go.BinOp.eql T (Go.Operand.tmp 3) (Go.Operand.const (Go.Value.slice none 0 0)) T,
                      type:=B,pos:= "slices.go:357",after:= #[{ on:=0,ground:=Go.Ground.data }],
                      guard:=none }]
                  false).seq
              (Go.Code.cond (Go.Operand.tmp 4)
                ((Go.Code.region 2
                      #[{ dst:=some 2,op:=Go.Op.assign (Go.Operand.const (Go.Value.slice none 0 0)),type:=T,
                          pos:= "slices.go:358",after:= #[],guard:=none }]
                      false).seq
                  Go.Code.ret)
                Go.Code.skip)).seq
          ((Go.Code.region 3
                #[{ dst:=some 5,op:=Go.Op.buildSlice T 0 #[],type:=T,pos:= "slices.go:362",after:= #[],
                    guard:=none },
                  { dst:=some 6,op:=Go.Op.move (Go.Operand.tmp 0),type:=T,pos:= "slices.go:362",
                    after:= #[],guard:=none },
                  { dst:=some 7,
                    op:=
                      Go.Op.call
                        { callee:=Go.Callee.builtin Go.Builtin.append,args:= #[Go.Operand.tmp 5,Go.Operand.tmp 6],
                          argTypes:= #[T,T] },
                    type:=T,pos:= "slices.go:362",
                    after:= #[{ on:=0,ground:=Go.Ground.data },{ on:=1,ground:=Go.Ground.data }],
                    guard:=none },
                  { dst:=some 2,op:=Go.Op.assign (Go.Operand.tmp 7),type:=T,pos:= "slices.go:362",
                    after:=
                      #[{ on:=2,ground:=Go.Ground.data },{ on:=2,ground:=Go.Ground.chain },
                        { on:=0,ground:=Go.Ground.phase },{ on:=1,ground:=Go.Ground.phase },
                        { on:=2,ground:=Go.Ground.phase }],
                    guard:=none }]
                false).seq
            Go.Code.ret)))
theorem yV_ (ht:TabOk P tab)(hm:P.follows .mixedOrders=true){f:FuncId}{fn:Func}{T B:TypeId}(hf:P.funcs[f]? =some fn)(hb:fn.body=some (xR_ T B))(hname:(fn.name== "runtime.NumGoroutine")=false)(hd:jK_ fn.ntmps (xR_ T B)=true)(hl:1<=fn.ntmps)(hr:fn.results= #[.tmp 2])
  (hk:(tab T).kind= .slice) (ho:(tab (tab T).elem).ok=true) (hs:0<(tab (tab T).elem).size) (hbt:(tab (tab T).elem).bytes<=32768):PureOK P f [.sl []] (.sl []) true:=by
 refine wo_ (f8_ ht hf hb hname hd (by simpa using hl) ?_);rw[hr];unfold xR_;refine gU_ (nv_ ht hm ?_);simp -implicitDefEqProofs only[go_sem];refine gU_ (gU_ (b0_ ht ?_));rw[show List.range (Array.size _)= [0,1] from rfl,f9_ (o:=_) rfl rfl,rQ_ rfl];refine Eq.mpr h1_ ?_;rw[f9_ (o:=_) rfl rfl,nx_ (by simp[ga_,ev,putS,zz_,hk,ofV,frOf])];intro t;refine h0_ ht hm ?_
 show run P tab _ _ ⟨upd 4 (.v (.bool t)) (upd 3 (.d (.sl []) true) (upd 2 (.v (.slice none 0 0)) (frOf (List.map (lift true) [.sl []])))),_,_⟩;cases t with
 |true=>
  simp -implicitDefEqProofs only[go_sem,Nat.reduceAdd, ↓reduceIte];exact xM_ (v:=.v (.slice none 0 0)) (b:=false) (is:=[]) rfl rfl rfl fun _=>rfl
 |false=>
  simp -implicitDefEqProofs only[go_sem,Nat.reduceEqDiff,Nat.reduceAdd,reduceCtorEq, ↓reduceIte,hk,ho,hs,hbt,Nat.zero_mul,Nat.zero_le,and_self,List.map,List.all,chk,frz,toDl];exact xM_ (v:=.so 3 1 0 0) (b:=false) (is:=[3]) rfl rfl rfl fun _=>rfl
end
end
section
open Go.RowKit
section
variable {P:Program}{tab:Nat->TI}
end
end
section
open Go.RowKit
section
variable {P:Program}
end
end
end Go.Proofs.YtnmkbmefohakmaaGreat.Ab
