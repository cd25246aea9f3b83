/-
 Functions read off the code.
-/
import Derived.Test.YtnmkbmefohakmaaGreatAbI
namespace Go.Proofs.YtnmkbmefohakmaaGreat.Ab
section
open Go.RowKit
def idx {α:Type}(xs:List α)(i:Int):Option α:=if 0<=i then xs[i.toNat]? else none
def slc {α:Type}(xs:List α)(lo hi:Int):Option (List α):=if 0<=lo/\lo<=hi/\hi<=xs.length then some ((xs.take hi.toNat).drop lo.toNat) else none
def bslc (s:ByteArray)(lo hi:Int):Option ByteArray:=if 0<=lo/\lo<=hi/\hi<=s.size then some (s.extract lo.toNat hi.toNat) else none
def bidx (s:ByteArray)(i:Int):Option Int:=if 0<=i then(s[i.toNat]?).map fun b=>(b.toNat:Int) else none
def cat (a b:ByteArray):Option ByteArray:=if a.size+b.size<=maxLen then some (a++b) else none
def app {α:Type}(xs ys:List α):Option (List α):=if xs.length+ys.length<=4294967296 then some (xs++ys) else none
def grd {β:Type}(c:Bool)(k:Option β):Option β:=if c then k else none
theorem zit {β:Type}{c:Bool}{a b:Option β}{r:β}(h:(if c then a else b)=some r):(c=true/\a=some r)\/(c=false/\b=some r):=by
 grind
theorem q9_ {β:Type}{c:Bool}{a:Option β}{r:β}(h:grd c a=some r):c=true/\a=some r:=by
 cases c
 ·cases h
 ·exact⟨rfl,h⟩
theorem zbi {α β:Type}{a:Option α}{f:α->Option β}{r:β}(h:a.bind f=some r):∃x,a=some x/\f x=some r:=by
 cases a with
 |none=>cases h
 |some x=>exact⟨x,rfl,h⟩
theorem zix {α:Type}{xs:List α}{i:Int}{x:α}(h:idx xs i=some x):0<=i/\xs[i.toNat]? =some x:=by
 unfold idx at h;grind
theorem zno {i:Int}(k:IntKind)(h:0<=i):qT_ (.v (.int k i))=some i.toNat:=by simp[qT_,fF_,h]
theorem qn_ {α β:Type}{xs:List α}{k:Nat}{x:α}(f:α->β)(h:xs[k]? =some x):(xs.map f)[k]? =some (f x):=by simp[h]
theorem vA_ {α:Type}{xs:List α}{k:Nat}{x:α}(h:xs[k]? =some x):k<xs.length:=(List.getElem?_eq_some_iff.1 h).1
theorem fh_ {α:Type}{xs ys:List α}{lo hi:Int}(h:slc xs lo hi=some ys):0<=lo/\lo<=hi/\hi<=xs.length/\ys=(xs.take hi.toNat).drop lo.toNat:=by
 grind [slc,Option.some.injEq]
theorem zbs {s t:ByteArray}{lo hi:Int}(h:bslc s lo hi=some t):0<=lo/\lo<=hi/\hi<=s.size/\t=s.extract lo.toNat hi.toNat:=by
 grind [bslc,Option.some.injEq]
theorem zbx {s:ByteArray}{i x:Int}(h:bidx s i=some x):0<=i/\∃b,s[i.toNat]? =some b/\x=(b.toNat:Int):=by
 grind [bidx,Option.map_eq_some_iff]
theorem zct {a b t:ByteArray}(h:cat a b=some t):a.size+b.size<=maxLen/\a++b=t:=by
 grind [cat,Option.some.injEq]
theorem jV_ {α:Type}{xs ys zs:List α}(h:app xs ys=some zs):xs.length+ys.length<=4294967296/\xs++ys=zs:=by
 grind [app,Option.some.injEq]
theorem jD_ {α β:Type}{xs ys zs:List α}(f:α->β)(h:xs++ys=zs):xs.map f++ys.map f=zs.map f:=by rw[<-h,List.map_append]
theorem jE_ {α:Type}{xs ys zs:List α}(h:xs++ys=zs):xs.length+ys.length=zs.length:=by rw[<-h,List.length_append]
theorem ja_ {α:Type}{n:Nat}{f:α->List D}(h:∀x,(f x).length=n)(xs:List α):chk n (xs.map f)=true:=by simp[chk,h]
section
variable {P:Program}{tab:Nat->TI}{k:List It}{Q:Ex->St->Prop}{s:St}{a x:Code}{g:Gh}{N:Nat}
end
def lk (n:Nat)(L:List (Nat × Nat))(i:Nat):Option Nat:=if Nat.blt i n then some i else match L.find? (fun p=>Nat.beq p.1 i) with
 |some p=>some p.2
 |none=>none
def okL (n N:Nat):List (Nat × Nat)->Bool
 |[]=>true
 |(a,b)::r=>Nat.ble n a&&Nat.ble n b&&Nat.blt a N&&r.all (fun p=> !Nat.beq p.1 a&& !Nat.beq p.2 b)&&okL n N r
theorem hb_ {L:List (Nat × Nat)}{i:Nat}{p:Nat × Nat}(h:L.find? (fun p=>Nat.beq p.1 i)=some p):p∈L/\p.1=i:=
 ⟨List.mem_of_find?_eq_some h,by have:=List.find?_some h;simpa using this⟩
theorem vB_ {n N:Nat}:∀ {L:List (Nat × Nat)},okL n N L=true->∀p∈L,n<=p.1/\n<=p.2/\p.1<N/\∀q∈L,q.2=p.2->q.1=p.1
 |[],_,p,hp=>by simp at hp
 |(a,b)::r,h,p,hp=>by
  simp only[okL,Bool.and_eq_true,Nat.ble_eq,List.all_eq_true,Nat.blt_eq] at h;obtain⟨⟨⟨⟨h1,h2⟩,h3⟩,h4⟩,h5⟩:=h;rcases List.mem_cons.1 hp with rfl |hp
  ·refine⟨h1,h2,h3,fun q hq e=> ?_⟩
   rcases List.mem_cons.1 hq with rfl |hq
   ·rfl
   ·have h6:=(h4 q hq).2
    simp_all
  ·obtain⟨g1,g2,g3,g4⟩:=vB_ h5 p hp
   refine⟨g1,g2,g3,fun q hq e=> ?_⟩;rcases List.mem_cons.1 hq with rfl |hq
   ·have h6:=(h4 p hp).2
    simp_all
   ·exact g4 q hq e
theorem ren_mk {n N nx:Nat}{fr' fr:Fr}{hp' hp:Hp}(L:List (Nat × Nat))(h1:(Nat.ble n N&&okL n N L)=true)(h2:∀t,fr' t= .un\/renA (lk n L) (fr' t)=some (fr t))(h3:∀i o,hp' i=some o->∃j o',lk n L i=some j/\renO (lk n L) o=some o'/\hp j=some o'):WeakR n ⟨fr',hp',N⟩ ⟨fr,hp,nx⟩:=by
 rw[Bool.and_eq_true,Nat.ble_eq] at h1;obtain⟨h0,h1⟩:=h1;have old:∀i,i<n->lk n L i=some i:=fun i hi=>by
  unfold lk;rw[if_pos (by simpa using hi)]
 have new:∀i j,n<=i->lk n L i=some j->(i,j)∈L:=fun i j hi h=>by
  unfold lk at h;rw[if_neg (by simpa using hi)] at h;split at h
  ·rename_i p hp
   obtain⟨e1,e2⟩:=hb_ hp;grind
  ·cases h
 refine .ren (lk n L) ⟨old,fun i j hi h=> ?_,fun i i' j e1 e2=> ?_,h2,h3,h0⟩
 ·obtain⟨g1,g2,g3,_⟩:=vB_ h1 _ (new i j hi h)
  exact⟨g2,g3⟩
 ·by_cases hi:i<n<;>by_cases hi':i'<n
  ·grind
  ·rw[old i hi] at e1
   cases e1
   have:=(vB_ h1 _ (new i' i (by omega) e2)).2.1
   simp only at this;omega
  ·rw[old i' hi'] at e2
   cases e2
   have:=(vB_ h1 _ (new i i' (by omega) e1)).2.1
   simp only at this;omega
  ·exact(vB_ h1 _ (new i' j (by omega) e2)).2.2.2 _ (new i j (by omega) e1) rfl
theorem rf_no {ρ:Nat->Option Nat}(fr:Fr):∀t,noFr t= .un\/renA ρ (noFr t)=some (fr t):=fun _=>.inl rfl
theorem hc_ {ρ:Nat->Option Nat}{fr' fr:Fr}{k:Nat}{x:AV}(h:renA ρ x=some (fr k))(hw:∀t,fr' t= .un\/renA ρ (fr' t)=some (fr t)):∀t,upd k x fr' t= .un\/renA ρ (upd k x fr' t)=some (fr t):=fun t=>by
 unfold upd;grind
theorem rU_ (ρ:Nat->Option Nat):renL ρ []=some []:=rfl
theorem yY_ {ρ:Nat->Option Nat}{x y:AV}{xs ys:List AV}(h:renA ρ x=some y)(hs:renL ρ xs=some ys):renL ρ (x::xs)=some (y::ys):=by simp only[renL,h,hs]
theorem cg_ {ρ:Nat->Option Nat}{cs ds:List AV}(h:renL ρ cs=some ds):renO ρ (.bx cs)=some (.bx ds):=by simp only[renO,h,Option.map_some]
theorem rh_no {ρ:Nat->Option Nat}(hp:Hp):∀i o,noHp i=some o->∃j o',ρ i=some j/\renO ρ o=some o'/\hp j=some o':=fun _ _ h=>by cases h
theorem wT_ {ρ:Nat->Option Nat}{hp' hp:Hp}{k:Nat}{x:Option AO}(h:∀o,x=some o->∃j o',ρ k=some j/\renO ρ o=some o'/\hp j=some o')(hw:∀i o,hp' i=some o->∃j o',ρ i=some j/\renO ρ o=some o'/\hp j=some o'):∀i o,upd k x hp' i=some o->∃j o',ρ i=some j/\renO ρ o=some o'/\hp j=some o':=fun i o=>by
 unfold upd;grind
theorem gb_ {ρ:Nat->Option Nat}{hp:Hp}{k j:Nat}{o o':AO}(h1:ρ k=some j)(h2:renO ρ o=some o')(h3:hp j=some o'):∀p,some o=some p->∃j o',ρ k=some j/\renO ρ p=some o'/\hp j=some o':=fun p e=>by
 cases e;exact⟨j,o',h1,h2,h3⟩
theorem nD_ {ρ:Nat->Option Nat}{id j ver:Nat}{es:List (List D)}(h:ρ id=some j):renA ρ (accV id ver es)=some (accV j ver es):=by
 cases es with
 |nil=>rfl
 |cons e r=>simp only[accV,renA,h];rfl
theorem sY_ {ρ:Nat->Option Nat}{hp:Hp}{id j sz ver:Nat}{br:Bool}{es:List (List D)}(h1:ρ id=some j)(h2:hp j=accO sz ver br es):∀p,accO sz ver br es=some p->∃j o',ρ id=some j/\renO ρ p=some o'/\hp j=some o':=fun p e=>by
 refine⟨j,p,h1,?_,by rw[h2,e]⟩;cases es with
 |nil=>cases e
 |cons e0 r=>simp only[accO,Option.some.injEq] at e;subst e;rfl
def lenF (k:TK)(x:AV):Option (AV × List (Nat × AO)):=match k,x with
 | .slice,.d (.sl es) _=>some (.v (.int .i64 es.length),[])
 | .slice,.so _ _ _ n=>some (.v (.int .i64 n),[])
 | .slice,.v (.slice none 0 0)=>some (.v (.int .i64 0),[])
 | .string,.v (.string s)=>some (.v (.int .i64 s.size),[])
 |_,_=>none
@[go_sem ↓ high] theorem au_ {tab:Nat->TI}(ρ:Operand->AV)(hp:Hp)(id:Nat)(x:Operand)(T:TypeId):ql_ tab ρ hp id (.call { callee:=.builtin .len,args:= #[x],argTypes:= #[T] })=lenF (tab T).kind (ρ x):=rfl
@[go_sem] theorem lenF_d (es:List (List D))(b:Bool):lenF .slice (.d (.sl es) b)=some (.v (.int .i64 es.length),[]):=rfl
@[go_sem] theorem lenF_so (i v o n:Nat):lenF .slice (.so i v o n)=some (.v (.int .i64 n),[]):=rfl
@[go_sem] theorem lenF_nil:lenF .slice (.v (.slice none 0 0))=some (.v (.int .i64 0),[]):=rfl
@[go_sem] theorem lenF_str (s:ByteArray):lenF .string (.v (.string s))=some (.v (.int .i64 s.size),[]):=rfl
@[go_sem] theorem lenF_acc (id ver:Nat)(es:List (List D)):lenF .slice (accV id ver es)=some (.v (.int .i64 es.length),[]):=by cases es<;>rfl
def accT (o:Option AO)(ver id:Nat):List (List D)->Option (D × Bool × List Nat)
 |[]=>some (.sl [],false,[])
 |_::r=>match o with
  |some (.rw es _ v br _)=>if v=ver then some (.sl (es.take (r.length+1)),br,[id]) else none
  |_=>none
def accB (br:Bool):List (List D)->Bool
 |[]=>false
 |_::_=>br
def accK (id:Nat):List (List D)->List Nat
 |[]=>[]
 |_::_=>[id]
@[go_sem] theorem accB_no (es:List (List D)):accB false es=false:=by cases es<;>rfl
@[go_sem] theorem rV_ (hp:Hp)(id ver:Nat)(es:List (List D)):toD1 hp (accV id ver es)=accT (hp id) ver id es:=by
 cases es with
 |nil=>rfl
 |cons e r=>rfl
@[go_sem] theorem toD_acc (hp:Hp)(id ver:Nat)(es:List (List D)):toD hp (accV id ver es)=accT (hp id) ver id es:=by
 cases es with
 |nil=>rfl
 |cons e r=>rfl
@[go_sem] theorem rowOf_acc (hp:Hp)(id ver:Nat)(es:List (List D)):v9_ hp (accV id ver es)=(accT (hp id) ver id es).bind fun p=>match p with |(.sl x,b,is)=>some (x,b,is) |_=>none:=by
 cases es with
 |nil=>rfl
 |cons e r=>
  simp only[accV,v9_,accT,List.drop_zero];grind
@[go_sem] theorem toR_acc (hp:Hp)(id ver:Nat)(es:List (List D)):toR hp (accV id ver es)=accT (hp id) ver id es:=by
 cases es with
 |nil=>rfl
 |cons e r=>rfl
@[go_sem] theorem accT_acc (sz ver id:Nat)(br:Bool)(es:List (List D)):accT (accO sz ver br es) ver id es=some (.sl es,accB br es,accK id es):=by
 cases es with
 |nil=>rfl
 |cons e r=>simp[accT,accO,accB,accK]
theorem xh_ {α:Type}{f:α->List D}{xs:List α}{id ver:Nat}(h:0<xs.length):accV id ver (xs.map f)= .so id ver 0 xs.length:=by
 cases xs with
 |nil=>cases h
 |cons x r=>simp[accV]
theorem wU_ {α:Type}{f:α->List D}{xs:List α}{sz ver:Nat}{br:Bool}(h:0<xs.length):accO sz ver br (xs.map f)=some (.rw (xs.map f) sz ver br false):=by
 cases xs with
 |nil=>cases h
 |cons x r=>simp[accO]
theorem hd_ {α:Type}{f:α->List D}{xs:List α}{ρ:Nat->Option Nat}{id j ver:Nat}(h:ρ id=some j)(hx:0<xs.length):renA ρ (accV id ver (xs.map f))=some (.so j ver 0 xs.length):=by
 rw[xh_ hx];simp[renA,h]
theorem ch_ {α:Type}{f:α->List D}{xs:List α}{ρ:Nat->Option Nat}{hp:Hp}{id j sz ver:Nat}{br:Bool}(h1:ρ id=some j)(hx:0<xs.length)(h2:hp j=some (.rw (xs.map f) sz ver br false)):∀p,accO sz ver br (xs.map f)=some p->∃j o',ρ id=some j/\renO ρ p=some o'/\hp j=some o':=
 sY_ h1 (by rw[wU_ hx];exact h2)
theorem ci_ {ρ:Nat->Option Nat}{hp:Hp}{id sz ver:Nat}{br:Bool}:∀p,accO sz ver br []=some p->∃j o',ρ id=some j/\renO ρ p=some o'/\hp j=some o':=fun p e=>by cases e
def appA (tab:Nat->TI)(nid T T':Nat)(hp:Hp)(y:AV)(ny:Option Nat)(x:AV):Option (AV × List (Nat × AO)):=
 if T=T'/\(tab T).kind= .slice/\(tab (tab T).elem).ok/\0<(tab (tab T).elem).size then
   match v9_ hp y,x with
   |some (ys,b,_),.v (.slice none 0 0)=>
    if chk (tab (tab T).elem).size ys/\(tab (tab T).elem).bytes<=32768/\ys.length<=4294967296 then
     if ys.length=0 then some (.v (.slice none 0 0),[]) else some (.so nid 0 0 ys.length,[(nid,.rw ys (tab (tab T).elem).size 0 b false)])
    else none
   |some (ys,b,_),.so i v off n=>match hp i with
    |some (.rw es sz ver br false)=>
     if v=ver/\off=0/\n<=es.length/\sz=(tab (tab T).elem).size/\chk sz ys/\(tab (tab T).elem).bytes<=32768/\n+ys.length<=4294967296 then
      some (.so i (ver+1) 0 (n+ys.length),[(i,.rw (es.take n++ys) sz (ver+1) (br||b) false)]) else none
    |_=>none
   |_,_=>none
  else appZ tab nid T T' x ny
@[go_sem ↓ high] theorem av_ {tab:Nat->TI}(ρ:Operand->AV)(hp:Hp)(id:Nat)(x y:Operand)(T T':TypeId):ql_ tab ρ hp id (.call { callee:=.builtin .append,args:= #[x,y],argTypes:= #[T,T'] })=appA tab id T T' hp (ρ y) (qT_ (ρ y)) (ρ x):=rfl
section
variable {tab:Nat->TI}{nid T T':Nat}{hp:Hp}{y:AV}{ny:Option Nat}
@[go_sem] theorem rW_:appA tab nid T T' hp y ny (.v (.slice none 0 0))=if T=T'/\(tab T).kind= .slice/\(tab (tab T).elem).ok/\0<(tab (tab T).elem).size then
   match v9_ hp y with
   |some (ys,b,_)=>
    if chk (tab (tab T).elem).size ys/\(tab (tab T).elem).bytes<=32768/\ys.length<=4294967296 then
     if ys.length=0 then some (.v (.slice none 0 0),[]) else some (.so nid 0 0 ys.length,[(nid,.rw ys (tab (tab T).elem).size 0 b false)])
    else none
   |_=>none
  else appZ tab nid T T' (.v (.slice none 0 0)) ny:=by
 unfold appA;grind
@[go_sem] theorem cj_ (i v off n:Nat):appA tab nid T T' hp y ny (.so i v off n)=if T=T'/\(tab T).kind= .slice/\(tab (tab T).elem).ok/\0<(tab (tab T).elem).size then
   match v9_ hp y with
   |some (ys,b,_)=>match hp i with
    |some (.rw es sz ver br false)=>
     if v=ver/\off=0/\n<=es.length/\sz=(tab (tab T).elem).size/\chk sz ys/\(tab (tab T).elem).bytes<=32768/\n+ys.length<=4294967296 then
      some (.so i (ver+1) 0 (n+ys.length),[(i,.rw (es.take n++ys) sz (ver+1) (br||b) false)]) else none
    |_=>none
   |_=>none
  else appZ tab nid T T' (.so i v off n) ny:=by
 unfold appA;grind
def appB (tab:Nat->TI)(nid T T':Nat)(r:Option (List (List D) × Bool × List Nat))(id ver:Nat)(es:List (List D))(o:Option AO):Option (AV × List (Nat × AO)):=
 if T=T'/\(tab T).kind= .slice/\(tab (tab T).elem).ok/\0<(tab (tab T).elem).size then match r with
  |some (ys,b,_)=>match es with
   |[]=>if chk (tab (tab T).elem).size ys/\(tab (tab T).elem).bytes<=32768/\ys.length<=4294967296 then
     if ys.length=0 then some (.v (.slice none 0 0),[]) else some (.so nid 0 0 ys.length,[(nid,.rw ys (tab (tab T).elem).size 0 b false)]) else none
   |_::_=>match o with
    |some (.rw es' sz v br false)=>if ver=v/\es.length<=es'.length/\sz=(tab (tab T).elem).size/\chk sz ys/\(tab (tab T).elem).bytes<=32768/\es.length+ys.length<=4294967296 then
      some (.so id (v+1) 0 (es.length+ys.length),[(id,.rw (es'.take es.length++ys) sz (v+1) (br||b) false)]) else none
    |_=>none
  |_=>none
 else none
@[go_sem] theorem appA_acc (h:T=T'/\(tab T).kind= .slice/\(tab (tab T).elem).ok/\0<(tab (tab T).elem).size)(id ver:Nat)(es:List (List D)):appA tab nid T T' hp y ny (accV id ver es)=appB tab nid T T' (v9_ hp y) id ver es (hp id):=by
 cases es with
 |nil=>
  rw[wS_,rW_,if_pos h];unfold appB;rw[if_pos h]
 |cons e r=>
  rw[b3_,cj_,if_pos h];unfold appB;rw[if_pos h];simp
@[go_sem] theorem appB_acc {ys:List (List D)}{b:Bool}{is:List Nat}{id ver sz:Nat}{br:Bool}{es:List (List D)}(h:T=T'/\(tab T).kind= .slice/\(tab (tab T).elem).ok/\0<(tab (tab T).elem).size)(h2:sz=(tab (tab T).elem).size/\chk sz ys/\(tab (tab T).elem).bytes<=32768/\es.length+ys.length<=4294967296)(h3:¬ys.length=0)(h4:(br||b)=b):
  appB tab nid T T' (some (ys,b,is)) id ver es (accO sz ver br es)=some (.so (accI nid id es) (accN ver es) 0 (es.length+ys.length),[(accI nid id es,.rw (es++ys) sz (accN ver es) b false)]):=by
 obtain⟨g1,g2,g3,g4⟩:=h2;subst g1;unfold appB;rw[if_pos h];grind [accI,accN,accO]
end
@[go_sem] theorem jW_ {j nid id:Nat}{es:List (List D)}(h1:¬j=nid)(h2:¬j=id):(j=accI nid id es)=False:=by
 cases es<;>simp[accI,h1,h2]
@[go_sem] theorem js_ {j nid id:Nat}{es:List (List D)}(h1:¬j=nid)(h2:¬j=id):(accI nid id es=j)=False:=by
 cases es<;>simp only[accI,eq_iff_iff,iff_false]<;>intro e<;>first |exact h1 e.symm |exact h2 e.symm
@[go_sem] theorem acc_idsA (id ver:Nat)(es:List (List D)):idsA (accV id ver es)=accK id es:=by cases es<;>rfl
section
variable {P:Program}{tab:Nat->TI}{k:List It}{Q:Ex->St->Prop}{s:St}{a b:Code}{x:Operand}{c:Bool}
end
attribute [go_sem] List.drop_nil List.take_nil
theorem rX_ (n:Nat):((no_index (OfNat.ofNat n:Nat):Nat):Int)=OfNat.ofNat n:=rfl
theorem v2_ {α:Type}{f:α->List D}(h:∀x,zU_ (f x)=true)(xs:List α):zV_ (xs.map f)=true:=by simp[zV_,h]
@[go_sem] theorem aw_:zU_ []=true:=rfl
@[go_sem] theorem ck_ (c:D)(r:List D):zU_ (c::r)=(isV c&&zU_ r):=rfl
@[go_sem] theorem isV_v (x:Value):isV (.v x)=true:=rfl
@[go_sem] theorem cl_ (c:List D)(r:List (List D)):zV_ (c::r)=(zU_ c&&zV_ r):=rfl
attribute [go_sem] rX_ gt_iff_lt ge_iff_le List.all_cons List.all_nil Bool.and_self beq_self_eq_true bne_self_eq_false decide_true decide_false List.length_map Nat.le_refl not_false_eq_true not_true_eq_false xB_ Nat.zero_le Option.toList
abbrev eS (x:ByteArray):List D:=[D.v (.string x)]
abbrev eI (x:Int):List D:=[D.v (.int .i64 x)]
abbrev eB (x:Bool):List D:=[D.v (.bool x)]
abbrev eU8 (x:Int):List D:=[D.v (.int .u8 x)]
abbrev eL {α:Type}(f:α->List D)(x:List α):List D:=[D.sl (List.map f x)]
attribute [go_sem] eS eI eB eU8 eL
def SemR (n:Nat)(P:Program)(code:Code)(Q:Ex->St->Prop)(s:St):Prop:=
 ∀(g:Gh) (N:Nat) (c:Cf) (a:Act),jK_ N code=true->Sim g s c a N->n<=s.nx->code.wp P (PostR g N Q n c) a c.w
theorem PostR.mono {g:Gh}{N n:Nat}{Q Q':Ex->St->Prop}{c:Cf}{e:Exit}{a':Act}{w':World}(h:PostR g N Q n c e a' w')(hq:∀ex s,Q ex s->Q' ex s):PostR g N Q' n c e a' w':=by
 obtain⟨ex,s',c',h1,h2,h3⟩:=h;exact⟨ex,s',c',h1,hq ex s' h2,h3⟩
def j0_ (n:Nat)(P:Program):List It->(Ex->St->Prop)->Ex->St->Prop
 |[],Q,e,s=>Q e s
 | .c x::k,Q,e,s=>match e with
  | .normal=>SemR n P x (j0_ n P k Q) s
  | .ret=>j0_ n P k Q .ret s
  | .exit m=>j0_ n P k Q (.exit m) s
 | .blk m::k,Q,e,s=>match e with
  | .normal=>j0_ n P k Q .normal s
  | .ret=>j0_ n P k Q .ret s
  | .exit m'=>if m'=m then j0_ n P k Q .normal s else j0_ n P k Q (.exit m') s
 | .lp X::k,Q,e,s=>match e with
  | .normal=>X s
  | .ret=>j0_ n P k Q .ret s
  | .exit m=>j0_ n P k Q (.exit m) s
def runR (n:Nat)(P:Program)(k:List It)(Q:Ex->St->Prop)(s:St):Prop:=j0_ n P k Q .normal s
section
variable {P:Program}{tab:Nat->TI}{k:List It}{Q Q':Ex->St->Prop}{s:St}{a b x:Code}{n m:Nat}
theorem SemR.mono (hQ:∀e s,Q e s->Q' e s)(h:SemR n P a Q s):SemR n P a Q' s:=fun g N c act hd hs hn=>Code.wp_mono (fun _ _ _ hp=>PostR.mono hp hQ) (h g N c act hd hs hn)
theorem nE_ (ht:TabOk P tab)(hm:P.follows .mixedOrders=true)(h:W P tab a Q s):SemR n P a Q s:=fun _ _ c act hd hs hn=>Code.wp_mono (fun _ _ _ hp=>Post.toR hp hn) (d7_ ht hm a Q s c act hd h hs)
theorem rY_ (h:SemR n P a (fun e s'=>match e with | .normal=>SemR n P b Q s' |e=>Q e s') s):SemR n P (.seq a b) Q s:=by
 intro g N c act hd hs hn;simp only[jK_,Bool.and_eq_true] at hd;refine wp_seq (Code.wp_mono (fun e a' w' hp=> ?_) (h g N c act hd.1 hs hn));obtain⟨ex,s',c',h1,h2,h3,h4,h5,h6,h7⟩:=hp;subst h1;subst h4;cases ex with
 |normal=>exact Code.wp_mono (fun e a' w' hp=>PostR.after hp h5 h7) (h2 g N c' a' hd.2 h3 h6)
 |ret=>exact⟨.ret,s',c',rfl,h2,h3,rfl,h5,h6,h7⟩
 |exit n=>exact⟨.exit n,s',c',rfl,h2,h3,rfl,h5,h6,h7⟩
theorem h5_ (h:SemR n P a (fun e s'=>match e with | .exit m'=>if m'=m then Q .normal s' else Q (.exit m') s' |e=>Q e s') s):SemR n P (.block m a) Q s:=by
 intro g N c act hd hs hn;refine wp_block (Code.wp_mono (fun e a' w' hp=> ?_) (h g N c act hd hs hn));obtain⟨ex,s',c',h1,h2,h3,h4,h5,h6,h7⟩:=hp;subst h1;cases ex with
 |normal=>exact⟨.normal,s',c',rfl,h2,h3,h4,h5,h6,h7⟩
 |ret=>exact⟨.ret,s',c',rfl,h2,h3,h4,h5,h6,h7⟩
 |exit m'=>
  simp only[Ex.up,Exit.inBlock];by_cases e:m'=m
  ·rw[if_pos e]
   simp only[if_pos e] at h2;exact⟨.normal,s',c',rfl,h2,h3,h4,h5,h6,h7⟩
  ·rw[if_neg e]
   simp only[if_neg e] at h2;exact⟨.exit m',s',c',rfl,h2,h3,h4,h5,h6,h7⟩
theorem nF_ {α:Type}(σ:α->St)(μ:α->Nat)(x0:α)(h0:WeakR n (σ x0) s)(step:∀x,SemR n P a (fun e s'=>match e with | .normal=>∃x',WeakR n (σ x') s'/\μ x'<μ x |e=>Q e s') (σ x)):SemR n P (.loop a) Q s:=by
 have key:∀j x,μ x=j->n<=(σ x).nx->∀(g:Gh) (N:Nat) (c:Cf) (act:Act),jK_ N a=true->Sim g (σ x) c act N->∀(b:Frame) (k:List Item) (cs:List Frame),∃e a' w',PostR g N Q n c e a' w'/\Arrives P (lone (b.at act (.code a:: .inLoop a::k)) cs c.w) b k cs e a' w':=by
  intro j;induction j using Nat.strongRecOn with
  |_ j ih=>
   intro x hx hn g N c act hd hs b k cs;obtain⟨e,a₁,w₁,hq,harr⟩:=step x g N c act hd hs hn b (.inLoop a::k) cs;obtain⟨ex,s',c',h1,h2,h3,h4,h5,h6,h7⟩:=hq;subst h1;subst h4;cases ex with
   |normal=>
    obtain⟨x',hw,hlt⟩:=h2;obtain⟨c2,q1,q2,q3,q4,q5⟩:=h3.weakR h6 hw;obtain⟨e₂,a₂,w₂,hq₂,harr₂⟩:=ih (μ x') (by omega) x' rfl q4 g N c2 a₁ hd q1 b k cs;rw[q2] at harr₂;exact⟨e₂,a₂,w₂,PostR.after (PostR.after hq₂ q3 q5) h5 h7,.of_steps (Steps.trans harr (.one step_inLoop)) harr₂⟩
   |ret=>exact⟨_,a₁,_,⟨.ret,s',c',rfl,h2,h3,rfl,h5,h6,h7⟩,.pass (x:=.inLoop a) rfl (fun _ _=>.inl (by simp[Ex.up])) harr⟩
   |exit m=>exact⟨_,a₁,_,⟨.exit m,s',c',rfl,h2,h3,rfl,h5,h6,h7⟩,.pass (x:=.inLoop a) rfl (fun _ _=>.inl (by simp[Ex.up])) harr⟩
 intro g N c act hd hs hn b k cs;obtain⟨c',h1,h2,h3,h4,h5⟩:=hs.weakR hn h0;obtain⟨e,a',w',hq,harr⟩:=key _ x0 rfl h4 g N c' act hd h1 b k cs;rw[h2] at harr;exact⟨e,a',w',PostR.after hq h3 h5,.of_steps (.one step_loop) harr⟩
theorem SemR.join {R:St->Prop}(h:SemR n P a (fun e s'=>match e with | .normal=>∃s2,WeakR n s2 s'/\R s2 |e=>Q e s') s):SemR n P a (fun e s'=>match e with | .normal=>R s' |e=>Q e s') s:=by
 intro g N c act hd hs hn;refine Code.wp_mono (fun e a' w' hp=> ?_) (h g N c act hd hs hn);obtain⟨ex,s',c',h1,h2,h3,h4,h5,h6,h7⟩:=hp;cases ex with
 |normal=>
  obtain⟨s2,hw,hR⟩:=h2;obtain⟨c2,q1,q2,q3,q4,q5⟩:=h3.weakR h6 hw;refine⟨.normal,s2,c2,h1,hR,q1,q2.trans h4,h5.trans q3,q4,fun i hi=> ?_⟩;grind
 |ret=>exact⟨.ret,s',c',h1,h2,h3,h4,h5,h6,h7⟩
 |exit m=>exact⟨.exit m,s',c',h1,h2,h3,h4,h5,h6,h7⟩
theorem wV_:∀(k:List It),j0_ n P k Q .ret s=Q .ret s
 |[]=>rfl
 | .c _::k=>wV_ k
 | .blk _::k=>wV_ k
 | .lp _::k=>wV_ k
theorem cm_:j0_ n P (.c a::k) Q (.exit m) s=j0_ n P k Q (.exit m) s:=rfl
theorem rZ_ {X:St->Prop}:j0_ n P (.lp X::k) Q (.exit m) s=j0_ n P k Q (.exit m) s:=rfl
theorem nG_ {m':Nat}:j0_ n P (.blk m::k) Q (.exit m') s=if m'=m then runR n P k Q s else j0_ n P k Q (.exit m') s:=rfl
theorem nH_ {e:Ex}:j0_ n P [] Q e s=Q e s:=rfl
theorem b4_:j0_ n P k Q .normal s=runR n P k Q s:=rfl
theorem r0_:runR n P [] Q s=Q .normal s:=rfl
theorem r1_:runR n P (.blk m::k) Q s=runR n P k Q s:=rfl
theorem cn_ {X:St->Prop}:runR n P (.lp X::k) Q s=X s:=rfl
theorem zsq (h:runR n P (.c a:: .c b::k) Q s):runR n P (.c (.seq a b)::k) Q s:=
 rY_ (SemR.mono (fun e s h=>by cases e<;>exact h) (show SemR n P a (j0_ n P (.c b::k) Q) s from h))
theorem zbk (h:runR n P (.c a:: .blk m::k) Q s):runR n P (.c (.block m a)::k) Q s:=
 h5_ (SemR.mono (fun e s h=>by cases e<;>exact h) (show SemR n P a (j0_ n P (.blk m::k) Q) s from h))
theorem zlp {α:Type}(σ:α->St)(μ:α->Nat)(x0:α)(h0:WeakR n (σ x0) s)(step:∀x,runR n P [.c a,.lp fun s'=>∃x',WeakR n (σ x') s'/\μ x'<μ x] (j0_ n P k Q) (σ x)):runR n P (.c (.loop a)::k) Q s:=
 nF_ σ μ x0 h0 fun x=>SemR.mono (fun e s h=>by cases e<;>exact h) (show SemR n P a (j0_ n P [.lp fun s'=>∃x',WeakR n (σ x') s'/\μ x'<μ x] (j0_ n P k Q)) (σ x) from step x)
theorem zjn {α:Type}(σ:α->St)(h1:runR n P [.c x,.lp fun s'=>∃y,WeakR n (σ y) s'] (j0_ n P k Q) s)(h2:∀y,runR n P k Q (σ y)):runR n P (.c x::k) Q s:=by
 have:SemR n P x (fun e s'=>match e with | .normal=>runR n P k Q s' |e=>j0_ n P k Q e s') s:=by
  refine SemR.join (SemR.mono ?_ (show SemR n P x (j0_ n P [.lp fun s'=>∃y,WeakR n (σ y) s'] (j0_ n P k Q)) s from h1));intro e s' h;cases e with
  |normal=>
   obtain⟨y,hw⟩:=h;exact⟨_,hw,h2 y⟩
  |ret=>exact h
  |exit m=>exact h
 exact SemR.mono (fun e s h=>by cases e<;>exact h) this
theorem qs_ {y:Operand}{c:Bool}(h:ev s.fr y= .v (.bool c))(hc:c=true)(h1:runR n P (.c a::k) Q s):runR n P (.c (.cond y a b)::k) Q s:=by
 intro g N cf act hd hs hn;simp only[jK_,Bool.and_eq_true] at hd;have hv:=(show RAt g cf (.v (.bool c)) (act.eval y) by rw[<-h];exact uL_ hs.fr y).v.1;subst hc;refine wp_cond_split hv (fun _=> ?_) fun e=>by cases e
 exact Code.wp_mono (fun _ _ _ hp=>hp.mono fun e s h=>by cases e<;>exact h) (h1 g N cf act hd.1 hs hn)
theorem qg_ {y:Operand}{c:Bool}(h:ev s.fr y= .v (.bool c))(hc:c=false)(h1:runR n P (.c b::k) Q s):runR n P (.c (.cond y a b)::k) Q s:=by
 intro g N cf act hd hs hn;simp only[jK_,Bool.and_eq_true] at hd;have hv:=(show RAt g cf (.v (.bool c)) (act.eval y) by rw[<-h];exact uL_ hs.fr y).v.1;subst hc;refine wp_cond_split hv (fun e=>by cases e) fun _=> ?_;exact Code.wp_mono (fun _ _ _ hp=>hp.mono fun e s h=>by cases e<;>exact h) (h1 g N cf act hd.2 hs hn)
theorem jR_ (ht:TabOk P tab)(hm:P.follows .mixedOrders=true):∀(k1 k2:List It) (e:Ex) (s:St),cont P tab k1 (j0_ n P k2 Q) e s->j0_ n P (k1++k2) Q e s
 |[],k2,e,s,h=>h
 | .c x::k,k2,e,s,h=>by
  cases e with
  |normal=>exact nE_ ht hm (W2_W x _ _ s (fun e s h=>jR_ ht hm k k2 e s h) h)
  |ret=>exact jR_ ht hm k k2 _ s h
  |exit m=>exact jR_ ht hm k k2 _ s h
 | .blk m::k,k2,e,s,h=>by
  cases e with
  |normal=>exact jR_ ht hm k k2 _ s h
  |ret=>exact jR_ ht hm k k2 _ s h
  |exit m'=>
   show if m'=m then _ else _
   have h':(if m'=m then cont P tab k (j0_ n P k2 Q) .normal s else cont P tab k (j0_ n P k2 Q) (.exit m') s):=h
   by_cases e:m'=m
   ·rw[if_pos e] at h'⊢
    exact jR_ ht hm k k2 _ s h'
   ·rw[if_neg e] at h'⊢
    exact jR_ ht hm k k2 _ s h'
 | .lp X::k,k2,e,s,h=>by
  cases e with
  |normal=>exact h
  |ret=>exact jR_ ht hm k k2 _ s h
  |exit m=>exact jR_ ht hm k k2 _ s h
theorem nI_ (ht:TabOk P tab)(hm:P.follows .mixedOrders=true)(m:Nat)(h:run P tab (k.take m) (j0_ n P (k.drop m) Q) s):runR n P k Q s:=by
 have:=jR_ ht hm (k.take m) (k.drop m) .normal s h
 rwa [List.take_append_drop] at this
theorem qX_ (ht:TabOk P tab){f:FuncId}{fn:Func}{code:Code}(hf:P.funcs[f]? =some fn)(hb:fn.body=some code)(hname:(fn.name== "runtime.NumGoroutine")=false)(hd:jK_ fn.ntmps code=true){vs:List AV}{hp:Hp}{nx:Nat}{R:AV->Hp->Nat->Prop}
  (hlen:vs.length<=fn.ntmps) (h:runR nx P [.c code] (EndW tab fn.results R) ⟨frOf vs,hp,nx⟩):InlOK P f vs hp nx R:=by
 have h':Sem P code (EndW tab fn.results R) ⟨frOf vs,hp,nx⟩:=fun g N c act hd hs=>
  Code.wp_mono (fun e a' w' hp=>PostR.toE (hp.mono fun e s h=>by cases e<;>exact h) hs.hr hs.kn) ((show SemR nx P code (j0_ nx P [] (EndW tab fn.results R)) _ from h) g N c act hd hs (Nat.le_refl _))
 exact f8_ ht hf hb hname hd hlen (Sem.mono (fun e s h=>by cases e<;>exact h) h')
theorem nJ_ (ht:TabOk P tab){f:FuncId}{fn:Func}{code:Code}(hf:P.funcs[f]? =some fn)(hb:fn.body=some code)(hname:(fn.name== "runtime.NumGoroutine")=false)(hd:jK_ fn.ntmps code=true){ds:List D}{d:D}{fresh:Bool}
  (hlen:ds.length<=fn.ntmps) (h:runR 0 P [.c code] (EndW tab fn.results (EndP d fresh)) ⟨frOf (ds.map (lift true)),noHp,0⟩):PureOK P f ds d fresh:=
 wo_ (qX_ ht hf hb hname hd (by simpa using hlen) h)
end
attribute [go_sem] wV_ cm_ rZ_ nG_ nH_ b4_ r0_ r1_ cn_
@[go_sem] theorem frz_cons (hp:Hp)(i:Nat)(r:List Nat):frz hp (i::r)=match hp i with
  |some (.rw es sz v br _)=>(i,.rw es sz v br true)::frz hp r
  |_=>frz hp r:=rfl
end
section
open Go.RowKit
inductive DA where
 |d (x:D)
 |fn (f:FuncId) (caps:List D)
def DA.av:DA->AV
 | .d x=>lift true x
 | .fn f caps=>.fn f (caps.map (lift true))
def toP (hp:Hp):AV->Option (D × Bool × List Nat)
 | .pt id off=>match hp id with
  |some (.bx cs)=>(toDs hp cs).map fun(ds,b,is)=>(.pt ds off,b,id::is)
  |_=>none
 |x=>toD1 hp x
def toPs (hp:Hp):List AV->Option (List D × Bool × List Nat)
 |[]=>some ([],false,[])
 |c::r=>match toP hp c,toPs hp r with
  |some (d,b,i),some (ds,b',i')=>some (d::ds,b||b',i++i')
  |_,_=>none
def toA (hp:Hp):AV->Option (DA × Bool × List Nat)
 | .fn f caps=>(toPs hp caps).map fun(ds,b,is)=>(.fn f ds,b,is)
 | .pt id off=>(toP hp (.pt id off)).map fun(d,b,is)=>(.d d,b,is)
 |x=>(toD hp x).map fun(d,b,is)=>(.d d,b,is)
def toAl (hp:Hp):List AV->Option (List DA × Bool × List Nat)
 |[]=>some ([],false,[])
 |c::r=>match toA hp c,toAl hp r with
  |some (d,b,i),some (ds,b',i')=>some (d::ds,b||b',i++i')
  |_,_=>none
def RVA (w:World)(I:Nat->Prop):DA->Value->Prop
 | .d x,u=>RV1 w I x u
 | .fn f caps,u=>∃(us:Nat->Value) (n:Nat),caps.length=n/\u= .func (.func f) #[] (Array.ofFn (n:=n) fun j=>us j)/\∀(j:Nat) (x:D),caps[j]? =some x->RC w I x (us j)
def PureA (P:Program)(f:FuncId)(as:List DA)(d:D)(fr:Bool):Prop:=
 vn_ P f/\∀(w:World) (M0:Nat->Prop) (args:Array Value),(∀k,M0 k->k<w.heap.size)->args.size=as.length->
  (∀(j:Nat) (x:DA),as[j]? =some x->∃u,args[j]? =some u/\RVA w (fun k=>k<w.heap.size/\¬M0 k) x u)->
  Calls P f args w fun e w'=>∃u,e= .returned u/\(Below w.heap.size w w'/\w.drawn<=w'.drawn)/\RV w' (fun k=>k<w'.heap.size/\¬M0 k/\(fr=true->w.heap.size<=k)) d u
theorem PureA.of_pure {P:Program}{f:FuncId}{ds:List D}{d:D}{fr:Bool}(h:PureOK P f ds d fr):PureA P f (ds.map .d) d fr:=
 ⟨h.1,fun w M0 args h1 h2 h3=>h.2 w M0 args h1 (by simpa using h2) fun j x hj=>h3 j (.d x) (by simp[hj])⟩
section
variable {P:Program}{tab:Nat->TI}{g:Gh}{c:Cf}
theorem sZ_ {hp:Hp}{x:AV}{u:Value}{d:D}{b:Bool}{is:List Nat}(hr:HR g c)(hhp:c.hp=hp)(h:RA g c x u)(hd:toP hp x=some (d,b,is))(I:Nat->Prop)(hI:∀k,Im g c b k->I k)
  (hI2:∀i∈is,I (c.φ i)):RC c.w I d u:=by
 unfold toP at hd;split at hd
 ·rename_i id off
  split at hd
  ·rename_i cs hi
   rw[Option.map_eq_some_iff] at hd;obtain⟨⟨ds,b',is'⟩,e1,e2⟩:=hd;simp only[Prod.mk.injEq] at e2;obtain⟨rfl,rfl,rfl⟩:=e2;cases h with
   |pt _ _ hn ho=>
    rw[<-hhp] at hi;obtain⟨T,vs,h1,h2,h3⟩:=hr.obj id _ hi;have hall:∀(j:Nat) (x:AV),cs[j]? =some x->RA g c x (vs.getD j undef):=fun j x hj=>by
     obtain⟨u,k1,k2⟩:=h3 j x hj;simp_all
    obtain⟨g1,g2⟩:=gF_ hr hhp I (fun j=>vs.getD j undef) e1 hall hI fun i hi=>hI2 i (by simp[hi]);have key:RC c.w I (.pt ds off) (.pointer (some ⟨c.φ id,0+off,none⟩)):=by
     refine RC.pt ds off (c.φ id) 0 (fun j=>vs.getD j undef) (hI2 id (by simp)) (fun j d hj=> ?_) g2;have hlt:j<vs.size:=by
      have:=(List.getElem?_eq_some_iff.1 hj).1
      omega
     simp[World.cell?,h1,Array.getD,hlt]
    rwa [Nat.zero_add] at key
  ·cases hd
 ·exact yr_ hr hhp h hd I hI hI2
theorem nK_ {hp:Hp}(hr:HR g c)(hhp:c.hp=hp)(I:Nat->Prop):∀ {xs:List AV} {ds:List D} {b:Bool} {is:List Nat} (vs:Nat->Value),toPs hp xs=some (ds,b,is)->(∀(j:Nat) (x:AV),xs[j]? =some x->RA g c x (vs j))->
  (∀k,Im g c b k->I k)->(∀i∈is,I (c.φ i))->ds.length=xs.length/\∀(j:Nat) (d:D),ds[j]? =some d->RC c.w I d (vs j)
 |[],ds,b,is,vs,h,_,_,_=>by
  simp only[toPs,Option.some.injEq,Prod.mk.injEq] at h;obtain⟨rfl,_⟩:=h;exact⟨rfl,fun j d h=>by simp at h⟩
 |x::xs,ds,b,is,vs,h,hx,h1,h2=>by
  unfold toPs at h;split at h
  ·rename_i d b1 i1 ds1 b2 i2 e1 e2
   cases h;have hd:=sZ_ hr hhp (hx 0 x rfl) e1 I (fun k hk=>h1 k hk.or) fun i hi=>h2 i (by simp[hi]);obtain⟨g1,g2⟩:=nK_ hr hhp I (fun j=>vs (j+1)) e2 (fun j y hy=>hx (j+1) y (by simpa using hy)) (fun k hk=>h1 k hk.or') fun i hi=>h2 i (by simp[hi]);grind
  ·cases h
theorem toA_ok {hp:Hp}{x:AV}{u:Value}{d:DA}{b:Bool}{is:List Nat}(hr:HR g c)(hhp:c.hp=hp)(h:RAt g c x u)(hd:toA hp x=some (d,b,is))(I:Nat->Prop)(hI:∀k,Im g c b k->I k)
  (hI2:∀i∈is,I (c.φ i)):RVA c.w I d u:=by
 unfold toA at hd;split at hd
 ·rename_i f caps
  rw[Option.map_eq_some_iff] at hd;obtain⟨⟨ds,b',is'⟩,e1,e2⟩:=hd;simp only[Prod.mk.injEq] at e2;obtain⟨rfl,rfl,rfl⟩:=e2;cases(show RA g c (.fn f caps) u from h) with
  |fn _ _ us n hn hus=>
   obtain⟨g1,g2⟩:=nK_ hr hhp I us e1 hus hI hI2;exact⟨us,n,by omega,rfl,g2⟩
 ·rename_i id off
  rw[Option.map_eq_some_iff] at hd;obtain⟨⟨d',b',is'⟩,e1,e2⟩:=hd;simp only[Prod.mk.injEq] at e2;obtain⟨rfl,rfl,rfl⟩:=e2;have hc:=sZ_ hr hhp (show RA g c (.pt id off) u from h) e1 I hI hI2;show RV1 c.w I d' u;unfold RV1;split
  ·cases hc
  ·exact hc
 ·rw[Option.map_eq_some_iff] at hd
  obtain⟨⟨d',b',is'⟩,e1,e2⟩:=hd;simp only[Prod.mk.injEq] at e2;obtain⟨rfl,rfl,rfl⟩:=e2;exact(bC_ hr hhp I e1 h hI hI2).1
theorem nL_ {hp:Hp}(hr:HR g c)(hhp:c.hp=hp)(I:Nat->Prop):∀ {xs:List AV} {ds:List DA} {b:Bool} {is:List Nat} (us:Nat->Value),toAl hp xs=some (ds,b,is)->(∀(j:Nat) (x:AV),xs[j]? =some x->RAt g c x (us j))->
  (∀k,Im g c b k->I k)->(∀i∈is,I (c.φ i))->ds.length=xs.length/\∀(j:Nat) (d:DA),ds[j]? =some d->RVA c.w I d (us j)
 |[],ds,b,is,us,h,_,_,_=>by
  simp only[toAl,Option.some.injEq,Prod.mk.injEq] at h;obtain⟨rfl,_⟩:=h;exact⟨rfl,fun j d h=>by simp at h⟩
 |x::xs,ds,b,is,us,h,hx,h1,h2=>by
  unfold toAl at h;split at h
  ·rename_i d b1 i1 ds1 b2 i2 e1 e2
   cases h;have hd:=toA_ok hr hhp (hx 0 x rfl) e1 I (fun k hk=>h1 k hk.or) fun i hi=>h2 i (by simp[hi]);obtain⟨g1,g2⟩:=nL_ hr hhp I (fun j=>us (j+1)) e2 (fun j y hy=>hx (j+1) y (by simpa using hy)) (fun k hk=>h1 k hk.or') fun i hi=>h2 i (by simp[hi]);grind
  ·cases h
theorem nM_ {hp:Hp}{x:AV}{d:D}{b:Bool}{is:List Nat}(h:toP hp x=some (d,b,is)):∀i∈is,∃o,hp i=some o:=by
 unfold toP at h;split at h
 ·rename_i id off
  split at h
  ·rename_i cs hi
   rw[Option.map_eq_some_iff] at h;obtain⟨⟨ds,b',is'⟩,e1,e2⟩:=h;simp only[Prod.mk.injEq] at e2;obtain⟨rfl,rfl,rfl⟩:=e2;intro i h3;rcases List.mem_cons.1 h3 with rfl |h3
   ·exact⟨_,hi⟩
   ·obtain⟨es,sz,v,br,fz,h4⟩:=wH_ e1 i h3
    exact⟨_,h4⟩
  ·cases h
 ·intro i h3
  obtain⟨es,sz,v,fz,h4⟩:=vv_ h i h3;exact⟨_,h4⟩
theorem he_ {hp:Hp}:∀ {xs:List AV} {ds:List D} {b:Bool} {is:List Nat},toPs hp xs=some (ds,b,is)->∀i∈is,∃o,hp i=some o
 |[],ds,b,is,h=>by
  simp only[toPs,Option.some.injEq,Prod.mk.injEq] at h;obtain⟨_,_,rfl⟩:=h;simp
 |x::xs,ds,b,is,h=>by
  unfold toPs at h;split at h
  ·rename_i d b1 i1 ds1 b2 i2 e1 e2
   cases h;intro i hi;rcases List.mem_append.1 hi with h3 |h3
   ·exact nM_ e1 i h3
   ·exact he_ e2 i h3
  ·cases h
theorem co_ {hp:Hp}{x:AV}{d:DA}{b:Bool}{is:List Nat}(h:toA hp x=some (d,b,is)):∀i∈is,∃o,hp i=some o:=by
 unfold toA at h;split at h
 ·rw[Option.map_eq_some_iff] at h
  obtain⟨⟨ds,b',is'⟩,e1,e2⟩:=h;simp only[Prod.mk.injEq] at e2;obtain⟨rfl,rfl,rfl⟩:=e2;exact he_ e1
 ·rw[Option.map_eq_some_iff] at h
  obtain⟨⟨ds,b',is'⟩,e1,e2⟩:=h;simp only[Prod.mk.injEq] at e2;obtain⟨rfl,rfl,rfl⟩:=e2;exact nM_ e1
 ·rw[Option.map_eq_some_iff] at h
  obtain⟨⟨ds,b',is'⟩,e1,e2⟩:=h;simp only[Prod.mk.injEq] at e2;obtain⟨rfl,rfl,rfl⟩:=e2;intro i hi;obtain⟨es,sz,v,br,fz,h4⟩:=wI_ e1 i hi;exact⟨_,h4⟩
theorem hf_ {hp:Hp}:∀ {xs:List AV} {ds:List DA} {b:Bool} {is:List Nat},toAl hp xs=some (ds,b,is)->∀i∈is,∃o,hp i=some o
 |[],ds,b,is,h=>by
  simp only[toAl,Option.some.injEq,Prod.mk.injEq] at h;obtain⟨_,_,rfl⟩:=h;simp
 |x::xs,ds,b,is,h=>by
  unfold toAl at h;split at h
  ·rename_i d b1 i1 ds1 b2 i2 e1 e2
   cases h;intro i hi;rcases List.mem_append.1 hi with h3 |h3
   ·exact co_ e1 i h3
   ·exact hf_ e2 i h3
  ·cases h
theorem b5_ {f:FuncId}{as:List DA}{d:D}{fr:Bool}(h:InlOK P f (as.map DA.av) noHp 0 (EndP d fr)):PureA P f as d fr:=by
 refine⟨h.1,fun w M0 args hM hsz hargs=> ?_⟩;have hr:HR ⟨w.heap.size,M0,w.heap.size⟩ ⟨noHp,fun _=>0,w,fun _=>False⟩:=⟨Nat.le_refl _,hM,fun _ _ h=>by simp[noHp] at h,fun _ _ _ _ h=>by simp[noHp] at h,fun _ _ h=>by simp[noHp] at h⟩
 have hIm:∀k,(k<w.heap.size/\¬M0 k)->Im ⟨w.heap.size,M0,w.heap.size⟩ ⟨noHp,fun _=>0,w,fun _=>False⟩ true k:=fun k hk=>⟨hk.1,hk.2,fun _ _ h=>by simp[noHp] at h,by simp⟩
 refine(h.2 ⟨w.heap.size,M0,w.heap.size⟩ ⟨noHp,fun _=>0,w,fun _=>False⟩ args rfl (fun _ h=>h.elim) hr (by simpa using hsz) (fun j x hj=> ?_)).mono fun e w' ⟨u,v,c',nx',h1,⟨b,is,h2,h3⟩,h4,h5,h6,h7,_,_⟩=> ?_
 ·rw[List.getElem?_map,Option.map_eq_some_iff] at hj
  obtain⟨x,h1,rfl⟩:=hj;obtain⟨u,h2,h3⟩:=hargs j x h1;refine⟨u,h2,?_⟩;cases x with
  |d d=>
   have h4:RV1 w (Im ⟨w.heap.size,M0,w.heap.size⟩ ⟨noHp,fun _=>0,w,fun _=>False⟩ true) d u:=RV1.mono (fun _ _=>rfl) hIm h3;show RAt _ _ (lift true d) u;cases d with
   |ag cs=>exact h4
   |tu cs=>cases h4
   |v x=>exact(RC.toRA (c:=⟨noHp,fun _=>0,w,fun _=>False⟩) h4).toAt
   |sl x=>exact(RC.toRA (c:=⟨noHp,fun _=>0,w,fun _=>False⟩) h4).toAt
   |pt x y=>exact(RC.toRA (c:=⟨noHp,fun _=>0,w,fun _=>False⟩) h4).toAt
   |mp x=>exact(RC.toRA (c:=⟨noHp,fun _=>0,w,fun _=>False⟩) h4).toAt
  |fn f caps=>
   obtain⟨us,n,e1,rfl,e3⟩:=h3;show RA _ _ (.fn f (caps.map (lift true))) _;refine .fn f _ us n (by simpa using e1) fun j x hj=> ?_;rw[List.getElem?_map,Option.map_eq_some_iff] at hj;obtain⟨y,e4,rfl⟩:=hj;exact RC.toRA (c:=⟨noHp,fun _=>0,w,fun _=>False⟩) ((e3 j y e4).mono (fun _ _=>rfl) hIm)
 ·subst h4
  refine⟨u,h1,⟨⟨h5.os,h5.tape,h5.output,h5.size,fun k hk=>h5.block k hk fun id o ho=>by simp[noHp] at ho⟩,h5.drawn⟩,?_⟩;have hI:∀k,Im ⟨w.heap.size,M0,w.heap.size⟩ c' b k->k<c'.w.heap.size/\¬M0 k/\(fr=true->w.heap.size<=k):=fun k hk=>⟨hk.1,hk.2.1,fun hf=>hk.2.2.2 (h3 hf)⟩
  have hrow:∀i,(∃es sz v br fz,c'.hp i=some (.rw es sz v br fz))->c'.φ i<c'.w.heap.size/\¬M0 (c'.φ i)/\(fr=true->w.heap.size<=c'.φ i):=fun i ⟨es,sz,v,br,fz,hi⟩=>by
   obtain⟨_,g1,g2⟩:=h6.dom i _ hi;exact⟨g2,g1.2,fun _=>g1.1⟩
  unfold toR at h2;split at h2
  ·rename_i cs
   rw[Option.map_eq_some_iff] at h2;obtain⟨⟨ds',b',is'⟩,e1,e2⟩:=h2;simp only[Prod.mk.injEq] at e2;obtain⟨rfl,rfl,rfl⟩:=e2;obtain⟨vs,hv,hn,hc⟩:=h7
   obtain⟨g1,g2⟩:=yt_ h6 rfl (fun k=>k<c'.w.heap.size/\¬M0 k/\(fr=true->w.heap.size<=k)) (fun j=>vs.getD j undef) e1 (wJ_ fun j x hj=>let ⟨y,k1,k2⟩:=hc j x hj;⟨y,k1,k2.toAt⟩) hI fun i hi=>hrow i (vw_ e1 i hi);refine⟨vs,hv,by omega,fun j x hj=>⟨_,k1_ (by grind),(g2 j x hj).1⟩⟩
  ·obtain⟨g1,g2,_⟩:=bC_ h6 rfl (fun k=>k<c'.w.heap.size/\¬M0 k/\(fr=true->w.heap.size<=k)) h2 h7 hI fun i hi=>hrow i (wI_ h2 i hi)
   cases d with
   |tu ds=>exact absurd rfl (g2 ds)
   |_=>exact g1
theorem kC_ {f:FuncId}{vs:List AV}{hp:Hp}{nx:Nat}{as:List DA}{b:Bool}{is:List Nat}{d:D}{fr:Bool}(hd:toAl hp vs=some (as,b,is))(hp0:PureA P f as d fr)(hi:is= []\/fr=true):
  InlOK P f vs hp nx fun v2 hp2 nx2=>v2=lift (!fr&&b) d/\hp2=hp/\nx2=nx:=by
 refine⟨hp0.1,fun g c vals hhp hkn hr hsz hall=> ?_⟩;obtain⟨_,hp0⟩:=hp0;have hgo:∀(I:Nat->Prop),(∀k,Im g c b k->I k)->(∀i∈is,I (c.φ i))->vals.size=as.length/\∀(j:Nat) (x:DA),as[j]? =some x->∃u,vals[j]? =some u/\RVA c.w I x u:=by
  intro I h1 h2;obtain⟨g1,g2⟩:=nL_ hr hhp I (fun j=>vals.getD j undef) hd (wJ_ hall) h1 h2;refine⟨by omega,fun j x hj=>⟨_,k1_ (by grind),g2 j x hj⟩⟩
 have fin:∀(I:Nat->Prop) (u:Value) (w':World),Below c.w.heap.size c.w w'/\c.w.drawn<=w'.drawn->RV w' I d u->(∀k,I k->k<w'.heap.size/\(c.w.heap.size<=k\/Im g c (!fr&&b) k))->
   ∃u' v c' nx',Ending.returned u= .returned u'/\(v=lift (!fr&&b) d/\c'.hp=hp/\nx'=nx)/\c'.w=w'/\Ext c c'/\HR g c'/\RAt g c' v u'/\nx<=nx'/\∀i,c'.kn i->c.kn i\/(nx<=i/\i<nx'):=by
  intro I u w' ⟨hb,hdr⟩ hv hI;have he:Ext c ⟨c.hp,c.φ,w',c.kn⟩:=⟨hb.os,hb.tape,hb.output,hb.size,fun _ h=>h,fun k hk _=>hb.block k hk,fun id o ho hf=>.inr ⟨o,ho,hf,rfl⟩,fun _ _ h=>⟨rfl,h⟩,
   fun id es _ v br fz hk hr=>⟨es,v,br,fz,hr,Nat.le_refl _,fun _=>⟨rfl,rfl,fun cur _ e=>⟨cur,(hb.block _ (‹HR g c›.dom id _ hr).2.2).trans e,rfl⟩⟩⟩,hdr⟩
  have hr':HR g ⟨c.hp,c.φ,w',c.kn⟩:=⟨Nat.le_trans hr.le hb.size,fun k hk=>Nat.lt_of_lt_of_le (hr.m0 k hk) hb.size,fun id o ho=>⟨(hr.dom id o ho).1,(hr.dom id o ho).2.1,Nat.lt_of_lt_of_le (hr.dom id o ho).2.2 hb.size⟩,hr.inj,fun id o ho=>(hr.obj id o ho).ext he rfl (hb.block _ (hr.dom id o ho).2.2)⟩
  refine⟨u,_,⟨c.hp,c.φ,w',c.kn⟩,nx,rfl,⟨rfl,hhp,rfl⟩,rfl,he,hr',?_,Nat.le_refl _,fun i h=>.inl h⟩;have hv2:RV w' (Im g ⟨c.hp,c.φ,w',c.kn⟩ (!fr&&b)) d u:=hv.mono (fun _ _=>rfl) fun k hk=>by
   obtain⟨h1,h2⟩:=hI k hk;rcases h2 with h2 |h2
   ·refine⟨h1,fun hm=> ?_,fun id o ho _ e=> ?_,fun _=>Nat.le_trans hr.le h2⟩
    ·have:=hr.m0 k hm
     have:=hr.le
     omega
    ·have:=(hr.dom id o ho).2.2
     simp only at e;omega
   ·exact h2.ext he
  cases d with
  |v x=>exact(RC.toRA (c:=⟨c.hp,c.φ,w',c.kn⟩) hv2).toAt
  |sl es=>exact(RC.toRA (c:=⟨c.hp,c.φ,w',c.kn⟩) hv2).toAt
  |pt cs off=>exact(RC.toRA (c:=⟨c.hp,c.φ,w',c.kn⟩) hv2).toAt
  |mp es=>exact(RC.toRA (c:=⟨c.hp,c.φ,w',c.kn⟩) hv2).toAt
  |ag cs=>exact hv2
  |tu cs=>exact hv2
 by_cases hfr:fr=true
 ·subst hfr
  obtain⟨q1,q2⟩:=hgo (fun k=>k<c.w.heap.size/\¬False) (fun k hk=>⟨hk.1,fun h=>h⟩) (fun i hi=>by
   obtain⟨o,h1⟩:=hf_ hd i hi;exact⟨(hr.dom i _ (hhp▸h1)).2.2,fun h=>h⟩)
  refine(hp0 c.w (fun _=>False) vals (fun _ h=>h.elim) q1 q2).mono fun e w' ⟨u,he,hb,hv⟩=> ?_;subst he;exact fin _ u w' hb hv fun k hk=>⟨hk.1,.inl (hk.2.2 rfl)⟩
 ·have h0:is= []:=by
   rcases hi with hi |hi
   ·exact hi
   ·exact absurd hi hfr
  subst h0;have hfr2:fr=false:=by simpa using hfr
  subst hfr2;obtain⟨q1,q2⟩:=hgo (fun k=>k<c.w.heap.size/\¬(k<c.w.heap.size/\¬Im g c b k)) (fun k hk=>⟨hk.1,fun h=>h.2 hk⟩) (fun i hi=>by simp at hi);refine(hp0 c.w (fun k=>k<c.w.heap.size/\¬Im g c b k) vals (fun _ h=>h.1) q1 q2).mono fun e w' ⟨u,he,hb,hv⟩=> ?_;subst he;refine fin _ u w' hb hv fun k hk=>⟨hk.1,?_⟩;grind
theorem b6_ {f:FuncId}{vs:List AV}{hp:Hp}{nx:Nat}{as:List DA}{b:Bool}{is:List Nat}{d:D}{fr:Bool}(ids:List Nat)(hd:∀hp1:Hp,(∀i∈ids,hp1 i=hp i)->toAl hp1 vs=some (as,b,is))(hp0:PureA P f as d fr)(hi:is= []\/fr=true):
  m4_ P f vs hp nx ids (lift (!fr&&b) d) [] nx:=fun hp1 h1=>(kC_ (hd hp1 h1.1) hp0 hi).mono fun _ _ _ ⟨e1,e2,e3⟩=>⟨e1,e2,e3⟩
section
variable {ops:Array Oper}{nx0 nx i:Nat}{k:List It}{Q:Ex->St->Prop}{r:List Oper}{s:St}{dst:Option Nat}{acc:List Rec}{fr:Fr}{hp:Hp}{ids:List Nat}
theorem kD_ {g:FuncId}{caps vs:List AV}{as:List DA}{b:Bool}{is:List Nat}{d:D}{f:Bool}(h1:toAl s.hp (vs++caps)=some (as,b,is))(h2:PureA P g as d f)(h3:is= []\/f=true)(h:Rt P tab ops nx0 k Q i r ⟨putS dst (lift (!f&&b) d) s.fr,s.hp,s.nx⟩):
  wf_ P tab ops nx0 k Q i r dst s (.fn g caps) vs:=qe_ ((kC_ h1 h2 h3).mono fun v2 hp2 nx2 hq=>by
 obtain⟨rfl,rfl,rfl⟩:=hq;exact h)
theorem ve_ {g:FuncId}{caps vs:List AV}{as:List DA}{b:Bool}{is:List Nat}{d:D}{f:Bool}(ids':List Nat)(h1:∀hp1:Hp,(∀i∈ids',hp1 i=hp i)->toAl hp1 (vs++caps)=some (as,b,is))(h2:PureA P g as d f)(h3:is= []\/f=true)(h:Rd P tab ops nx0 nx k Q i r (⟨ids',[],true⟩::acc) (putS dst (lift (!f&&b) d) fr) hp):
  vz_ P tab ops nx0 nx k Q i r dst acc ids fr hp (.fn g caps) vs:=q3_ (b6_ ids' h1 h2 h3) h
end
theorem h6_ (ht:TabOk P tab){f:FuncId}{fn:Func}{code:Code}(hf:P.funcs[f]? =some fn)(hb:fn.body=some code)(hname:(fn.name== "runtime.NumGoroutine")=false)(hd:jK_ fn.ntmps code=true){as:List DA}{d:D}{fresh:Bool}
  (hlen:as.length<=fn.ntmps) (h:runR 0 P [.c code] (EndW tab fn.results (EndP d fresh)) ⟨frOf (as.map DA.av),noHp,0⟩):PureA P f as d fresh:=
 b5_ (qX_ ht hf hb hname hd (by simpa using hlen) h)
end
attribute [go_sem] toAl toPs DA.av
section
variable (hp:Hp)(b c:Bool)(x:List (List D))(y:List D)(o n i v:Nat)(cs:List AV)(f:FuncId)(e:Value)
@[go_sem] theorem toA_fn:toA hp (.fn f cs)=(toPs hp cs).map fun(ds,b,is)=>(.fn f ds,b,is):=rfl
@[go_sem] theorem toA_pt:toA hp (.pt i o)=(toP hp (.pt i o)).map fun(d,b,is)=>(.d d,b,is):=rfl
@[go_sem] theorem toA_v:toA hp (.v e)=(toD1 hp (.v e)).map fun(d,b,is)=>(.d d,b,is):=rfl
@[go_sem] theorem toA_ag:toA hp (.ag cs)=(toD hp (.ag cs)).map fun(d,b,is)=>(.d d,b,is):=rfl
@[go_sem] theorem toA_so:toA hp (.so i v o n)=(toD1 hp (.so i v o n)).map fun(d,b,is)=>(.d d,b,is):=rfl
@[go_sem] theorem toP_pt:toP hp (.pt i o)=match hp i with
  |some (.bx cs)=>(toDs hp cs).map fun(ds,b,is)=>(.pt ds o,b,i::is)
  |_=>none:=rfl
end
def sl (n:Int)(k:Nat):Int:=n*2^(min k 64)
@[go_sem ↓ high] theorem binV_shrU (a b:Int)(k:IntKind):binV .shr (.int .u64 a) (.int k b)=if b<0 then none else some (.int .u64 (sh a b.toNat)):=rfl
def xj_ {α S X:Type}(f:S->α->(S->Option X)->Option X)(e:S->Option X):List α->S->Option X
 |[],st=>e st
 |x::r,st=>f st x (xj_ f e r)
theorem vC_ {α:Type}(xs:List α)(k:Nat):idx xs (k:Int)=xs[k]? :=by simp[idx]
theorem xb_ {α S X:Type}(L:Nat->S->Int->Option X)(xs:List α)(f:S->α->(S->Option X)->Option X)(e:S->Option X)
  (h:∀c st i,L (c+1) st i=if decide (i<(xs.length:Int)) then(idx xs i).bind fun x=>f st x fun st'=>L c st' (IntKind.i64.wrap (i+1)) else e st) (hx:xs.length<4611686018427387904):
  ∀(c:Nat) (st:S) (k:Nat),k<=xs.length->xs.length-k<c->L c st (k:Int)=xj_ f e (xs.drop k) st
 |0,_,_,_,hc=>by omega
 |c+1,st,k,hk,hc=>by
  rw[h];by_cases hlt:k<xs.length
  ·have e1:decide ((k:Int)<(xs.length:Int))=true:=ha_ hlt
   rw[e1,if_pos rfl,vC_,List.getElem?_eq_getElem hlt,List.drop_eq_getElem_cons hlt];simp only[Option.bind_some,xj_];congr 1
   funext st';rw[v1_ (by omega)];exact xb_ L xs f e h hx c st' (k+1) (by omega) (by omega)
  ·have e1:decide ((k:Int)<(xs.length:Int))=false:=fg_ (by omega)
   rw[e1,if_neg (by simp),List.drop_eq_nil_of_le (by omega)];rfl
def accD (id sz:Nat)(b:Bool):List (List D)->List (Nat × AO)
 |[]=>[]
 |e::r=>[(id,.rw (e::r) sz 0 b false)]
theorem nN_ {id sz:Nat}{b:Bool}{es:List (List D)}{hp:Hp}(h:hp id=none):upds (accD id sz b es) hp=upd id (accO sz 0 b es) hp:=by
 cases es with
 |nil=>
  show hp=upd id none hp;funext j;unfold upd;grind
 |cons e r=>rfl
@[go_sem] theorem appN_if {α:Type}{f:α->List D}{xs:List α}{nid sz:Nat}{b:Bool}:(if xs.length=0 then some (AV.v (.slice none 0 0),([]:List (Nat × AO))) else some (.so nid 0 0 xs.length,[(nid,.rw (List.map f xs) sz 0 b false)]))=some (accV nid 0 (List.map f xs),accD nid sz b (List.map f xs)):=by
 cases xs with
 |nil=>rfl
 |cons x r=>simp[accV,accD]
attribute [go_sem] nN_
end
section
open Go.RowKit
section
variable {K V:Type}[BEq K]
def mget (k:K):List (K × V)->Option V
 |[]=>none
 |p::r=>if k==p.1 then some p.2 else mget k r
def mset (k:K)(v:V):List (K × V)->List (K × V)
 |[]=>[(k,v)]
 |p::r=>if k==p.1 then(k,v)::r else p::mset k v r
def mhas (k:K)(m:List (K × V)):Bool:=(mget k m).isSome
def qk_ (k:K)(z:V)(m:List (K × V)):V:=(mget k m).getD z
end
def KeyE {K:Type}[BEq K](q:Bool × List TK)(kv:K->Value):Prop:=∀a b,yo_ q (kv a) (kv b)=some (a==b)
theorem vf_:KeyE (false,[.string]) Value.string:=fun _ _=>rfl
def encM {K V:Type}(kv:K->Value)(ev:V->AV)(m:List (K × V)):List (Value × AV):=m.map fun p=>(kv p.1,ev p.2)
section
variable {K V:Type}[BEq K]{q:Bool × List TK}{kv:K->Value}{ev:V->AV}
theorem xS_ (hk:KeyE q kv)(k:K):∀m:List (K × V),∃o,jw_ q (kv k) (encM kv ev m)=some o/\(∀v,mget k m=some v->∃i,o=some (i,ev v)/\∀v',(encM kv ev m).set i (kv k,ev v')=encM kv ev (mset k v' m))/\(mget k m=none->o=none/\∀v',mset k v' m=m++[(k,v')])
 |[]=>⟨none,rfl,(fun v h=>by cases h),fun _=>⟨rfl,fun _=>rfl⟩⟩
 |p::r=>by
  obtain⟨o,h1,h2,h3⟩:=xS_ hk k r;have e:encM kv ev (p::r)=(kv p.1,ev p.2)::encM kv ev r:=rfl;rw[e];unfold jw_;rw[hk k p.1];cases hb:(k==p.1)
  ·simp only[h1]
   have g:mget k (p::r)=mget k r:=by simp[mget,hb]
   have g2:∀v',mset k v' (p::r)=p::mset k v' r:=fun v'=>by simp[mset,hb]
   cases hm:mget k r with
   |none=>
    grind
   |some v=>
    obtain⟨i,e1,e2⟩:=h2 v hm;subst e1;refine⟨some (i+1,ev v),rfl,fun v0 h=> ?_,fun h=> ?_⟩
    ·rw[g,hm] at h
     cases h;refine⟨i+1,rfl,fun v'=> ?_⟩;rw[g2,List.set_cons_succ,e2];rfl
    ·rw[g,hm] at h;cases h
  ·have g:mget k (p::r)=some p.2:=by simp[mget,hb]
   have g2:∀v',mset k v' (p::r)=(k,v')::r:=fun v'=>by simp[mset,hb]
   refine⟨some (0,ev p.2),rfl,fun v h=> ?_,fun h=> ?_⟩
   ·rw[g] at h
    cases h;refine⟨0,rfl,fun v'=> ?_⟩;rw[g2];rfl
   ·rw[g] at h;cases h
theorem k8_ (hk:KeyE q kv)(k:K)(v:V)(m:List (K × V)):mput q (kv k) (ev v) (encM kv ev m)=some (encM kv ev (mset k v m)):=by
 obtain⟨o,h1,h2,h3⟩:=xS_ (ev:=ev) hk k m;unfold mput;rw[h1];cases hm:mget k m with
 |none=>
  obtain⟨e1,e2⟩:=h3 hm;subst e1;simp only[e2];simp[encM]
 |some w=>
  grind
def j6_ (q:Bool × List TK)(kv:Value)(z:AV)(ok:Bool)(es:List (Value × AV)):Option (AV × List (Nat × AO)):=
 match jw_ q kv es with
 |some none=>some (if ok then .tu [z,.v (.bool false)] else z,[])
 |some (some (_,v))=>some (if ok then .tu [v,.v (.bool true)] else v,[])
 |none=>none
theorem z2_ (hk:KeyE q kv)(k:K)(z:V)(ok:Bool)(m:List (K × V)):j6_ q (kv k) (ev z) ok (encM kv ev m)=some (if ok then .tu [ev (qk_ k z m),.v (.bool (mhas k m))] else ev (qk_ k z m),[]):=by
 obtain⟨o,h1,h2,h3⟩:=xS_ (ev:=ev) hk k m;unfold j6_;rw[h1];cases hm:mget k m with
 |none=>
  obtain⟨e1,e2⟩:=h3 hm;subst e1;simp[qk_,mhas,hm]
 |some w=>
  obtain⟨i,e1,e2⟩:=h2 w hm;subst e1;simp[qk_,mhas,hm]
end
def lookO (q:Option (Bool × List TK))(kv:Option Value)(z:Option AV)(zx:Bool->AV)(x:AV)(hp:Hp)(ok:Bool):Option (AV × List (Nat × AO)):=
 match q,kv,z with
 |some q,some kv,some z=>if xQ_ q kv then match x with
  | .mo i=>match hp i with
   |some (.mo es _)=>j6_ q kv z ok es
   |_=>none
  | .d (.mp es) b=>j6_ q kv (zx b) ok (xt_ b es)
  | .v (.map none)=>some (if ok then .tu [z,.v (.bool false)] else z,[])
  |_=>none else none
 |_,_,_=>none
@[go_sem ↓ high] theorem cp_ {tab:Nat->TI}(ρ:Operand->AV)(hp:Hp)(id T:Nat)(x k:Operand)(ok:Bool):ql_ tab ρ hp id (.lookup T x k ok)=lookO (tab T).mkey (keyA (ρ k)) (wk_ (tab (tab T).elem)) (fun b=>uK_ b (tab (tab T).elem)) (ρ x) hp ok:=rfl
@[go_sem] theorem lookO_mo (q:Bool × List TK)(kv:Value)(z:AV)(zx:Bool->AV)(i:Nat)(hp:Hp)(ok:Bool):lookO (some q) (some kv) (some z) zx (.mo i) hp ok=if xQ_ q kv then(match hp i with
  |some (.mo es _)=>j6_ q kv z ok es
  |_=>none) else none:=rfl
@[go_sem] theorem lookO_mp (q:Bool × List TK)(kv:Value)(z:AV)(zx:Bool->AV)(es:List (Value × Bool × List D))(b:Bool)(hp:Hp)(ok:Bool):lookO (some q) (some kv) (some z) zx (.d (.mp es) b) hp ok=if xQ_ q kv then j6_ q kv (zx b) ok (xt_ b es) else none:=rfl
def putO (q:Option (Bool × List TK))(kv:Option Value)(v x:AV)(hp:Hp):Option (AV × List (Nat × AO)):=
 match q,kv with
 |some q,some kv=>if xQ_ q kv/\isV1 v then match x with
  | .mo i=>match hp i with
   |some (.mo es dl)=>(mput q kv v es).map fun es'=>(.un,[(i,.mo es' dl)])
   |_=>none
  |_=>none else none
 |_,_=>none
@[go_sem ↓ high] theorem ax_ {tab:Nat->TI}(ρ:Operand->AV)(hp:Hp)(id T:Nat)(m k x:Operand):ql_ tab ρ hp id (.mapUpdate T m k x)=putO (tab T).mkey (keyA (ρ k)) (ρ x) (ρ m) hp:=rfl
@[go_sem] theorem putO_mo (q:Bool × List TK)(kv:Value)(v:AV)(i:Nat)(hp:Hp):putO (some q) (some kv) v (.mo i) hp=if xQ_ q kv/\isV1 v then(match hp i with
  |some (.mo es dl)=>(mput q kv v es).map fun es'=>(.un,[(i,.mo es' dl)])
  |_=>none) else none:=rfl
attribute [go_sem] xQ_ wf1 wfK
abbrev vI (v:Int):AV:=.v (.int .i64 v)
section
variable (k z v:ByteArray)(i j:Int)(b:Bool)(ok:Bool)
@[go_sem] theorem look_sI (m:List (ByteArray × Int)):j6_ (false,[.string]) (.string k) (.v (.int .i64 i)) ok (encM .string vI m)=some (if ok then .tu [.v (.int .i64 (qk_ k i m)),.v (.bool (mhas k m))] else .v (.int .i64 (qk_ k i m)),[]):=z2_ (ev:=vI) vf_ k i ok m
@[go_sem] theorem put_sI (m:List (ByteArray × Int)):mput (false,[.string]) (.string k) (.v (.int .i64 j)) (encM .string vI m)=some (encM .string vI (mset k j m)):=k8_ (ev:=vI) vf_ k j m
end
end
end Go.Proofs.YtnmkbmefohakmaaGreat.Ab
