/-
 Functions read off the code.
-/
import Derived.Test.YtnmkbmefohakmaaGreatAbI
set_option linter.all false
namespace Go.Proofs.YtnmkbmefohakmaaGreat.Ab
section
open Go.RowKit
def C4 {α:Type}(xs:List α)(i:Int):Option α:=if 0<=i then xs[i.toNat]? else none
def G6 {α:Type}(xs:List α)(lo hi:Int):Option (List α):=if 0<=lo/\lo<=hi/\hi<=xs.length then some ((xs.take hi.toNat).drop lo.toNat) else none
def Jd (s:ByteArray)(lo hi:Int):Option ByteArray:=if 0<=lo/\lo<=hi/\hi<=s.size then some (s.extract lo.toNat hi.toNat) else none
def Do (s:ByteArray)(i:Int):Option Int:=if 0<=i then(s[i.toNat]?).map fun b=>(b.toNat:Int) else none
def EH (a b:ByteArray):Option ByteArray:=if a.size+b.size<=maxLen then some (a++b) else none
def EA {α:Type}(xs ys:List α):Option (List α):=if xs.length+ys.length<=4294967296 then some (xs++ys) else none
def DD {β:Type}(c:Bool)(k:Option β):Option β:=if c then k else none
theorem CM {β:Type}{c:Bool}{a b:Option β}{r:β}(h:(if c then a else b)=some r):(c=true/\a=some r)\/(c=false/\b=some r):=by
 cases c
 ·exact .inr ⟨rfl,h⟩
 exact .inl ⟨rfl,h⟩
theorem Ev {β:Type}{c:Bool}{a:Option β}{r:β}(h:DD c a=some r):c=true/\a=some r:=by
 cases c
 ·cases h
 exact⟨rfl,h⟩
theorem AJ {α β:Type}{a:Option α}{f:α->Option β}{r:β}(h:a.bind f=some r):∃x,a=some x/\f x=some r:=by
 cases a with
 |none=>cases h
 |some x=>exact⟨x,rfl,h⟩
theorem Je {α:Type}{xs:List α}{i:Int}{x:α}(h:C4 xs i=some x):0<=i/\xs[i.toNat]? =some x:=by
 unfold C4 at h;split at h
 ·exact⟨‹_›,h⟩
 cases h
theorem Cx {i:Int}(k:IntKind)(h:0<=i):D8 (.v (.int k i))=some i.toNat:=by simp[D8,V3,h]
theorem Cs {α β:Type}{xs:List α}{k:Nat}{x:α}(f:α->β)(h:xs[k]? =some x):(xs.map f)[k]? =some (f x):=by simp[h]
theorem GW {α:Type}{xs:List α}{k:Nat}{x:α}(h:xs[k]? =some x):k<xs.length:=(Lb.1 h).1
theorem Wt {α:Type}{xs ys:List α}{lo hi:Int}(h:G6 xs lo hi=some ys):0<=lo/\lo<=hi/\hi<=xs.length/\ys=(xs.take hi.toNat).drop lo.toNat:=by
 unfold G6 at h;split at h
 ·rename_i c;simp only[Le] at h;exact⟨c.1,c.2.1,c.2.2,h.symm⟩
 cases h
theorem qo {s t:ByteArray}{lo hi:Int}(h:Jd s lo hi=some t):0<=lo/\lo<=hi/\hi<=s.size/\t=s.extract lo.toNat hi.toNat:=by
 unfold Jd at h;split at h
 ·rename_i c;simp only[Le] at h;exact⟨c.1,c.2.1,c.2.2,h.symm⟩
 cases h
theorem Jf {s:ByteArray}{i x:Int}(h:Do s i=some x):0<=i/\∃b,s[i.toNat]? =some b/\x=(b.toNat:Int):=by
 unfold Do at h;split at h
 ·obtain⟨b,h1,h2⟩:=La.1 h;exact⟨‹_›,b,h1,h2.symm⟩
 cases h
theorem Ew {a b t:ByteArray}(h:EH a b=some t):a.size+b.size<=maxLen/\a++b=t:=by
 unfold EH at h;split at h
 ·simp only[Le] at h;exact⟨‹_›,h⟩
 cases h
theorem G7 {α:Type}{xs ys zs:List α}(h:EA xs ys=some zs):xs.length+ys.length<=4294967296/\xs++ys=zs:=by
 unfold EA at h;split at h
 ·simp only[Le] at h;exact⟨‹_›,h⟩
 cases h
theorem GX {α β:Type}{xs ys zs:List α}(f:α->β)(h:xs++ys=zs):xs.map f++ys.map f=zs.map f:=by rw[<-h,Na]
theorem GY {α:Type}{xs ys zs:List α}(h:xs++ys=zs):xs.length+ys.length=zs.length:=by rw[<-h,Lf]
theorem K4 {α:Type}{n:Nat}{f:α->List D}(h:∀x,(f x).length=n)(xs:List α):ED n (xs.map f)=true:=by simp[ED,h]
def lk (n:Nat)(L:List (Nat × Nat))(i:Nat):Option Nat:=if Nat.blt i n then some i else match L.find? (fun p=>Nat.beq p.1 i) with
 |some p=>some p.2
 |none=>none
def SQ (n N:Nat):List (Nat × Nat)->Bool
 |[]=>true
 |(a,b)::r=>Nat.ble n a&&Nat.ble n b&&Nat.blt a N&&r.all (fun p=> !Nat.beq p.1 a&& !Nat.beq p.2 b)&&SQ n N r
theorem gT {L:List (Nat × Nat)}{i:Nat}{p:Nat × Nat}(h:L.find? (fun p=>Nat.beq p.1 i)=some p):p∈L/\p.1=i:=
 ⟨List.mem_of_find?_eq_some h,by have:=List.find?_some h;simpa using this⟩
theorem Mk {n N:Nat}:∀ {L:List (Nat × Nat)},SQ n N L=true->∀p∈L,n<=p.1/\n<=p.2/\p.1<N/\∀q∈L,q.2=p.2->q.1=p.1
 |[],_,p,hp=>by simp at hp
 |(a,b)::r,h,p,hp=>by
  simp only[SQ,Li,Br,LL,NT] at h;obtain⟨⟨⟨⟨h1,h2⟩,h3⟩,h4⟩,h5⟩:=h;rcases Lm.1 hp with rfl |hp
  ·refine⟨h1,h2,h3,fun q hq e=> ?_⟩;rcases Lm.1 hq with rfl |hq
   ·rfl
   have h6:=(h4 q hq).2;have e':q.2=b:=e;rw[e'] at h6;simp at h6
  obtain⟨g1,g2,g3,g4⟩:=Mk h5 p hp;refine⟨g1,g2,g3,fun q hq e=> ?_⟩;rcases Lm.1 hq with rfl |hq
  ·have h6:=(h4 p hp).2;have e':b=p.2:=e;rw[<-e'] at h6;simp at h6
  exact g4 q hq e
theorem QB {n N nx:Nat}{fr' fr:Fr}{hp' hp:Hp}(L:List (Nat × Nat))(h1:(Nat.ble n N&&SQ n N L)=true)(h2:∀t,fr' t= .un\/CK (lk n L) (fr' t)=some (fr t))(h3:∀i o,hp' i=some o->∃j o',lk n L i=some j/\CP (lk n L) o=some o'/\hp j=some o'):A6 n ⟨fr',hp',N⟩ ⟨fr,hp,nx⟩:=by
 rw[Li,Br] at h1;obtain⟨h0,h1⟩:=h1;have old:∀i,i<n->lk n L i=some i:=fun i hi=>by
  unfold lk;rw[if_pos (by simpa using hi)]
 have new:∀i j,n<=i->lk n L i=some j->(i,j)∈L:=fun i j hi h=>by
  unfold lk at h;rw[if_neg (by simpa using hi)] at h;split at h
  ·rename_i p hp;obtain⟨e1,e2⟩:=gT hp;simp only[Le] at h;rw[<-e2,<-h];exact e1
  cases h
 refine .ren (lk n L) ⟨old,fun i j hi h=> ?_,fun i i' j e1 e2=> ?_,h2,h3,h0⟩
 ·obtain⟨g1,g2,g3,_⟩:=Mk h1 _ (new i j hi h);exact⟨g2,g3⟩
 by_cases hi:i<n<;>by_cases hi':i'<n
 ·rw[old i hi] at e1;rw[old i' hi'] at e2;cases e1;cases e2;rfl
 ·rw[old i hi] at e1;cases e1
  have:=(Mk h1 _ (new i' i (by omega) e2)).2.1;simp only at this;omega
 ·rw[old i' hi'] at e2;cases e2
  have:=(Mk h1 _ (new i i' (by omega) e1)).2.1;simp only at this;omega
 exact(Mk h1 _ (new i' j (by omega) e2)).2.2.2 _ (new i j (by omega) e1) rfl
theorem Ml {ρ:Nat->Option Nat}(fr:Fr):∀t,AQ t= .un\/CK ρ (AQ t)=some (fr t):=fun _=>.inl rfl
theorem Wu {ρ:Nat->Option Nat}{fr' fr:Fr}{k:Nat}{x:AV}(h:CK ρ x=some (fr k))(hw:∀t,fr' t= .un\/CK ρ (fr' t)=some (fr t)):∀t,upd k x fr' t= .un\/CK ρ (upd k x fr' t)=some (fr t):=fun t=>by
 unfold upd;split
 ·rename_i e;subst e;exact .inr h
 exact hw t
theorem qp (ρ:Nat->Option Nat):Dv ρ []=some []:=rfl
theorem Zr {ρ:Nat->Option Nat}{x y:AV}{xs ys:List AV}(h:CK ρ x=some y)(hs:Dv ρ xs=some ys):Dv ρ (x::xs)=some (y::ys):=by simp only[Dv,h,hs]
theorem qq {ρ:Nat->Option Nat}{cs ds:List AV}(h:Dv ρ cs=some ds):CP ρ (.bx cs)=some (.bx ds):=by simp only[CP,h,LO]
theorem Mm {ρ:Nat->Option Nat}(hp:Hp):∀i o,AS i=some o->∃j o',ρ i=some j/\CP ρ o=some o'/\hp j=some o':=fun _ _ h=>by cases h
theorem K5 {ρ:Nat->Option Nat}{hp' hp:Hp}{k:Nat}{x:Option AO}(h:∀o,x=some o->∃j o',ρ k=some j/\CP ρ o=some o'/\hp j=some o')(hw:∀i o,hp' i=some o->∃j o',ρ i=some j/\CP ρ o=some o'/\hp j=some o'):∀i o,upd k x hp' i=some o->∃j o',ρ i=some j/\CP ρ o=some o'/\hp j=some o':=fun i o=>by
 unfold upd;split
 ·rename_i e;subst e;exact h o
 exact hw i o
theorem SR {ρ:Nat->Option Nat}{hp:Hp}{k j:Nat}{o o':AO}(h1:ρ k=some j)(h2:CP ρ o=some o')(h3:hp j=some o'):∀p,some o=some p->∃j o',ρ k=some j/\CP ρ p=some o'/\hp j=some o':=fun p e=>by
 cases e;exact⟨j,o',h1,h2,h3⟩
theorem gU {ρ:Nat->Option Nat}{id j ver:Nat}{es:List (List D)}(h:ρ id=some j):CK ρ (Aa id ver es)=some (Aa j ver es):=by
 cases es with
 |nil=>rfl
 |cons e r=>simp only[Aa,CK,h];rfl
theorem gV {ρ:Nat->Option Nat}{hp:Hp}{id j sz ver:Nat}{br:Bool}{es:List (List D)}(h1:ρ id=some j)(h2:hp j=CD sz ver br es):∀p,CD sz ver br es=some p->∃j o',ρ id=some j/\CP ρ p=some o'/\hp j=some o':=fun p e=>by
 refine⟨j,p,h1,?_,by rw[h2,e]⟩;cases es with
 |nil=>cases e
 |cons e0 r=>simp only[CD,Le] at e;subst e;rfl
def IH (k:TK)(x:AV):Option (AV × List (Nat × AO)):=match k,x with
 | .slice,.d (.sl es) _=>some (.v (.int .i64 es.length),[])
 | .slice,.so _ _ _ n=>some (.v (.int .i64 n),[])
 | .slice,.v (.slice none 0 0)=>some (.v (.int .i64 0),[])
 | .string,.v (.string s)=>some (.v (.int .i64 s.size),[])
 |_,_=>none
@[go_sem ↓ high] theorem xi {tab:Nat->TI}(ρ:Operand->AV)(hp:Hp)(id:Nat)(x:Operand)(T:TypeId):CB tab ρ hp id (.call { callee:=.builtin .len,args:= #[x],argTypes:= #[T] })=IH (tab T).kind (ρ x):=rfl
@[go_sem] theorem Zs (es:List (List D))(b:Bool):IH .slice (.d (.sl es) b)=some (.v (.int .i64 es.length),[]):=rfl
@[go_sem] theorem Wv (i v o n:Nat):IH .slice (.so i v o n)=some (.v (.int .i64 n),[]):=rfl
@[go_sem] theorem UH:IH .slice (.v (.slice none 0 0))=some (.v (.int .i64 0),[]):=rfl
@[go_sem] theorem UI (s:ByteArray):IH .string (.v (.string s))=some (.v (.int .i64 s.size),[]):=rfl
@[go_sem] theorem UJ (id ver:Nat)(es:List (List D)):IH .slice (Aa id ver es)=some (.v (.int .i64 es.length),[]):=by cases es<;>rfl
def FM (o:Option AO)(ver id:Nat):List (List D)->Option (D × Bool × List Nat)
 |[]=>some (.sl [],false,[])
 |_::r=>match o with
  |some (.rw es _ v br _)=>if v=ver then some (.sl (es.take (r.length+1)),br,[id]) else none
  |_=>none
def G8 (br:Bool):List (List D)->Bool
 |[]=>false
 |_::_=>br
def G9 (id:Nat):List (List D)->List Nat
 |[]=>[]
 |_::_=>[id]
@[go_sem] theorem Ww (es:List (List D)):G8 false es=false:=by cases es<;>rfl
@[go_sem] theorem qt (hp:Hp)(id ver:Nat)(es:List (List D)):CS hp (Aa id ver es)=FM (hp id) ver id es:=by
 cases es with
 |nil=>rfl
 |cons e r=>simp only[Aa,FM,CS,Nt]<;>rfl
@[go_sem] theorem Wx (hp:Hp)(id ver:Nat)(es:List (List D)):EP hp (Aa id ver es)=FM (hp id) ver id es:=by
 cases es with
 |nil=>rfl
 |cons e r=>simp only[Aa,FM,EP,CS,Nt]<;>rfl
@[go_sem] theorem SS (hp:Hp)(id ver:Nat)(es:List (List D)):Fg hp (Aa id ver es)=(FM (hp id) ver id es).bind fun p=>match p with |(.sl x,b,is)=>some (x,b,is) |_=>none:=by
 cases es with
 |nil=>rfl
 |cons e r=>
  simp only[Aa,Fg,FM,Nt];generalize hp id=o;cases o with
  |none=>rfl
  |some o=>cases o with
   |rw es sz v br fz=>
    simp only;by_cases h:v=ver
    ·simp[h]
    ·rw[if_neg h,if_neg fun e=>h e.symm];rfl
   |bx cs=>rfl
   |mo a b=>rfl
@[go_sem] theorem Wy (hp:Hp)(id ver:Nat)(es:List (List D)):toR hp (Aa id ver es)=FM (hp id) ver id es:=by
 cases es with
 |nil=>rfl
 |cons e r=>simp only[Aa,FM,toR,EP,CS,Nt]<;>rfl
@[go_sem] theorem UK (sz ver id:Nat)(br:Bool)(es:List (List D)):FM (CD sz ver br es) ver id es=some (.sl es,G8 br es,G9 id es):=by
 cases es with
 |nil=>rfl
 |cons e r=>simp[FM,CD,G8,G9]
theorem JC {α:Type}{f:α->List D}{xs:List α}{id ver:Nat}(h:0<xs.length):Aa id ver (xs.map f)= .so id ver 0 xs.length:=by
 cases xs with
 |nil=>cases h
 |cons x r=>simp[Aa]
theorem UL {α:Type}{f:α->List D}{xs:List α}{sz ver:Nat}{br:Bool}(h:0<xs.length):CD sz ver br (xs.map f)=some (.rw (xs.map f) sz ver br false):=by
 cases xs with
 |nil=>cases h
 |cons x r=>simp[CD]
theorem gW {α:Type}{f:α->List D}{xs:List α}{ρ:Nat->Option Nat}{id j ver:Nat}(h:ρ id=some j)(hx:0<xs.length):CK ρ (Aa id ver (xs.map f))=some (.so j ver 0 xs.length):=by
 rw[JC hx];simp[CK,h]
theorem qu {α:Type}{f:α->List D}{xs:List α}{ρ:Nat->Option Nat}{hp:Hp}{id j sz ver:Nat}{br:Bool}(h1:ρ id=some j)(hx:0<xs.length)(h2:hp j=some (.rw (xs.map f) sz ver br false)):∀p,CD sz ver br (xs.map f)=some p->∃j o',ρ id=some j/\CP ρ p=some o'/\hp j=some o':=
 gV h1 (by rw[UL hx];exact h2)
theorem qv {ρ:Nat->Option Nat}{hp:Hp}{id sz ver:Nat}{br:Bool}:∀p,CD sz ver br []=some p->∃j o',ρ id=some j/\CP ρ p=some o'/\hp j=some o':=fun p e=>by cases e
def II (tab:Nat->TI)(nid T T':Nat)(hp:Hp)(y:AV)(ny:Option Nat)(x:AV):Option (AV × List (Nat × AO)):=
 if T=T'/\(tab T).kind= .slice/\(tab (tab T).elem).ok/\0<(tab (tab T).elem).size then
   match Fg hp y,x with
   |some (ys,b,_),.v (.slice none 0 0)=>
    if ED (tab (tab T).elem).size ys/\(tab (tab T).elem).bytes<=32768/\ys.length<=4294967296 then
     if ys.length=0 then some (.v (.slice none 0 0),[]) else some (.so nid 0 0 ys.length,[(nid,.rw ys (tab (tab T).elem).size 0 b false)])
    else none
   |some (ys,b,_),.so i v off n=>match hp i with
    |some (.rw es sz ver br false)=>
     if v=ver/\off=0/\n<=es.length/\sz=(tab (tab T).elem).size/\ED sz ys/\(tab (tab T).elem).bytes<=32768/\n+ys.length<=4294967296 then
      some (.so i (ver+1) 0 (n+ys.length),[(i,.rw (es.take n++ys) sz (ver+1) (br||b) false)]) else none
    |_=>none
   |_,_=>none
  else GV tab nid T T' x ny
@[go_sem ↓ high] theorem xj {tab:Nat->TI}(ρ:Operand->AV)(hp:Hp)(id:Nat)(x y:Operand)(T T':TypeId):CB tab ρ hp id (.call { callee:=.builtin .append,args:= #[x,y],argTypes:= #[T,T'] })=II tab id T T' hp (ρ y) (D8 (ρ y)) (ρ x):=rfl
section
variable {tab:Nat->TI}{nid T T':Nat}{hp:Hp}{y:AV}{ny:Option Nat}
@[go_sem] theorem qw:II tab nid T T' hp y ny (.v (.slice none 0 0))=if T=T'/\(tab T).kind= .slice/\(tab (tab T).elem).ok/\0<(tab (tab T).elem).size then
   match Fg hp y with
   |some (ys,b,_)=>
    if ED (tab (tab T).elem).size ys/\(tab (tab T).elem).bytes<=32768/\ys.length<=4294967296 then
     if ys.length=0 then some (.v (.slice none 0 0),[]) else some (.so nid 0 0 ys.length,[(nid,.rw ys (tab (tab T).elem).size 0 b false)])
    else none
   |_=>none
  else GV tab nid T T' (.v (.slice none 0 0)) ny:=by
 unfold II;split
 ·cases Fg hp y<;>rfl
 rfl
@[go_sem] theorem qy (i v off n:Nat):II tab nid T T' hp y ny (.so i v off n)=if T=T'/\(tab T).kind= .slice/\(tab (tab T).elem).ok/\0<(tab (tab T).elem).size then
   match Fg hp y with
   |some (ys,b,_)=>match hp i with
    |some (.rw es sz ver br false)=>
     if v=ver/\off=0/\n<=es.length/\sz=(tab (tab T).elem).size/\ED sz ys/\(tab (tab T).elem).bytes<=32768/\n+ys.length<=4294967296 then
      some (.so i (ver+1) 0 (n+ys.length),[(i,.rw (es.take n++ys) sz (ver+1) (br||b) false)]) else none
    |_=>none
   |_=>none
  else GV tab nid T T' (.so i v off n) ny:=by
 unfold II;split
 ·cases Fg hp y<;>rfl
 rfl
def F7 (tab:Nat->TI)(nid T T':Nat)(r:Option (List (List D) × Bool × List Nat))(id ver:Nat)(es:List (List D))(o:Option AO):Option (AV × List (Nat × AO)):=
 if T=T'/\(tab T).kind= .slice/\(tab (tab T).elem).ok/\0<(tab (tab T).elem).size then match r with
  |some (ys,b,_)=>match es with
   |[]=>if ED (tab (tab T).elem).size ys/\(tab (tab T).elem).bytes<=32768/\ys.length<=4294967296 then
     if ys.length=0 then some (.v (.slice none 0 0),[]) else some (.so nid 0 0 ys.length,[(nid,.rw ys (tab (tab T).elem).size 0 b false)]) else none
   |_::_=>match o with
    |some (.rw es' sz v br false)=>if ver=v/\es.length<=es'.length/\sz=(tab (tab T).elem).size/\ED sz ys/\(tab (tab T).elem).bytes<=32768/\es.length+ys.length<=4294967296 then
      some (.so id (v+1) 0 (es.length+ys.length),[(id,.rw (es'.take es.length++ys) sz (v+1) (br||b) false)]) else none
    |_=>none
  |_=>none
 else none
@[go_sem] theorem UM (h:T=T'/\(tab T).kind= .slice/\(tab (tab T).elem).ok/\0<(tab (tab T).elem).size)(id ver:Nat)(es:List (List D)):II tab nid T T' hp y ny (Aa id ver es)=F7 tab nid T T' (Fg hp y) id ver es (hp id):=by
 cases es with
 |nil=>
  rw[Ws,qw,if_pos h];unfold F7;rw[if_pos h]
 |cons e r=>
  rw[gS,qy,if_pos h];unfold F7;rw[if_pos h];generalize Fg hp y=ry;generalize hp id=oi;cases ry with
  |none=>rfl
  |some p=>cases oi with
   |none=>rfl
   |some o=>cases o with |rw es' sz v br fz=>cases fz<;>simp |bx cs=>rfl |mo a b=>rfl
@[go_sem] theorem UN {ys:List (List D)}{b:Bool}{is:List Nat}{id ver sz:Nat}{br:Bool}{es:List (List D)}(h:T=T'/\(tab T).kind= .slice/\(tab (tab T).elem).ok/\0<(tab (tab T).elem).size)(h2:sz=(tab (tab T).elem).size/\ED sz ys/\(tab (tab T).elem).bytes<=32768/\es.length+ys.length<=4294967296)(h3:¬ys.length=0)(h4:(br||b)=b):
  F7 tab nid T T' (some (ys,b,is)) id ver es (CD sz ver br es)=some (.so (Cw nid id es) (C8 ver es) 0 (es.length+ys.length),[(Cw nid id es,.rw (es++ys) sz (C8 ver es) b false)]):=by
 obtain⟨g1,g2,g3,g4⟩:=h2;subst g1;unfold F7;rw[if_pos h];cases es with
 |nil=>
  have:ys.length<=4294967296:=by simpa using g4
  simp[Cw,C8,g2,g3,this,h3]
 |cons e r=>
  have:r.length+1+ys.length<=4294967296:=by simpa using g4
  simp[Cw,C8,CD,g2,g3,this,h4]
end
@[go_sem] theorem gX {j nid id:Nat}{es:List (List D)}(h1:¬j=nid)(h2:¬j=id):(j=Cw nid id es)=False:=by
 cases es<;>simp[Cw,h1,h2]
@[go_sem] theorem gY {j nid id:Nat}{es:List (List D)}(h1:¬j=nid)(h2:¬j=id):(Cw nid id es=j)=False:=by
 cases es<;>simp only[Cw,eq_iff_iff,iff_false]<;>intro e<;>first |exact h1 e.symm |exact h2 e.symm
@[go_sem] theorem UO (id ver:Nat)(es:List (List D)):Au (Aa id ver es)=G9 id es:=by cases es<;>rfl
attribute [go_sem] List.drop_nil List.take_nil
theorem qz (n:Nat):((no_index (OfNat.ofNat n:Nat):Nat):Int)=OfNat.ofNat n:=rfl
theorem Wz {α:Type}{f:α->List D}(h:∀x,I7 (f x)=true)(xs:List α):JN (xs.map f)=true:=by simp[JN,h]
@[go_sem] theorem xk:I7 []=true:=rfl
@[go_sem] theorem xl (c:D)(r:List D):I7 (c::r)=(V1 c&&I7 r):=rfl
@[go_sem] theorem gZ (x:Value):V1 (.v x)=true:=rfl
@[go_sem] theorem xm (c:List D)(r:List (List D)):JN (c::r)=(I7 c&&JN r):=rfl
attribute [go_sem] qz gt_iff_lt ge_iff_le NE NK Nx beq_self_eq_true bne_self_eq_false decide_true decide_false LC Lc not_false_eq_true not_true_eq_false HM Ll Option.toList
abbrev eS (x:ByteArray):List D:=[D.v (.string x)]
abbrev eI (x:Int):List D:=[D.v (.int .i64 x)]
abbrev eB (x:Bool):List D:=[D.v (.bool x)]
abbrev eL {α:Type}(f:α->List D)(x:List α):List D:=[D.sl (List.map f x)]
attribute [go_sem] eS eI eB eL
def Co (n:Nat)(P:Program)(code:Code)(Q:Ex->St->Prop)(s:St):Prop:=∀(g:Gh) (N:Nat) (c:Cf) (a:Act),DY N code=true->Dx g s c a N->n<=s.nx->code.wp P (Cj g N Q n c) a c.w
theorem Cj.mono {g:Gh}{N n:Nat}{Q Q':Ex->St->Prop}{c:Cf}{e:Exit}{a':Act}{w':World}(h:Cj g N Q n c e a' w')(hq:∀ex s,Q ex s->Q' ex s):Cj g N Q' n c e a' w':=by
 obtain⟨ex,s',c',h1,h2,h3⟩:=h;exact⟨ex,s',c',h1,hq ex s' h2,h3⟩
def DL (n:Nat)(P:Program):List It->(Ex->St->Prop)->Ex->St->Prop
 |[],Q,e,s=>Q e s
 | .c x::k,Q,e,s=>match e with
  | .normal=>Co n P x (DL n P k Q) s
  | .ret=>DL n P k Q .ret s
  | .exit m=>DL n P k Q (.exit m) s
 | .blk m::k,Q,e,s=>match e with
  | .normal=>DL n P k Q .normal s
  | .ret=>DL n P k Q .ret s
  | .exit m'=>if m'=m then DL n P k Q .normal s else DL n P k Q (.exit m') s
 | .lp X::k,Q,e,s=>match e with
  | .normal=>X s
  | .ret=>DL n P k Q .ret s
  | .exit m=>DL n P k Q (.exit m) s
def CA (n:Nat)(P:Program)(k:List It)(Q:Ex->St->Prop)(s:St):Prop:=DL n P k Q .normal s
section
variable {P:Program}{tab:Nat->TI}{k:List It}{Q Q':Ex->St->Prop}{s:St}{a b x:Code}{n m:Nat}
theorem Co.mono (hQ:∀e s,Q e s->Q' e s)(h:Co n P a Q s):Co n P a Q' s:=fun g N c act hd hs hn=>Code.wp_mono (fun _ _ _ hp=>Cj.mono hp hQ) (h g N c act hd hs hn)
theorem rA (ht:AU P tab)(hm:P.follows .mixedOrders=true)(h:W P tab a Q s):Co n P a Q s:=fun _ _ c act hd hs hn=>Code.wp_mono (fun _ _ _ hp=>DT.toR hp hn) (Ys ht hm a Q s c act hd h hs)
theorem rB (h:Co n P a (fun e s'=>match e with | .normal=>Co n P b Q s' |e=>Q e s') s):Co n P (.seq a b) Q s:=by
 intro g N c act hd hs hn;simp only[DY,Li] at hd;refine wp_seq (Code.wp_mono (fun e a' w' hp=> ?_) (h g N c act hd.1 hs hn));obtain⟨ex,s',c',h1,h2,h3,h4,h5,h6,h7⟩:=hp;subst h1;subst h4;cases ex with
 |normal=>exact Code.wp_mono (fun e a' w' hp=>Cj.after hp h5 h7) (h2 g N c' a' hd.2 h3 h6)
 |ret=>exact⟨.ret,s',c',rfl,h2,h3,rfl,h5,h6,h7⟩
 |exit n=>exact⟨.exit n,s',c',rfl,h2,h3,rfl,h5,h6,h7⟩
theorem rC (h:Co n P a (fun e s'=>match e with | .exit m'=>if m'=m then Q .normal s' else Q (.exit m') s' |e=>Q e s') s):Co n P (.block m a) Q s:=by
 intro g N c act hd hs hn;refine wp_block (Code.wp_mono (fun e a' w' hp=> ?_) (h g N c act hd hs hn));obtain⟨ex,s',c',h1,h2,h3,h4,h5,h6,h7⟩:=hp;subst h1;cases ex with
 |normal=>exact⟨.normal,s',c',rfl,h2,h3,h4,h5,h6,h7⟩
 |ret=>exact⟨.ret,s',c',rfl,h2,h3,h4,h5,h6,h7⟩
 |exit m'=>
  simp only[Ex.up,Exit.inBlock];by_cases e:m'=m
  ·rw[if_pos e];simp only[if_pos e] at h2;exact⟨.normal,s',c',rfl,h2,h3,h4,h5,h6,h7⟩
  rw[if_neg e];simp only[if_neg e] at h2;exact⟨.exit m',s',c',rfl,h2,h3,h4,h5,h6,h7⟩
theorem rD {α:Type}(σ:α->St)(μ:α->Nat)(x0:α)(h0:A6 n (σ x0) s)(step:∀x,Co n P a (fun e s'=>match e with | .normal=>∃x',A6 n (σ x') s'/\μ x'<μ x |e=>Q e s') (σ x)):Co n P (.loop a) Q s:=by
 have key:∀j x,μ x=j->n<=(σ x).nx->∀(g:Gh) (N:Nat) (c:Cf) (act:Act),DY N a=true->Dx g (σ x) c act N->∀(b:Frame) (k:List Item) (cs:List Frame),∃e a' w',Cj g N Q n c e a' w'/\Arrives P (lone (b.at act (.code a:: .inLoop a::k)) cs c.w) b k cs e a' w':=by
  intro j;induction j using Nat.strongRecOn with
  |_ j ih=>
   intro x hx hn g N c act hd hs b k cs;obtain⟨e,a₁,w₁,hq,harr⟩:=step x g N c act hd hs hn b (.inLoop a::k) cs;obtain⟨ex,s',c',h1,h2,h3,h4,h5,h6,h7⟩:=hq;subst h1;subst h4;cases ex with
   |normal=>
    obtain⟨x',hw,hlt⟩:=h2;obtain⟨c2,q1,q2,q3,q4,q5⟩:=h3.weakR h6 hw;obtain⟨e₂,a₂,w₂,hq₂,harr₂⟩:=ih (μ x') (by omega) x' rfl q4 g N c2 a₁ hd q1 b k cs;rw[q2] at harr₂;exact⟨e₂,a₂,w₂,Cj.after (Cj.after hq₂ q3 q5) h5 h7,.of_steps (Steps.trans harr (.one step_inLoop)) harr₂⟩
   |ret=>exact⟨_,a₁,_,⟨.ret,s',c',rfl,h2,h3,rfl,h5,h6,h7⟩,.pass (x:=.inLoop a) rfl (fun _ _=>.inl (by simp[Ex.up])) harr⟩
   |exit m=>exact⟨_,a₁,_,⟨.exit m,s',c',rfl,h2,h3,rfl,h5,h6,h7⟩,.pass (x:=.inLoop a) rfl (fun _ _=>.inl (by simp[Ex.up])) harr⟩
 intro g N c act hd hs hn b k cs;obtain⟨c',h1,h2,h3,h4,h5⟩:=hs.weakR hn h0;obtain⟨e,a',w',hq,harr⟩:=key _ x0 rfl h4 g N c' act hd h1 b k cs;rw[h2] at harr;exact⟨e,a',w',Cj.after hq h3 h5,.of_steps (.one step_loop) harr⟩
theorem Co.join {R:St->Prop}(h:Co n P a (fun e s'=>match e with | .normal=>∃s2,A6 n s2 s'/\R s2 |e=>Q e s') s):Co n P a (fun e s'=>match e with | .normal=>R s' |e=>Q e s') s:=by
 intro g N c act hd hs hn;refine Code.wp_mono (fun e a' w' hp=> ?_) (h g N c act hd hs hn);obtain⟨ex,s',c',h1,h2,h3,h4,h5,h6,h7⟩:=hp;cases ex with
 |normal=>
  obtain⟨s2,hw,hR⟩:=h2;obtain⟨c2,q1,q2,q3,q4,q5⟩:=h3.weakR h6 hw;refine⟨.normal,s2,c2,h1,hR,q1,q2.trans h4,h5.trans q3,q4,fun i hi=> ?_⟩;rcases q5 i hi with h8 |h8
  ·exact h7 i h8
  ·exact .inr h8
 |ret=>exact⟨.ret,s',c',h1,h2,h3,h4,h5,h6,h7⟩
 |exit m=>exact⟨.exit m,s',c',h1,h2,h3,h4,h5,h6,h7⟩
theorem W1:∀(k:List It),DL n P k Q .ret s=Q .ret s
 |[]=>rfl
 | .c _::k=>W1 k
 | .blk _::k=>W1 k
 | .lp _::k=>W1 k
theorem rE:DL n P (.c a::k) Q (.exit m) s=DL n P k Q (.exit m) s:=rfl
theorem rF {X:St->Prop}:DL n P (.lp X::k) Q (.exit m) s=DL n P k Q (.exit m) s:=rfl
theorem rG {m':Nat}:DL n P (.blk m::k) Q (.exit m') s=if m'=m then CA n P k Q s else DL n P k Q (.exit m') s:=rfl
theorem rH {e:Ex}:DL n P [] Q e s=Q e s:=rfl
theorem rI:DL n P k Q .normal s=CA n P k Q s:=rfl
theorem rJ:CA n P [] Q s=Q .normal s:=rfl
theorem rK:CA n P (.blk m::k) Q s=CA n P k Q s:=rfl
theorem rL {X:St->Prop}:CA n P (.lp X::k) Q s=X s:=rfl
theorem AW (h:CA n P (.c a:: .c b::k) Q s):CA n P (.c (.seq a b)::k) Q s:=
 rB (Co.mono (fun e s h=>by cases e<;>exact h) (show Co n P a (DL n P (.c b::k) Q) s from h))
theorem CN (h:CA n P (.c a:: .blk m::k) Q s):CA n P (.c (.block m a)::k) Q s:=
 rC (Co.mono (fun e s h=>by cases e<;>exact h) (show Co n P a (DL n P (.blk m::k) Q) s from h))
theorem DS {α:Type}(σ:α->St)(μ:α->Nat)(x0:α)(h0:A6 n (σ x0) s)(step:∀x,CA n P [.c a,.lp fun s'=>∃x',A6 n (σ x') s'/\μ x'<μ x] (DL n P k Q) (σ x)):CA n P (.c (.loop a)::k) Q s:=
 rD σ μ x0 h0 fun x=>Co.mono (fun e s h=>by cases e<;>exact h) (show Co n P a (DL n P [.lp fun s'=>∃x',A6 n (σ x') s'/\μ x'<μ x] (DL n P k Q)) (σ x) from step x)
theorem EI {α:Type}(σ:α->St)(h1:CA n P [.c x,.lp fun s'=>∃y,A6 n (σ y) s'] (DL n P k Q) s)(h2:∀y,CA n P k Q (σ y)):CA n P (.c x::k) Q s:=by
 have:Co n P x (fun e s'=>match e with | .normal=>CA n P k Q s' |e=>DL n P k Q e s') s:=by
  refine Co.join (Co.mono ?_ (show Co n P x (DL n P [.lp fun s'=>∃y,A6 n (σ y) s'] (DL n P k Q)) s from h1));intro e s' h;cases e with
  |normal=>
   obtain⟨y,hw⟩:=h;exact⟨_,hw,h2 y⟩
  |ret=>exact h
  |exit m=>exact h
 exact Co.mono (fun e s h=>by cases e<;>exact h) this
theorem EV {y:Operand}{c:Bool}(h:ev s.fr y= .v (.bool c))(hc:c=true)(h1:CA n P (.c a::k) Q s):CA n P (.c (.cond y a b)::k) Q s:=by
 intro g N cf act hd hs hn;simp only[DY,Li] at hd;have hv:=(show Am g cf (.v (.bool c)) (act.eval y) by rw[<-h];exact KO hs.fr y).v.1;subst hc;refine wp_cond_split hv (fun _=> ?_) fun e=>by cases e
 exact Code.wp_mono (fun _ _ _ hp=>hp.mono fun e s h=>by cases e<;>exact h) (h1 g N cf act hd.1 hs hn)
theorem DF {y:Operand}{c:Bool}(h:ev s.fr y= .v (.bool c))(hc:c=false)(h1:CA n P (.c b::k) Q s):CA n P (.c (.cond y a b)::k) Q s:=by
 intro g N cf act hd hs hn;simp only[DY,Li] at hd;have hv:=(show Am g cf (.v (.bool c)) (act.eval y) by rw[<-h];exact KO hs.fr y).v.1;subst hc;refine wp_cond_split hv (fun e=>by cases e) fun _=> ?_;exact Code.wp_mono (fun _ _ _ hp=>hp.mono fun e s h=>by cases e<;>exact h) (h1 g N cf act hd.2 hs hn)
theorem KR (ht:AU P tab)(hm:P.follows .mixedOrders=true):∀(k1 k2:List It) (e:Ex) (s:St),Cc P tab k1 (DL n P k2 Q) e s->DL n P (k1++k2) Q e s
 |[],k2,e,s,h=>h
 | .c x::k,k2,e,s,h=>by
  cases e with
  |normal=>exact rA ht hm (JY x _ _ s (fun e s h=>KR ht hm k k2 e s h) h)
  |ret=>exact KR ht hm k k2 _ s h
  |exit m=>exact KR ht hm k k2 _ s h
 | .blk m::k,k2,e,s,h=>by
  cases e with
  |normal=>exact KR ht hm k k2 _ s h
  |ret=>exact KR ht hm k k2 _ s h
  |exit m'=>
   show if m'=m then _ else _
   have h':(if m'=m then Cc P tab k (DL n P k2 Q) .normal s else Cc P tab k (DL n P k2 Q) (.exit m') s):=h;by_cases e:m'=m
   ·rw[if_pos e] at h'⊢;exact KR ht hm k k2 _ s h'
   ·rw[if_neg e] at h'⊢;exact KR ht hm k k2 _ s h'
 | .lp X::k,k2,e,s,h=>by
  cases e with |normal=>exact h |ret=>exact KR ht hm k k2 _ s h |exit m=>exact KR ht hm k k2 _ s h
theorem rM (ht:AU P tab)(hm:P.follows .mixedOrders=true)(m:Nat)(h:run P tab (k.take m) (DL n P (k.drop m) Q) s):CA n P k Q s:=by
 have:=KR ht hm (k.take m) (k.drop m) .normal s h;rwa [LM] at this
theorem Zt (ht:AU P tab){f:FuncId}{fn:Func}{code:Code}(hf:P.funcs[f]? =some fn)(hb:fn.body=some code)(hname:(fn.name== "runtime.NumGoroutine")=false)(hd:DY fn.ntmps code=true){vs:List AV}{hp:Hp}{nx:Nat}{R:AV->Hp->Nat->Prop}
  (hlen:vs.length<=fn.ntmps) (h:CA nx P [.c code] (Cu tab fn.results R) ⟨Df vs,hp,nx⟩):AK P f vs hp nx R:=by
 have h':Sem P code (Cu tab fn.results R) ⟨Df vs,hp,nx⟩:=fun g N c act hd hs=>
  Code.wp_mono (fun e a' w' hp=>Cj.toE (hp.mono fun e s h=>by cases e<;>exact h) hs.hr hs.kn) ((show Co nx P code (DL nx P [] (Cu tab fn.results R)) _ from h) g N c act hd hs (Lc _))
 exact gN ht hf hb hname hd hlen (Sem.mono (fun e s h=>by cases e<;>exact h) h')
theorem rN (ht:AU P tab){f:FuncId}{fn:Func}{code:Code}(hf:P.funcs[f]? =some fn)(hb:fn.body=some code)(hname:(fn.name== "runtime.NumGoroutine")=false)(hd:DY fn.ntmps code=true){ds:List D}{d:D}{fresh:Bool}
  (hlen:ds.length<=fn.ntmps) (h:CA 0 P [.c code] (Cu tab fn.results (D9 d fresh)) ⟨Df (ds.map (Aw true)),AS,0⟩):AI P f ds d fresh:=
 TW (Zt ht hf hb hname hd (by simpa using hlen) h)
end
attribute [go_sem] W1 rE rF rG rH rI rJ rK rL
@[go_sem] theorem UP (hp:Hp)(i:Nat)(r:List Nat):frz hp (i::r)=match hp i with |some (.rw es sz v br _)=>(i,.rw es sz v br true)::frz hp r |_=>frz hp r:=rfl
end
section
open Go.RowKit
inductive DA where
 |d (x:D)
 |fn (f:FuncId) (caps:List D)
def DA.av:DA->AV
 | .d x=>Aw true x
 | .fn f caps=>.fn f (caps.map (Aw true))
def Mn (hp:Hp):AV->Option (D × Bool × List Nat)
 | .pt id off=>match hp id with
  |some (.bx cs)=>(DE hp cs).map fun(ds,b,is)=>(.pt ds off,b,id::is)
  |_=>none
 |x=>CS hp x
def F8 (hp:Hp):List AV->Option (List D × Bool × List Nat)
 |[]=>some ([],false,[])
 |c::r=>match Mn hp c,F8 hp r with
  |some (d,b,i),some (ds,b',i')=>some (d::ds,b||b',i++i')
  |_,_=>none
def Mo (hp:Hp):AV->Option (DA × Bool × List Nat)
 | .fn f caps=>(F8 hp caps).map fun(ds,b,is)=>(.fn f ds,b,is)
 | .pt id off=>(Mn hp (.pt id off)).map fun(d,b,is)=>(.d d,b,is)
 |x=>(EP hp x).map fun(d,b,is)=>(.d d,b,is)
def ES (hp:Hp):List AV->Option (List DA × Bool × List Nat)
 |[]=>some ([],false,[])
 |c::r=>match Mo hp c,ES hp r with
  |some (d,b,i),some (ds,b',i')=>some (d::ds,b||b',i++i')
  |_,_=>none
def UQ (w:World)(I:Nat->Prop):DA->Value->Prop
 | .d x,u=>DJ w I x u
 | .fn f caps,u=>∃(us:Nat->Value) (n:Nat),caps.length=n/\u= .func (.func f) #[] (Array.ofFn (n:=n) fun j=>us j)/\∀(j:Nat) (x:D),caps[j]? =some x->RC w I x (us j)
def CQ (P:Program)(f:FuncId)(as:List DA)(d:D)(fr:Bool):Prop:=Ks P f/\∀(w:World) (M0:Nat->Prop) (args:Array Value),(∀k,M0 k->k<w.heap.size)->args.size=as.length->(∀(j:Nat) (x:DA),as[j]? =some x->∃u,args[j]? =some u/\UQ w (fun k=>k<w.heap.size/\¬M0 k) x u)->Calls P f args w fun e w'=>∃u,e= .returned u/\(Below w.heap.size w w'/\w.drawn<=w'.drawn)/\RV w' (fun k=>k<w'.heap.size/\¬M0 k/\(fr=true->w.heap.size<=k)) d u
theorem CQ.of_pure {P:Program}{f:FuncId}{ds:List D}{d:D}{fr:Bool}(h:AI P f ds d fr):CQ P f (ds.map .d) d fr:=
 ⟨h.1,fun w M0 args h1 h2 h3=>h.2 w M0 args h1 (by simpa using h2) fun j x hj=>h3 j (.d x) (by simp[hj])⟩
section
variable {P:Program}{tab:Nat->TI}{g:Gh}{c:Cf}
theorem ga {hp:Hp}{x:AV}{u:Value}{d:D}{b:Bool}{is:List Nat}(hr:HR g c)(hhp:c.hp=hp)(h:RA g c x u)(hd:Mn hp x=some (d,b,is))(I:Nat->Prop)(hI:∀k,Im g c b k->I k)
  (hI2:∀i∈is,I (c.φ i)):RC c.w I d u:=by
 unfold Mn at hd;split at hd
 ·rename_i id off;split at hd
  ·rename_i cs hi;obtain⟨⟨ds,b',is'⟩,e1,e2⟩:=La.1 hd;simp only[Lu] at e2;obtain⟨rfl,rfl,rfl⟩:=e2;cases h with
   |pt _ _ hn ho=>
    rw[<-hhp] at hi;obtain⟨T,vs,h1,h2,h3⟩:=hr.obj id _ hi;have hall:∀(j:Nat) (x:AV),cs[j]? =some x->RA g c x (vs.getD j undef):=fun j x hj=>by
     obtain⟨u,k1,k2⟩:=h3 j x hj;rw[LG,k1];exact k2
    obtain⟨g1,g2⟩:=V9 hr hhp I (fun j=>vs.getD j undef) e1 hall hI fun i hi=>hI2 i (by simp[hi]);have key:RC c.w I (.pt ds off) (.pointer (some ⟨c.φ id,0+off,none⟩)):=by
     refine RC.pt ds off (c.φ id) 0 (fun j=>vs.getD j undef) (hI2 id (by simp)) (fun j d hj=> ?_) g2;have hlt:j<vs.size:=by
      have:=(Lb.1 hj).1;omega
     simp[World.cell?,h1,Array.getD,hlt]
    rwa [NC] at key
  cases hd
 exact TF hr hhp h hd I hI hI2
theorem gc {hp:Hp}(hr:HR g c)(hhp:c.hp=hp)(I:Nat->Prop):∀ {xs:List AV} {ds:List D} {b:Bool} {is:List Nat} (vs:Nat->Value),F8 hp xs=some (ds,b,is)->(∀(j:Nat) (x:AV),xs[j]? =some x->RA g c x (vs j))->
  (∀k,Im g c b k->I k)->(∀i∈is,I (c.φ i))->ds.length=xs.length/\∀(j:Nat) (d:D),ds[j]? =some d->RC c.w I d (vs j)
 |[],ds,b,is,vs,h,_,_,_=>by
  simp only[F8,Le,Lu] at h;obtain⟨rfl,_⟩:=h;exact⟨rfl,fun j d h=>by simp at h⟩
 |x::xs,ds,b,is,vs,h,hx,h1,h2=>by
  unfold F8 at h;split at h
  ·rename_i d b1 i1 ds1 b2 i2 e1 e2;cases h;have hd:=ga hr hhp (hx 0 x rfl) e1 I (fun k hk=>h1 k hk.or) fun i hi=>h2 i (by simp[hi]);obtain⟨g1,g2⟩:=gc hr hhp I (fun j=>vs (j+1)) e2 (fun j y hy=>hx (j+1) y (by simpa using hy)) (fun k hk=>h1 k hk.or') fun i hi=>h2 i (by simp[hi]);refine⟨by simp[g1],fun j y hy=> ?_⟩;cases j with |zero=>simp at hy;subst hy;exact hd |succ j=>exact g2 j y (by simpa using hy)
  cases h
theorem QC {hp:Hp}{x:AV}{u:Value}{d:DA}{b:Bool}{is:List Nat}(hr:HR g c)(hhp:c.hp=hp)(h:Am g c x u)(hd:Mo hp x=some (d,b,is))(I:Nat->Prop)(hI:∀k,Im g c b k->I k)
  (hI2:∀i∈is,I (c.φ i)):UQ c.w I d u:=by
 unfold Mo at hd;split at hd
 ·rename_i f caps;obtain⟨⟨ds,b',is'⟩,e1,e2⟩:=La.1 hd;simp only[Lu] at e2;obtain⟨rfl,rfl,rfl⟩:=e2;cases(show RA g c (.fn f caps) u from h) with
  |fn _ _ us n hn hus=>
   obtain⟨g1,g2⟩:=gc hr hhp I us e1 hus hI hI2;exact⟨us,n,by omega,rfl,g2⟩
 ·rename_i id off;obtain⟨⟨d',b',is'⟩,e1,e2⟩:=La.1 hd;simp only[Lu] at e2;obtain⟨rfl,rfl,rfl⟩:=e2;have hc:=ga hr hhp (show RA g c (.pt id off) u from h) e1 I hI hI2;show DJ c.w I d' u;unfold DJ;split
  ·cases hc
  exact hc
 obtain⟨⟨d',b',is'⟩,e1,e2⟩:=La.1 hd;simp only[Lu] at e2;obtain⟨rfl,rfl,rfl⟩:=e2;exact(TL hr hhp I e1 h hI hI2).1
theorem gf {hp:Hp}(hr:HR g c)(hhp:c.hp=hp)(I:Nat->Prop):∀ {xs:List AV} {ds:List DA} {b:Bool} {is:List Nat} (us:Nat->Value),ES hp xs=some (ds,b,is)->(∀(j:Nat) (x:AV),xs[j]? =some x->Am g c x (us j))->
  (∀k,Im g c b k->I k)->(∀i∈is,I (c.φ i))->ds.length=xs.length/\∀(j:Nat) (d:DA),ds[j]? =some d->UQ c.w I d (us j)
 |[],ds,b,is,us,h,_,_,_=>by
  simp only[ES,Le,Lu] at h;obtain⟨rfl,_⟩:=h;exact⟨rfl,fun j d h=>by simp at h⟩
 |x::xs,ds,b,is,us,h,hx,h1,h2=>by
  unfold ES at h;split at h
  ·rename_i d b1 i1 ds1 b2 i2 e1 e2;cases h;have hd:=QC hr hhp (hx 0 x rfl) e1 I (fun k hk=>h1 k hk.or) fun i hi=>h2 i (by simp[hi]);obtain⟨g1,g2⟩:=gf hr hhp I (fun j=>us (j+1)) e2 (fun j y hy=>hx (j+1) y (by simpa using hy)) (fun k hk=>h1 k hk.or') fun i hi=>h2 i (by simp[hi]);refine⟨by simp[g1],fun j y hy=> ?_⟩;cases j with |zero=>simp at hy;subst hy;exact hd |succ j=>exact g2 j y (by simpa using hy)
  cases h
theorem gg {hp:Hp}{x:AV}{d:D}{b:Bool}{is:List Nat}(h:Mn hp x=some (d,b,is)):∀i∈is,∃o,hp i=some o:=by
 unfold Mn at h;split at h
 ·rename_i id off;split at h
  ·rename_i cs hi;obtain⟨⟨ds,b',is'⟩,e1,e2⟩:=La.1 h;simp only[Lu] at e2;obtain⟨rfl,rfl,rfl⟩:=e2;intro i h3;rcases Lm.1 h3 with rfl |h3
   ·exact⟨_,hi⟩
   obtain⟨es,sz,v,br,fz,h4⟩:=TJ e1 i h3;exact⟨_,h4⟩
  cases h
 intro i h3;obtain⟨es,sz,v,fz,h4⟩:=TH h i h3;exact⟨_,h4⟩
theorem gj {hp:Hp}:∀ {xs:List AV} {ds:List D} {b:Bool} {is:List Nat},F8 hp xs=some (ds,b,is)->∀i∈is,∃o,hp i=some o
 |[],ds,b,is,h=>by
  simp only[F8,Le,Lu] at h;obtain⟨_,_,rfl⟩:=h;simp
 |x::xs,ds,b,is,h=>by
  unfold F8 at h;split at h
  ·rename_i d b1 i1 ds1 b2 i2 e1 e2;cases h;intro i hi;rcases Ls.1 hi with h3 |h3
   ·exact gg e1 i h3
   exact gj e2 i h3
  cases h
theorem rO {hp:Hp}{x:AV}{d:DA}{b:Bool}{is:List Nat}(h:Mo hp x=some (d,b,is)):∀i∈is,∃o,hp i=some o:=by
 unfold Mo at h;split at h
 ·obtain⟨⟨ds,b',is'⟩,e1,e2⟩:=La.1 h;simp only[Lu] at e2;obtain⟨rfl,rfl,rfl⟩:=e2;exact gj e1
 ·obtain⟨⟨ds,b',is'⟩,e1,e2⟩:=La.1 h;simp only[Lu] at e2;obtain⟨rfl,rfl,rfl⟩:=e2;exact gg e1
 obtain⟨⟨ds,b',is'⟩,e1,e2⟩:=La.1 h;simp only[Lu] at e2;obtain⟨rfl,rfl,rfl⟩:=e2;intro i hi;obtain⟨es,sz,v,br,fz,h4⟩:=TM e1 i hi;exact⟨_,h4⟩
theorem gk {hp:Hp}:∀ {xs:List AV} {ds:List DA} {b:Bool} {is:List Nat},ES hp xs=some (ds,b,is)->∀i∈is,∃o,hp i=some o
 |[],ds,b,is,h=>by
  simp only[ES,Le,Lu] at h;obtain⟨_,_,rfl⟩:=h;simp
 |x::xs,ds,b,is,h=>by
  unfold ES at h;split at h
  ·rename_i d b1 i1 ds1 b2 i2 e1 e2;cases h;intro i hi;rcases Ls.1 hi with h3 |h3
   ·exact rO e1 i h3
   exact gk e2 i h3
  cases h
theorem gl {f:FuncId}{vs:List AV}{hp:Hp}{nx:Nat}{as:List DA}{b:Bool}{is:List Nat}{d:D}{fr:Bool}(hd:ES hp vs=some (as,b,is))(hp0:CQ P f as d fr)(hi:is= []\/fr=true):
  AK P f vs hp nx fun v2 hp2 nx2=>v2=Aw (!fr&&b) d/\hp2=hp/\nx2=nx:=by
 refine⟨hp0.1,fun g c vals hhp hkn hr hsz hall=> ?_⟩;obtain⟨_,hp0⟩:=hp0;have hgo:∀(I:Nat->Prop),(∀k,Im g c b k->I k)->(∀i∈is,I (c.φ i))->vals.size=as.length/\∀(j:Nat) (x:DA),as[j]? =some x->∃u,vals[j]? =some u/\UQ c.w I x u:=by
  intro I h1 h2;obtain⟨g1,g2⟩:=gf hr hhp I (fun j=>vals.getD j undef) hd (TT hall) h1 h2;refine⟨by omega,fun j x hj=>⟨_,TU (by have:=(Lb.1 hj).1;omega),g2 j x hj⟩⟩
 have fin:∀(I:Nat->Prop) (u:Value) (w':World),Below c.w.heap.size c.w w'/\c.w.drawn<=w'.drawn->RV w' I d u->(∀k,I k->k<w'.heap.size/\(c.w.heap.size<=k\/Im g c (!fr&&b) k))->
   ∃u' v c' nx',Ending.returned u= .returned u'/\(v=Aw (!fr&&b) d/\c'.hp=hp/\nx'=nx)/\c'.w=w'/\CF c c'/\HR g c'/\Am g c' v u'/\nx<=nx'/\∀i,c'.kn i->c.kn i\/(nx<=i/\i<nx'):=by
  intro I u w' ⟨hb,hdr⟩ hv hI;have he:CF c ⟨c.hp,c.φ,w',c.kn⟩:=⟨hb.os,hb.tape,hb.output,hb.size,fun _ h=>h,fun k hk _=>hb.block k hk,fun id o ho hf=>.inr ⟨o,ho,hf,rfl⟩,fun _ _ h=>⟨rfl,h⟩,
   fun id es _ v br fz hk hr=>⟨es,v,br,fz,hr,Lc _,fun _=>⟨rfl,rfl,fun cur _ e=>⟨cur,(hb.block _ (‹HR g c›.dom id _ hr).2.2).trans e,rfl⟩⟩⟩,hdr⟩
  have hr':HR g ⟨c.hp,c.φ,w',c.kn⟩:=⟨Lp hr.le hb.size,fun k hk=>Lz (hr.m0 k hk) hb.size,fun id o ho=>⟨(hr.dom id o ho).1,(hr.dom id o ho).2.1,Lz (hr.dom id o ho).2.2 hb.size⟩,hr.inj,fun id o ho=>(hr.obj id o ho).ext he rfl (hb.block _ (hr.dom id o ho).2.2)⟩;refine⟨u,_,⟨c.hp,c.φ,w',c.kn⟩,nx,rfl,⟨rfl,hhp,rfl⟩,rfl,he,hr',?_,Lc _,fun i h=>.inl h⟩;have hv2:RV w' (Im g ⟨c.hp,c.φ,w',c.kn⟩ (!fr&&b)) d u:=hv.mono (fun _ _=>rfl) fun k hk=>by
   obtain⟨h1,h2⟩:=hI k hk;rcases h2 with h2 |h2
   ·refine⟨h1,fun hm=> ?_,fun id o ho _ e=> ?_,fun _=>Lp hr.le h2⟩
    ·have:=hr.m0 k hm
     have:=hr.le;omega
    have:=(hr.dom id o ho).2.2;simp only at e;omega
   exact h2.ext he
  cases d with |v x=>exact(RC.toRA (c:=⟨c.hp,c.φ,w',c.kn⟩) hv2).toAt |sl es=>exact(RC.toRA (c:=⟨c.hp,c.φ,w',c.kn⟩) hv2).toAt |pt cs off=>exact(RC.toRA (c:=⟨c.hp,c.φ,w',c.kn⟩) hv2).toAt |mp es=>exact(RC.toRA (c:=⟨c.hp,c.φ,w',c.kn⟩) hv2).toAt |ag cs=>exact hv2 |tu cs=>exact hv2
 by_cases hfr:fr=true
 ·subst hfr;obtain⟨q1,q2⟩:=hgo (fun k=>k<c.w.heap.size/\¬False) (fun k hk=>⟨hk.1,fun h=>h⟩) (fun i hi=>by
   obtain⟨o,h1⟩:=gk hd i hi;exact⟨(hr.dom i _ (hhp▸h1)).2.2,fun h=>h⟩)
  refine(hp0 c.w (fun _=>False) vals (fun _ h=>h.elim) q1 q2).mono fun e w' ⟨u,he,hb,hv⟩=> ?_;subst he;exact fin _ u w' hb hv fun k hk=>⟨hk.1,.inl (hk.2.2 rfl)⟩
 have h0:is= []:=by
  rcases hi with hi |hi
  ·exact hi
  exact absurd hi hfr
 subst h0;have hfr2:fr=false:=by simpa using hfr
 subst hfr2;obtain⟨q1,q2⟩:=hgo (fun k=>k<c.w.heap.size/\¬(k<c.w.heap.size/\¬Im g c b k)) (fun k hk=>⟨hk.1,fun h=>h.2 hk⟩) (fun i hi=>by simp at hi);refine(hp0 c.w (fun k=>k<c.w.heap.size/\¬Im g c b k) vals (fun _ h=>h.1) q1 q2).mono fun e w' ⟨u,he,hb,hv⟩=> ?_;subst he;refine fin _ u w' hb hv fun k hk=>⟨hk.1,?_⟩;by_cases hlt:k<c.w.heap.size
 ·refine .inr ?_
  have:Im g c b k:=Bp fun hn=>hk.2.1 ⟨hlt,hn⟩
  simpa using this
 exact .inl (by omega)
theorem rP {f:FuncId}{vs:List AV}{hp:Hp}{nx:Nat}{as:List DA}{b:Bool}{is:List Nat}{d:D}{fr:Bool}(ids:List Nat)(hd:∀hp1:Hp,(∀i∈ids,hp1 i=hp i)->ES hp1 vs=some (as,b,is))(hp0:CQ P f as d fr)(hi:is= []\/fr=true):
  Mf P f vs hp nx ids (Aw (!fr&&b) d) [] nx:=fun hp1 h1=>(gl (hd hp1 h1.1) hp0 hi).mono fun _ _ _ ⟨e1,e2,e3⟩=>⟨e1,e2,e3⟩
section
variable {ops:Array Oper}{nx0 nx i:Nat}{k:List It}{Q:Ex->St->Prop}{r:List Oper}{s:St}{dst:Option Nat}{acc:List Cd}{fr:Fr}{hp:Hp}{ids:List Nat}
theorem gm {g:FuncId}{caps vs:List AV}{as:List DA}{b:Bool}{is:List Nat}{d:D}{f:Bool}(h1:ES s.hp (vs++caps)=some (as,b,is))(h2:CQ P g as d f)(h3:is= []\/f=true)(h:Rt P tab ops nx0 k Q i r ⟨A7 dst (Aw (!f&&b) d) s.fr,s.hp,s.nx⟩):
  Kv P tab ops nx0 k Q i r dst s (.fn g caps) vs:=CG ((gl h1 h2 h3).mono fun v2 hp2 nx2 hq=>by
 obtain⟨rfl,rfl,rfl⟩:=hq;exact h)
theorem rQ {g:FuncId}{caps vs:List AV}{as:List DA}{b:Bool}{is:List Nat}{d:D}{f:Bool}(ids':List Nat)(h1:∀hp1:Hp,(∀i∈ids',hp1 i=hp i)->ES hp1 (vs++caps)=some (as,b,is))(h2:CQ P g as d f)(h3:is= []\/f=true)(h:Rd P tab ops nx0 nx k Q i r (⟨ids',[],true⟩::acc) (A7 dst (Aw (!f&&b) d) fr) hp):
  Kw P tab ops nx0 nx k Q i r dst acc ids fr hp (.fn g caps) vs:=P3 (rP ids' h1 h2 h3) h
end
end
attribute [go_sem] ES F8 DA.av
section
variable (hp:Hp)(b c:Bool)(x:List (List D))(y:List D)(o n i v:Nat)(cs:List AV)(f:FuncId)(e:Value)
@[go_sem] theorem Zu:Mo hp (.pt i o)=(Mn hp (.pt i o)).map fun(d,b,is)=>(.d d,b,is):=rfl
@[go_sem] theorem gp:Mo hp (.v e)=(CS hp (.v e)).map fun(d,b,is)=>(.d d,b,is):=rfl
@[go_sem] theorem Zv:Mn hp (.pt i o)=match hp i with
  |some (.bx cs)=>(DE hp cs).map fun(ds,b,is)=>(.pt ds o,b,i::is)
  |_=>none:=rfl
end
def sl (n:Int)(k:Nat):Int:=n*2^(min k 64)
@[go_sem ↓ high] theorem SU (a b:Int)(k:IntKind):F1 .shr (.int .u64 a) (.int k b)=if b<0 then none else some (.int .u64 (sh a b.toNat)):=rfl
def Eb {α S X:Type}(f:S->α->(S->Option X)->Option X)(e:S->Option X):List α->S->Option X
 |[],st=>e st
 |x::r,st=>f st x (Eb f e r)
theorem Mp {α:Type}(xs:List α)(k:Nat):C4 xs (k:Int)=xs[k]? :=by simp[C4]
theorem Mq {α S X:Type}(L:Nat->S->Int->Option X)(xs:List α)(f:S->α->(S->Option X)->Option X)(e:S->Option X)
  (h:∀c st i,L (c+1) st i=if decide (i<(xs.length:Int)) then(C4 xs i).bind fun x=>f st x fun st'=>L c st' (IntKind.i64.wrap (i+1)) else e st) (hx:xs.length<4611686018427387904):
  ∀(c:Nat) (st:S) (k:Nat),k<=xs.length->xs.length-k<c->L c st (k:Int)=Eb f e (xs.drop k) st
 |0,_,_,_,hc=>by omega
 |c+1,st,k,hk,hc=>by
  rw[h];by_cases hlt:k<xs.length
  ·have e1:decide ((k:Int)<(xs.length:Int))=true:=Wr hlt;rw[e1,if_pos rfl,Mp,Ld hlt,Ly hlt];simp only[NR,Eb];congr 1;funext st';rw[SO (by omega)];exact Mq L xs f e h hx c st' (k+1) (by omega) (by omega)
  have e1:decide ((k:Int)<(xs.length:Int))=false:=Zn (by omega);rw[e1,if_neg (by simp),Nz (by omega)];rfl
def QD (id sz:Nat)(b:Bool):List (List D)->List (Nat × AO)
 |[]=>[]
 |e::r=>[(id,.rw (e::r) sz 0 b false)]
theorem rR {id sz:Nat}{b:Bool}{es:List (List D)}{hp:Hp}(h:hp id=none):Av (QD id sz b es) hp=upd id (CD sz 0 b es) hp:=by
 cases es with
 |nil=>
  show hp=upd id none hp;funext j;unfold upd;split
  ·rename_i e;rw[e];exact h
  ·rfl
 |cons e r=>rfl
@[go_sem] theorem W3 {α:Type}{f:α->List D}{xs:List α}{nid sz:Nat}{b:Bool}:(if xs.length=0 then some (AV.v (.slice none 0 0),([]:List (Nat × AO))) else some (.so nid 0 0 xs.length,[(nid,.rw (List.map f xs) sz 0 b false)]))=some (Aa nid 0 (List.map f xs),QD nid sz b (List.map f xs)):=by
 cases xs with
 |nil=>rfl
 |cons x r=>simp[Aa,QD]
attribute [go_sem] rR
end
section
open Go.RowKit
section
variable {K V:Type}[BEq K]
def mget (k:K):List (K × V)->Option V
 |[]=>none
 |p::r=>if k==p.1 then some p.2 else mget k r
def mset (k:K)(v:V):List (K × V)->List (K × V)
 |[]=>[(k,v)]
 |p::r=>if k==p.1 then(k,v)::r else p::mset k v r
def Ar (k:K)(m:List (K × V)):Bool:=(mget k m).isSome
def qg_ (k:K)(z:V)(m:List (K × V)):V:=(mget k m).getD z
end
def Ec {K:Type}[BEq K](q:Bool × List TK)(kv:K->Value):Prop:=∀a b,JQ q (kv a) (kv b)=some (a==b)
theorem UR:Ec (false,[.string]) Value.string:=fun _ _=>rfl
def AP {K V:Type}(kv:K->Value)(ev:V->AV)(m:List (K × V)):List (Value × AV):=m.map fun p=>(kv p.1,ev p.2)
section
variable {K V:Type}[BEq K]{q:Bool × List TK}{kv:K->Value}{ev:V->AV}
theorem Mr (hk:Ec q kv)(k:K):∀m:List (K × V),∃o,Dm q (kv k) (AP kv ev m)=some o/\(∀v,mget k m=some v->∃i,o=some (i,ev v)/\∀v',(AP kv ev m).set i (kv k,ev v')=AP kv ev (mset k v' m))/\(mget k m=none->o=none/\∀v',mset k v' m=m++[(k,v')])
 |[]=>⟨none,rfl,(fun v h=>by cases h),fun _=>⟨rfl,fun _=>rfl⟩⟩
 |p::r=>by
  obtain⟨o,h1,h2,h3⟩:=Mr hk k r;have e:AP kv ev (p::r)=(kv p.1,ev p.2)::AP kv ev r:=rfl;rw[e];unfold Dm;rw[hk k p.1];cases hb:(k==p.1)
  ·simp only[h1];have g:mget k (p::r)=mget k r:=(by simp[mget,hb]);have g2:∀v',mset k v' (p::r)=p::mset k v' r:=fun v'=>(by simp[mset,hb]);cases hm:mget k r with
   |none=>
    obtain⟨e1,e2⟩:=h3 hm;subst e1;refine⟨none,rfl,fun v h=> ?_,fun _=>⟨rfl,fun v'=> ?_⟩⟩
    ·rw[g,hm] at h;cases h
    ·rw[g2,e2];rfl
   |some v=>
    obtain⟨i,e1,e2⟩:=h2 v hm;subst e1;refine⟨some (i+1,ev v),rfl,fun v0 h=> ?_,fun h=> ?_⟩
    ·rw[g,hm] at h;cases h;refine⟨i+1,rfl,fun v'=> ?_⟩;rw[g2,O9,e2];rfl
    rw[g,hm] at h;cases h
  have g:mget k (p::r)=some p.2:=by simp[mget,hb]
  have g2:∀v',mset k v' (p::r)=(k,v')::r:=fun v'=>by simp[mset,hb]
  refine⟨some (0,ev p.2),rfl,fun v h=> ?_,fun h=> ?_⟩
  ·rw[g] at h;cases h;refine⟨0,rfl,fun v'=> ?_⟩;rw[g2];rfl
  rw[g] at h;cases h
theorem W4 (hk:Ec q kv)(k:K)(v:V)(m:List (K × V)):EG q (kv k) (ev v) (AP kv ev m)=some (AP kv ev (mset k v m)):=by
 obtain⟨o,h1,h2,h3⟩:=Mr (ev:=ev) hk k m;unfold EG;rw[h1];cases hm:mget k m with
 |none=>
  obtain⟨e1,e2⟩:=h3 hm;subst e1;simp only[e2];simp[AP]
 |some w=>
  obtain⟨i,e1,e2⟩:=h2 w hm;subst e1;simp only[e2]
def EM (q:Bool × List TK)(kv:Value)(z:AV)(ok:Bool)(es:List (Value × AV)):Option (AV × List (Nat × AO)):=
 match Dm q kv es with
 |some none=>some (if ok then .tu [z,.v (.bool false)] else z,[])
 |some (some (_,v))=>some (if ok then .tu [v,.v (.bool true)] else v,[])
 |none=>none
theorem SV (hk:Ec q kv)(k:K)(z:V)(ok:Bool)(m:List (K × V)):EM q (kv k) (ev z) ok (AP kv ev m)=some (if ok then .tu [ev (qg_ k z m),.v (.bool (Ar k m))] else ev (qg_ k z m),[]):=by
 obtain⟨o,h1,h2,h3⟩:=Mr (ev:=ev) hk k m;unfold EM;rw[h1];cases hm:mget k m with
 |none=>
  obtain⟨e1,e2⟩:=h3 hm;subst e1;simp[qg_,Ar,hm]
 |some w=>
  obtain⟨i,e1,e2⟩:=h2 w hm;subst e1;simp[qg_,Ar,hm]
end
def Jg (q:Option (Bool × List TK))(kv:Option Value)(z:Option AV)(zx:Bool->AV)(x:AV)(hp:Hp)(ok:Bool):Option (AV × List (Nat × AO)):=
 match q,kv,z with
 |some q,some kv,some z=>if F3 q kv then match x with
  | .mo i=>match hp i with
   |some (.mo es _)=>EM q kv z ok es
   |_=>none
  | .d (.mp es) b=>EM q kv (zx b) ok (Et b es)
  | .v (.map none)=>some (if ok then .tu [z,.v (.bool false)] else z,[])
  |_=>none else none
 |_,_,_=>none
@[go_sem ↓ high] theorem xn {tab:Nat->TI}(ρ:Operand->AV)(hp:Hp)(id T:Nat)(x k:Operand)(ok:Bool):CB tab ρ hp id (.lookup T x k ok)=Jg (tab T).mkey (EQ (ρ k)) (IA (tab (tab T).elem)) (fun b=>Mb b (tab (tab T).elem)) (ρ x) hp ok:=rfl
@[go_sem] theorem US (q:Bool × List TK)(kv:Value)(z:AV)(zx:Bool->AV)(i:Nat)(hp:Hp)(ok:Bool):Jg (some q) (some kv) (some z) zx (.mo i) hp ok=if F3 q kv then(match hp i with |some (.mo es _)=>EM q kv z ok es |_=>none) else none:=rfl
@[go_sem] theorem UT (q:Bool × List TK)(kv:Value)(z:AV)(zx:Bool->AV)(es:List (Value × Bool × List D))(b:Bool)(hp:Hp)(ok:Bool):Jg (some q) (some kv) (some z) zx (.d (.mp es) b) hp ok=if F3 q kv then EM q kv (zx b) ok (Et b es) else none:=rfl
def UU (q:Option (Bool × List TK))(kv:Option Value)(v x:AV)(hp:Hp):Option (AV × List (Nat × AO)):=
 match q,kv with
 |some q,some kv=>if F3 q kv/\Fh v then match x with
  | .mo i=>match hp i with
   |some (.mo es dl)=>(EG q kv v es).map fun es'=>(.un,[(i,.mo es' dl)])
   |_=>none
  |_=>none else none
 |_,_=>none
@[go_sem ↓ high] theorem xo {tab:Nat->TI}(ρ:Operand->AV)(hp:Hp)(id T:Nat)(m k x:Operand):CB tab ρ hp id (.mapUpdate T m k x)=UU (tab T).mkey (EQ (ρ k)) (ρ x) (ρ m) hp:=rfl
@[go_sem] theorem W5 (q:Bool × List TK)(kv:Value)(v:AV)(i:Nat)(hp:Hp):UU (some q) (some kv) v (.mo i) hp=if F3 q kv/\Fh v then(match hp i with
  |some (.mo es dl)=>(EG q kv v es).map fun es'=>(.un,[(i,.mo es' dl)])
  |_=>none) else none:=rfl
attribute [go_sem] F3 Pf Fi
abbrev vI (v:Int):AV:=.v (.int .i64 v)
section
variable (k z v:ByteArray)(i j:Int)(b:Bool)(ok:Bool)
@[go_sem] theorem W6 (m:List (ByteArray × Int)):EM (false,[.string]) (.string k) (.v (.int .i64 i)) ok (AP .string vI m)=some (if ok then .tu [.v (.int .i64 (qg_ k i m)),.v (.bool (Ar k m))] else .v (.int .i64 (qg_ k i m)),[]):=SV (ev:=vI) UR k i ok m
@[go_sem] theorem Zw (m:List (ByteArray × Int)):EG (false,[.string]) (.string k) (.v (.int .i64 j)) (AP .string vI m)=some (AP .string vI (mset k j m)):=W4 (ev:=vI) UR k j m
end
end
end Go.Proofs.YtnmkbmefohakmaaGreat.Ab
