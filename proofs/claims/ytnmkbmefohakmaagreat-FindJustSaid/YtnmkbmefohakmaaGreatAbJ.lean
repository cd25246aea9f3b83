/-
 Functions read off the code.
-/
import Derived.Test.YtnmkbmefohakmaaGreatAbI
set_option linter.all false
namespace Go.Proofs.YtnmkbmefohakmaaGreat.Ab
variable {br fr:Bool}{code:Code}{es:List (List D)}{α β:Type}{f:α->List D}{hp:Hp}{i:Int}{id j k n nid sz ver:Nat}{is:List Nat}{r:β}{vs:List AV}{x:AV}{xs:List α}{ys:List α}{zs:List α}{ρ:Nat->Option Nat}
section
open Go.RowKit
def idx {α:Type}(xs:List α)(i:Int):Option α:=if 0<=i then xs[i.toNat]? else none
def Fd {α:Type}(xs:List α)(d h:Int):Option (List α):=if 0<=d/\d<=h/\h<=xs.length then some ((xs.take h.toNat).drop d.toNat) else none
def IR (s:ByteArray)(d h:Int):Option ByteArray:=if 0<=d/\d<=h/\h<=s.size then some (s.extract d.toNat h.toNat) else none
def EL (s:ByteArray)(i:Int):Option Int:=if 0<=i then(s[i.toNat]?).map fun b=>(b.toNat:Int) else none
def Ek (a b:ByteArray):Option ByteArray:=if a.size+b.size<=maxLen then some (a++b) else none
def Cu {α:Type}(xs ys:List α):Option (List α):=if xs.length+ys.length<=4294967296 then some (xs++ys) else none
def Cy {β:Type}(c:Bool)(k:Option β):Option β:=if c then k else none
theorem Ah {c:Bool}{a b:Option β}(h:(if c then a else b)=some r):(c=true/\a=some r)\/(c=false/\b=some r):=by
 cases c
 ·exact .inr ⟨rfl,h⟩
 exact .inl ⟨rfl,h⟩
theorem Dv {c:Bool}{a:Option β}(h:Cy c a=some r):c=true/\a=some r:=by
 cases c
 ·cases h
 exact⟨rfl,h⟩
theorem AP {a:Option α}{f:α->Option β}(h:a.bind f=some r):∃x,a=some x/\f x=some r:=by
 cases a with
 |none=>cases h
 |some x=>exact⟨x,rfl,h⟩
theorem F0 {x:α}(h:idx xs i=some x):0<=i/\xs[i.toNat]? =some x:=by
 unfold idx at h;split at h
 ·exact⟨‹_›,h⟩
 cases h
theorem CC (k:IntKind)(h:0<=i):EY (.v (.int k i))=some i.toNat:=by simp[EY,Wx,h]
theorem Cz {x:α}(f:α->β)(h:xs[k]? =some x):(xs.map f)[k]? =some (f x):=by simp[h]
theorem EN {x:α}(h:xs[k]? =some x):k<xs.length:=(Lb.1 h).1
theorem KO {d l:Int}(h:Fd xs d l=some ys):0<=d/\d<=l/\l<=xs.length/\ys=(xs.take l.toNat).drop d.toNat:=by
 unfold Fd at h;split at h
 ·rename_i c;simp only[Lg] at h;exact⟨c.1,c.2.1,c.2.2,h.symm⟩
 cases h
theorem jD {s t:ByteArray}{d l:Int}(h:IR s d l=some t):0<=d/\d<=l/\l<=s.size/\t=s.extract d.toNat l.toNat:=by
 unfold IR at h;split at h
 ·rename_i c;simp only[Lg] at h;exact⟨c.1,c.2.1,c.2.2,h.symm⟩
 cases h
theorem HY {s:ByteArray}{x:Int}(h:EL s i=some x):0<=i/\∃b,s[i.toNat]? =some b/\x=(b.toNat:Int):=by
 unfold EL at h;split at h
 ·have⟨b,d,l⟩:=La.1 h;exact⟨‹_›,b,d,l.symm⟩
 cases h
theorem Fe {a b t:ByteArray}(h:Ek a b=some t):a.size+b.size<=maxLen/\a++b=t:=by
 unfold Ek at h;split at h
 ·simp only[Lg] at h;exact⟨‹_›,h⟩
 cases h
theorem Dp (h:Cu xs ys=some zs):xs.length+ys.length<=4294967296/\xs++ys=zs:=by
 unfold Cu at h;split at h
 ·simp only[Lg] at h;exact⟨‹_›,h⟩
 cases h
theorem D6 (f:α->β)(h:xs++ys=zs):xs.map f++ys.map f=zs.map f:=by rw[<-h,LX]
theorem D7 (h:xs++ys=zs):xs.length+ys.length=zs.length:=by rw[<-h,Ld]
theorem Fm (h:∀x,(f x).length=n)(xs:List α):EZ n (xs.map f)=true:=by simp[EZ,h]
def lk (n:Nat)(L:List (Nat × Nat))(i:Nat):Option Nat:=if Nat.blt i n then some i else match L.find? (fun p=>Nat.beq p.1 i) with
 |some p=>some p.2
 |none=>none
def Sv (n N:Nat):List (Nat × Nat)->Bool
 |[]=>true
 |(a,b)::r=>Nat.ble n a&&Nat.ble n b&&Nat.blt a N&&r.all (fun p=> !Nat.beq p.1 a&& !Nat.beq p.2 b)&&Sv n N r
theorem jE {L:List (Nat × Nat)}{i:Nat}{p:Nat × Nat}(h:L.find? (fun p=>Nat.beq p.1 i)=some p):p∈L/\p.1=i:=
 ⟨NL h,by have:=ON h;simpa using this⟩
theorem Ms {n N:Nat}:∀ {L:List (Nat × Nat)},Sv n N L=true->∀p∈L,n<=p.1/\n<=p.2/\p.1<N/\∀q∈L,q.2=p.2->q.1=p.1
 |[],_,p,hp=>by simp at hp
 |(a,b)::r,h,p,hp=>by
  simp only[Sv,Lm,Bp,LP,BF] at h;have⟨⟨⟨⟨w,A⟩,B⟩,u⟩,C⟩:=h;rcases Lv.1 hp with rfl |hp
  ·refine⟨w,A,B,fun q d e=> ?_⟩;rcases Lv.1 d with rfl |d
   ·rfl
   have l:=(u q d).2;have t:q.2=b:=e;rw[t] at l;simp at l
  have⟨E,F,G,H⟩:=Ms C p hp;refine⟨E,F,G,fun q d e=> ?_⟩;rcases Lv.1 d with rfl |d
  ·have l:=(u p hp).2;have t:b=p.2:=e;rw[<-t] at l;simp at l
  exact H q d e
theorem QQ {N nx:Nat}{E fr:Fr}{hp':Hp}(L:List (Nat × Nat))(w:(Nat.ble n N&&Sv n N L)=true)(H:∀t,E t= .un\/CZ (lk n L) (E t)=some (fr t))(I:∀i o,hp' i=some o->∃j F,lk n L i=some j/\Ce (lk n L) o=some F/\hp j=some F):CE n ⟨E,hp',N⟩ ⟨fr,hp,nx⟩:=by
 rw[Lm,Bp] at w;have⟨J,w⟩:=w;have B:∀i,i<n->lk n L i=some i:=fun i d=>by
  unfold lk;rw[if_pos (by simpa using d)]
 have C:∀i j,n<=i->lk n L i=some j->(i,j)∈L:=fun i j d h=>by
  unfold lk at h;rw[if_neg (by simpa using d)] at h;split at h
  ·rename_i p hp;have⟨l,u⟩:=jE hp;simp only[Lg] at h;rw[<-u,<-h];exact l
  cases h
 refine .ren (lk n L) ⟨B,fun i j d h=> ?_,fun i A j l u=> ?_,H,I,J⟩
 ·have⟨R,M,O,_⟩:=Ms w _ (C i j d h);exact⟨M,O⟩
 by_cases d:i<n<;>by_cases G:A<n
 ·rw[B i d] at l;rw[B A G] at u;cases l;cases u;rfl
 ·rw[B i d] at l;cases l
  have:=(Ms w _ (C A i (by omega) u)).2.1;simp only at this;omega
 ·rw[B A G] at u;cases u
  have:=(Ms w _ (C i A (by omega) l)).2.1;simp only at this;omega
 exact(Ms w _ (C A j (by omega) u)).2.2.2 _ (C i j (by omega) l) rfl
theorem Mt (fr:Fr):∀t,AJ t= .un\/CZ ρ (AJ t)=some (fr t):=fun _=>.inl rfl
theorem Xq {d fr:Fr}(h:CZ ρ x=some (fr k))(l:∀t,d t= .un\/CZ ρ (d t)=some (fr t)):∀t,upd k x d t= .un\/CZ ρ (upd k x d t)=some (fr t):=fun t=>by
 unfold upd;split
 ·rename_i e;subst e;exact .inr h
 exact l t
theorem th (ρ:Nat->Option Nat):EK ρ []=some []:=rfl
theorem a8 {y:AV}{xs ys:List AV}(h:CZ ρ x=some y)(d:EK ρ xs=some ys):EK ρ (x::xs)=some (y::ys):=by simp only[EK,h,d]
theorem tj {cs ds:List AV}(h:EK ρ cs=some ds):Ce ρ (.bx cs)=some (.bx ds):=by simp only[Ce,h,LT]
theorem Mu (hp:Hp):∀i o,AK i=some o->∃j d,ρ i=some j/\Ce ρ o=some d/\hp j=some d:=fun _ _ h=>by cases h
theorem K5 {hp':Hp}{x:Option AO}(h:∀o,x=some o->∃j d,ρ k=some j/\Ce ρ o=some d/\hp j=some d)(l:∀i o,hp' i=some o->∃j d,ρ i=some j/\Ce ρ o=some d/\hp j=some d):∀i o,upd k x hp' i=some o->∃j d,ρ i=some j/\Ce ρ o=some d/\hp j=some d:=fun i o=>by
 unfold upd;split
 ·rename_i e;subst e;exact h o
 exact l i o
theorem Sw {o o':AO}(d:ρ k=some j)(h:Ce ρ o=some o')(l:hp j=some o'):∀p,some o=some p->∃j o',ρ k=some j/\Ce ρ p=some o'/\hp j=some o':=fun p e=>by
 cases e;exact⟨j,o',d,h,l⟩
theorem jF (h:ρ id=some j):CZ ρ (AW id ver es)=some (AW j ver es):=by
 cases es with
 |nil=>rfl
 |cons e r=>simp only[AW,CZ,h];rfl
theorem jG (h:ρ id=some j)(l:hp j=Am sz ver br es):∀p,Am sz ver br es=some p->∃j d,ρ id=some j/\Ce ρ p=some d/\hp j=some d:=fun p e=>by
 refine⟨j,p,h,?_,by rw[l,e]⟩;cases es with
 |nil=>cases e
 |cons t r=>simp only[Am,Lg] at e;subst e;rfl
def IS (k:TK)(x:AV):Option (AV × List (Nat × AO)):=match k,x with
 | .slice,.d (.sl es) _=>some (.v (.int .i64 es.length),[])
 | .slice,.so _ _ _ n=>some (.v (.int .i64 n),[])
 | .slice,.v (.slice none 0 0)=>some (.v (.int .i64 0),[])
 | .string,.v (.string s)=>some (.v (.int .i64 s.size),[])
 |_,_=>none
@[go_sem ↓ high] theorem oW_ {tab:Nat->TI}(ρ:Operand->AV)(hp:Hp)(id:Nat)(x:Operand)(T:TypeId):Cc tab ρ hp id (.call { callee:=.builtin .len,args:= #[x],argTypes:= #[T] })=IS (tab T).kind (ρ x):=rfl
@[go_sem] theorem bA (es:List (List D))(b:Bool):IS .slice (.d (.sl es) b)=some (.v (.int .i64 es.length),[]):=rfl
@[go_sem] theorem Xr (i v o n:Nat):IS .slice (.so i v o n)=some (.v (.int .i64 n),[]):=rfl
@[go_sem] theorem Ux:IS .slice (.v (.slice none 0 0))=some (.v (.int .i64 0),[]):=rfl
@[go_sem] theorem Uy (s:ByteArray):IS .string (.v (.string s))=some (.v (.int .i64 s.size),[]):=rfl
@[go_sem] theorem Uz (id ver:Nat)(es:List (List D)):IS .slice (AW id ver es)=some (.v (.int .i64 es.length),[]):=by cases es<;>rfl
def Fo (o:Option AO)(ver id:Nat):List (List D)->Option (D × Bool × List Nat)
 |[]=>some (.sl [],false,[])
 |_::r=>match o with
  |some (.rw es _ v br _)=>if v=ver then some (.sl (es.take (r.length+1)),br,[id]) else none
  |_=>none
def GN (br:Bool):List (List D)->Bool
 |[]=>false
 |_::_=>br
def GO (id:Nat):List (List D)->List Nat
 |[]=>[]
 |_::_=>[id]
@[go_sem] theorem Xs (es:List (List D)):GN false es=false:=by cases es<;>rfl
@[go_sem] theorem tl (hp:Hp)(id ver:Nat)(es:List (List D)):Ci hp (AW id ver es)=Fo (hp id) ver id es:=by
 cases es with
 |nil=>rfl
 |cons e r=>simp only[AW,Fo,Ci,LD]<;>rfl
@[go_sem] theorem Xt (hp:Hp)(id ver:Nat)(es:List (List D)):FJ hp (AW id ver es)=Fo (hp id) ver id es:=by
 cases es with
 |nil=>rfl
 |cons e r=>simp only[AW,Fo,FJ,Ci,LD]<;>rfl
@[go_sem] theorem Sx (hp:Hp)(id ver:Nat)(es:List (List D)):Gb hp (AW id ver es)=(Fo (hp id) ver id es).bind fun p=>match p with |(.sl x,b,is)=>some (x,b,is) |_=>none:=by
 cases es with
 |nil=>rfl
 |cons e r=>
  simp only[AW,Gb,Fo,LD];generalize hp id=o;cases o with
  |none=>rfl
  |some o=>cases o with
   |rw es sz v br d=>
    simp only;by_cases h:v=ver
    ·simp[h]
    ·rw[if_neg h,if_neg fun e=>h e.symm];rfl
   |bx cs=>rfl
   |mo a b=>rfl
@[go_sem] theorem Xu (hp:Hp)(id ver:Nat)(es:List (List D)):toR hp (AW id ver es)=Fo (hp id) ver id es:=by
 cases es with
 |nil=>rfl
 |cons e r=>simp only[AW,Fo,toR,FJ,Ci,LD]<;>rfl
@[go_sem] theorem U0 (sz ver id:Nat)(br:Bool)(es:List (List D)):Fo (Am sz ver br es) ver id es=some (.sl es,GN br es,GO id es):=by
 cases es with
 |nil=>rfl
 |cons e r=>simp[Fo,Am,GN,GO]
theorem JN (h:0<xs.length):AW id ver (xs.map f)= .so id ver 0 xs.length:=by
 cases xs with
 |nil=>cases h
 |cons x r=>simp[AW]
theorem U1 (h:0<xs.length):Am sz ver br (xs.map f)=some (.rw (xs.map f) sz ver br false):=by
 cases xs with
 |nil=>cases h
 |cons x r=>simp[Am]
theorem jH (h:ρ id=some j)(d:0<xs.length):CZ ρ (AW id ver (xs.map f))=some (.so j ver 0 xs.length):=by
 rw[JN d];simp[CZ,h]
theorem tm (h:ρ id=some j)(l:0<xs.length)(t:hp j=some (.rw (xs.map f) sz ver br false)):∀p,Am sz ver br (xs.map f)=some p->∃j d,ρ id=some j/\Ce ρ p=some d/\hp j=some d:=
 jG h (by rw[U1 l];exact t)
theorem tv:∀p,Am sz ver br []=some p->∃j d,ρ id=some j/\Ce ρ p=some d/\hp j=some d:=fun p e=>by cases e
def IT (tab:Nat->TI)(nid T T':Nat)(hp:Hp)(y:AV)(ny:Option Nat)(x:AV):Option (AV × List (Nat × AO)):=
 if T=T'/\(tab T).kind= .slice/\(tab (tab T).elem).ok/\0<(tab (tab T).elem).size then
   match Gb hp y,x with
   |some (ys,b,_),.v (.slice none 0 0)=>
    if EZ (tab (tab T).elem).size ys/\(tab (tab T).elem).bytes<=32768/\ys.length<=4294967296 then
     if ys.length=0 then some (.v (.slice none 0 0),[]) else some (.so nid 0 0 ys.length,[(nid,.rw ys (tab (tab T).elem).size 0 b false)])
    else none
   |some (ys,b,_),.so i v d n=>match hp i with
    |some (.rw es sz ver br false)=>
     if v=ver/\d=0/\n<=es.length/\sz=(tab (tab T).elem).size/\EZ sz ys/\(tab (tab T).elem).bytes<=32768/\n+ys.length<=4294967296 then
      some (.so i (ver+1) 0 (n+ys.length),[(i,.rw (es.take n++ys) sz (ver+1) (br||b) false)]) else none
    |_=>none
   |_,_=>none
  else Gk tab nid T T' x ny
@[go_sem ↓ high] theorem oX_ {tab:Nat->TI}(ρ:Operand->AV)(hp:Hp)(id:Nat)(x y:Operand)(T T':TypeId):Cc tab ρ hp id (.call { callee:=.builtin .append,args:= #[x,y],argTypes:= #[T,T'] })=IT tab id T T' hp (ρ y) (EY (ρ y)) (ρ x):=rfl
section
variable {tab:Nat->TI}{nid T T':Nat}{hp:Hp}{y:AV}{ny:Option Nat}
@[go_sem] theorem tw:IT tab nid T T' hp y ny (.v (.slice none 0 0))=if T=T'/\(tab T).kind= .slice/\(tab (tab T).elem).ok/\0<(tab (tab T).elem).size then
   match Gb hp y with
   |some (ys,b,_)=>
    if EZ (tab (tab T).elem).size ys/\(tab (tab T).elem).bytes<=32768/\ys.length<=4294967296 then
     if ys.length=0 then some (.v (.slice none 0 0),[]) else some (.so nid 0 0 ys.length,[(nid,.rw ys (tab (tab T).elem).size 0 b false)])
    else none
   |_=>none
  else Gk tab nid T T' (.v (.slice none 0 0)) ny:=by
 unfold IT;split
 ·cases Gb hp y<;>rfl
 rfl
@[go_sem] theorem tz (i v d n:Nat):IT tab nid T T' hp y ny (.so i v d n)=if T=T'/\(tab T).kind= .slice/\(tab (tab T).elem).ok/\0<(tab (tab T).elem).size then
   match Gb hp y with
   |some (ys,b,_)=>match hp i with
    |some (.rw es sz ver br false)=>
     if v=ver/\d=0/\n<=es.length/\sz=(tab (tab T).elem).size/\EZ sz ys/\(tab (tab T).elem).bytes<=32768/\n+ys.length<=4294967296 then
      some (.so i (ver+1) 0 (n+ys.length),[(i,.rw (es.take n++ys) sz (ver+1) (br||b) false)]) else none
    |_=>none
   |_=>none
  else Gk tab nid T T' (.so i v d n) ny:=by
 unfold IT;split
 ·cases Gb hp y<;>rfl
 rfl
def GP (tab:Nat->TI)(nid T T':Nat)(r:Option (List (List D) × Bool × List Nat))(id ver:Nat)(es:List (List D))(o:Option AO):Option (AV × List (Nat × AO)):=
 if T=T'/\(tab T).kind= .slice/\(tab (tab T).elem).ok/\0<(tab (tab T).elem).size then match r with
  |some (ys,b,_)=>match es with
   |[]=>if EZ (tab (tab T).elem).size ys/\(tab (tab T).elem).bytes<=32768/\ys.length<=4294967296 then
     if ys.length=0 then some (.v (.slice none 0 0),[]) else some (.so nid 0 0 ys.length,[(nid,.rw ys (tab (tab T).elem).size 0 b false)]) else none
   |_::_=>match o with
    |some (.rw d sz v br false)=>if ver=v/\es.length<=d.length/\sz=(tab (tab T).elem).size/\EZ sz ys/\(tab (tab T).elem).bytes<=32768/\es.length+ys.length<=4294967296 then
      some (.so id (v+1) 0 (es.length+ys.length),[(id,.rw (d.take es.length++ys) sz (v+1) (br||b) false)]) else none
    |_=>none
  |_=>none
 else none
@[go_sem] theorem U2 (h:T=T'/\(tab T).kind= .slice/\(tab (tab T).elem).ok/\0<(tab (tab T).elem).size)(id ver:Nat)(es:List (List D)):IT tab nid T T' hp y ny (AW id ver es)=GP tab nid T T' (Gb hp y) id ver es (hp id):=by
 cases es with
 |nil=>
  rw[Ut,tw,if_pos h];unfold GP;rw[if_pos h]
 |cons e r=>
  rw[jC,tz,if_pos h];unfold GP;rw[if_pos h];generalize Gb hp y=d;generalize hp id=l;cases d with
  |none=>rfl
  |some p=>cases l with
   |none=>rfl
   |some o=>cases o with |rw u sz v br t=>cases t<;>simp |bx cs=>rfl |mo a b=>rfl
@[go_sem] theorem U3 {ys:List (List D)}{b:Bool}(h:T=T'/\(tab T).kind= .slice/\(tab (tab T).elem).ok/\0<(tab (tab T).elem).size)(t:sz=(tab (tab T).elem).size/\EZ sz ys/\(tab (tab T).elem).bytes<=32768/\es.length+ys.length<=4294967296)(u:¬ys.length=0)(w:(br||b)=b):
  GP tab nid T T' (some (ys,b,is)) id ver es (Am sz ver br es)=some (.so (CF nid id es) (CG ver es) 0 (es.length+ys.length),[(CF nid id es,.rw (es++ys) sz (CG ver es) b false)]):=by
 have⟨A,d,l,p⟩:=t;subst A;unfold GP;rw[if_pos h];cases es with
 |nil=>
  have:ys.length<=4294967296:=by simpa using p
  simp[CF,CG,d,l,this,u]
 |cons e r=>
  have:r.length+1+ys.length<=4294967296:=by simpa using p
  simp[CF,CG,Am,d,l,this,w]
end
@[go_sem] theorem jI (d:¬j=nid)(h:¬j=id):(j=CF nid id es)=False:=by
 cases es<;>simp[CF,d,h]
@[go_sem] theorem jJ (d:¬j=nid)(h:¬j=id):(CF nid id es=j)=False:=by
 cases es<;>simp only[CF,eq_iff_iff,iff_false]<;>intro e<;>first |exact d e.symm |exact h e.symm
@[go_sem] theorem U4 (id ver:Nat)(es:List (List D)):CD (AW id ver es)=GO id es:=by cases es<;>rfl
attribute [go_sem] List.drop_nil List.take_nil
theorem uA (n:Nat):((no_index (OfNat.ofNat n:Nat):Nat):Int)=OfNat.ofNat n:=rfl
theorem QR (h:∀x,H0 (f x)=true)(xs:List α):H9 (xs.map f)=true:=by simp[H9,h]
@[go_sem] theorem oY_:H0 []=true:=rfl
@[go_sem] theorem lG_ (c:D)(r:List D):H0 (c::r)=(SB c&&H0 r):=rfl
@[go_sem] theorem jK (x:Value):SB (.v x)=true:=rfl
@[go_sem] theorem bB (x:List (List D)):SB (.sl x)=false:=rfl
@[go_sem] theorem lH_ (c:List D)(r:List (List D)):H9 (c::r)=(H0 c&&H9 r):=rfl
attribute [go_sem] uA gt_iff_lt ge_iff_le List.all_cons List.all_nil O8 beq_self_eq_true bne_self_eq_false decide_true decide_false Lt Lc not_false_eq_true not_true_eq_false HQ Lf Option.toList
abbrev eS (x:ByteArray):List D:=[D.v (.string x)]
abbrev eI (x:Int):List D:=[D.v (.int .i64 x)]
abbrev eB (x:Bool):List D:=[D.v (.bool x)]
abbrev eL {α:Type}(f:α->List D)(x:List α):List D:=[D.sl (List.map f x)]
attribute [go_sem] eS eI eB eL
def DG (n:Nat)(P:Program)(code:Code)(Q:Ex->St->Prop)(s:St):Prop:=∀(g:Gh) (N:Nat) (c:Cf) (a:Act),Du N code=true->EM g s c a N->n<=s.nx->code.wp P (DC g N Q n c) a c.w
theorem DC.mono {g:Gh}{N:Nat}{Q Q':Ex->St->Prop}{c:Cf}{e:Exit}{l:Act}{w':World}(h:DC g N Q n c e l w')(t:∀d s,Q d s->Q' d s):DC g N Q' n c e l w':=by
 have⟨d,p,u,w,A,B⟩:=h;exact⟨d,p,u,w,t d p A,B⟩
def DY (n:Nat)(P:Program):List It->(Ex->St->Prop)->Ex->St->Prop
 |[],Q,e,s=>Q e s
 | .c x::k,Q,e,s=>match e with
  | .normal=>DG n P x (DY n P k Q) s
  | .ret=>DY n P k Q .ret s
  | .exit m=>DY n P k Q (.exit m) s
 | .blk m::k,Q,e,s=>match e with
  | .normal=>DY n P k Q .normal s
  | .ret=>DY n P k Q .ret s
  | .exit d=>if d=m then DY n P k Q .normal s else DY n P k Q (.exit d) s
 | .lp X::k,Q,e,s=>match e with
  | .normal=>X s
  | .ret=>DY n P k Q .ret s
  | .exit m=>DY n P k Q (.exit m) s
def CQ (n:Nat)(P:Program)(k:List It)(Q:Ex->St->Prop)(s:St):Prop:=DY n P k Q .normal s
section
variable {P:Program}{tab:Nat->TI}{k:List It}{Q Q':Ex->St->Prop}{s:St}{a b x:Code}{n m:Nat}
theorem DG.mono (d:∀e s,Q e s->Q' e s)(h:DG n P a Q s):DG n P a Q' s:=fun g N c l p t u=>Code.wp_mono (fun _ _ _ hp=>DC.mono hp d) (h g N c l p t u)
theorem uB (d:Ad P tab)(l:P.follows .mixedOrders=true)(h:W P tab a Q s):DG n P a Q s:=fun _ _ c p t u w=>Code.wp_mono (fun _ _ _ hp=>Dl.toR hp w) (Z5 d l a Q s c p t h u)
theorem uC (h:DG n P a (fun e d=>match e with | .normal=>DG n P b Q d |e=>Q e d) s):DG n P (.seq a b) Q s:=by
 intro g N c E l F G;simp only[Du,Lm] at l;refine wp_seq (Code.wp_mono (fun e C H hp=> ?_) (h g N c E l.1 F G));have⟨I,d,p,J,t,u,L,w,A,B⟩:=hp;subst J;subst L;cases I with
 |normal=>exact Code.wp_mono (fun e C H hp=>DC.after hp w B) (t g N p C l.2 u A)
 |ret=>exact⟨.ret,d,p,rfl,t,u,rfl,w,A,B⟩
 |exit n=>exact⟨.exit n,d,p,rfl,t,u,rfl,w,A,B⟩
theorem uD (h:DG n P a (fun e d=>match e with | .exit p=>if p=m then Q .normal d else Q (.exit p) d |e=>Q e d) s):DG n P (.block m a) Q s:=by
 intro g N c E F G H;refine wp_block (Code.wp_mono (fun e L M hp=> ?_) (h g N c E F G H));have⟨I,d,t,J,l,u,w,A,B,C⟩:=hp;subst J;cases I with
 |normal=>exact⟨.normal,d,t,rfl,l,u,w,A,B,C⟩
 |ret=>exact⟨.ret,d,t,rfl,l,u,w,A,B,C⟩
 |exit p=>
  simp only[Ex.up,Exit.inBlock];by_cases e:p=m
  ·rw[if_pos e];simp only[if_pos e] at l;exact⟨.normal,d,t,rfl,l,u,w,A,B,C⟩
  rw[if_neg e];simp only[if_neg e] at l;exact⟨.exit p,d,t,rfl,l,u,w,A,B,C⟩
theorem uE (l:α->St)(B:α->Nat)(x0:α)(X:CE n (l x0) s)(Y:∀x,DG n P a (fun e p=>match e with | .normal=>∃t,CE n (l t) p/\B t<B x |e=>Q e p) (l x)):DG n P (.loop a) Q s:=by
 have Z:∀j x,B x=j->n<=(l x).nx->∀(g:Gh) (N:Nat) (c:Cf) (d:Act),Du N a=true->EM g (l x) c d N->∀(b:Frame) (k:List Item) (cs:List Frame),∃e C E,DC g N Q n c e C E/\Arrives P (lone (b.at d (.code a:: .inLoop a::k)) cs c.w) b k cs e C E:=by
  intro j;induction j using Nat.strongRecOn with
  |_ j ih=>
   intro x hx H g N c d F I b k cs;have⟨e,J,ak,L,h⟩:=Y x g N c d F I H b (.inLoop a::k) cs;have⟨ex,p,G,M,u,w,O,A,R,S⟩:=L;subst M;subst O;cases ex with
   |normal=>
    have⟨t,hw,ao⟩:=u;have⟨c2,q1,q2,q3,q4,q5⟩:=w.weakR R hw;have⟨aa,ab,ad,ag,U⟩:=ih (B t) (by omega) t rfl q4 g N c2 J F q1 b k cs;rw[q2] at U;exact⟨aa,ab,ad,DC.after (DC.after ag q3 q5) A S,.of_steps (Steps.trans h (.one step_inLoop)) U⟩
   |ret=>exact⟨_,J,_,⟨.ret,p,G,rfl,u,w,rfl,A,R,S⟩,.pass (x:=.inLoop a) rfl (fun _ _=>.inl (by simp[Ex.up])) h⟩
   |exit m=>exact⟨_,J,_,⟨.exit m,p,G,rfl,u,w,rfl,A,R,S⟩,.pass (x:=.inLoop a) rfl (fun _ _=>.inl (by simp[Ex.up])) h⟩
 intro g N c d F I H b k cs;have⟨G,M,u,w,O,A⟩:=I.weakR H X;have⟨e,C,E,L,h⟩:=Z _ x0 rfl O g N G d F M b k cs;rw[u] at h;exact⟨e,C,E,DC.after L w A,.of_steps (.one step_loop) h⟩
theorem DG.join {R:St->Prop}(h:DG n P a (fun e d=>match e with | .normal=>∃l,CE n l d/\R l |e=>Q e d) s):DG n P a (fun e d=>match e with | .normal=>R d |e=>Q e d) s:=by
 intro g N c G H I J;refine Code.wp_mono (fun e a' w' hp=> ?_) (h g N c G H I J);have⟨L,d,F,p,t,u,w,A,B,C⟩:=hp;cases L with
 |normal=>
  have⟨l,M,O⟩:=t;have⟨S,U,X,Y,q4,q5⟩:=u.weakR B M;refine⟨.normal,l,S,p,O,U,X.trans w,A.trans Y,q4,fun i hi=> ?_⟩;rcases q5 i hi with E |E
  ·exact C i E
  ·exact .inr E
 |ret=>exact⟨.ret,d,F,p,t,u,w,A,B,C⟩
 |exit m=>exact⟨.exit m,d,F,p,t,u,w,A,B,C⟩
theorem Xv:∀(k:List It),DY n P k Q .ret s=Q .ret s
 |[]=>rfl
 | .c _::k=>Xv k
 | .blk _::k=>Xv k
 | .lp _::k=>Xv k
theorem uF:DY n P (.c a::k) Q (.exit m) s=DY n P k Q (.exit m) s:=rfl
theorem uG {X:St->Prop}:DY n P (.lp X::k) Q (.exit m) s=DY n P k Q (.exit m) s:=rfl
theorem uH {d:Nat}:DY n P (.blk m::k) Q (.exit d) s=if d=m then CQ n P k Q s else DY n P k Q (.exit d) s:=rfl
theorem uI {e:Ex}:DY n P [] Q e s=Q e s:=rfl
theorem uJ:DY n P k Q .normal s=CQ n P k Q s:=rfl
theorem uK:CQ n P [] Q s=Q .normal s:=rfl
theorem uL:CQ n P (.blk m::k) Q s=CQ n P k Q s:=rfl
theorem uM {X:St->Prop}:CQ n P (.lp X::k) Q s=X s:=rfl
theorem AU (h:CQ n P (.c a:: .c b::k) Q s):CQ n P (.c (.seq a b)::k) Q s:=
 uC (DG.mono (fun e s h=>by cases e<;>exact h) (show DG n P a (DY n P (.c b::k) Q) s from h))
theorem CV (h:CQ n P (.c a:: .blk m::k) Q s):CQ n P (.c (.block m a)::k) Q s:=
 uD (DG.mono (fun e s h=>by cases e<;>exact h) (show DG n P a (DY n P (.blk m::k) Q) s from h))
theorem DV (d:α->St)(l:α->Nat)(x0:α)(u:CE n (d x0) s)(w:∀x,CQ n P [.c a,.lp fun t=>∃p,CE n (d p) t/\l p<l x] (DY n P k Q) (d x)):CQ n P (.c (.loop a)::k) Q s:=
 uE d l x0 u fun x=>DG.mono (fun e s h=>by cases e<;>exact h) (show DG n P a (DY n P [.lp fun t=>∃p,CE n (d p) t/\l p<l x] (DY n P k Q)) (d x) from w x)
theorem Dw (l:α->St)(p:CQ n P [.c x,.lp fun d=>∃y,CE n (l y) d] (DY n P k Q) s)(t:∀y,CQ n P k Q (l y)):CQ n P (.c x::k) Q s:=by
 have:DG n P x (fun e d=>match e with | .normal=>CQ n P k Q d |e=>DY n P k Q e d) s:=by
  refine DG.join (DG.mono ?_ (show DG n P x (DY n P [.lp fun d=>∃y,CE n (l y) d] (DY n P k Q)) s from p));intro e d h;cases e with
  |normal=>
   have⟨y,u⟩:=h;exact⟨_,u,t y⟩
  |ret=>exact h
  |exit m=>exact h
 exact DG.mono (fun e s h=>by cases e<;>exact h) this
theorem ED {y:Operand}{c:Bool}(h:ev s.fr y= .v (.bool c))(u:c=true)(w:CQ n P (.c a::k) Q s):CQ n P (.c (.cond y a b)::k) Q s:=by
 intro g N d l p t A;simp only[Du,Lm] at p;have B:=(show A6 g d (.v (.bool c)) (l.eval y) by rw[<-h];exact KI t.fr y).v.1;subst u;refine wp_cond_split B (fun _=> ?_) fun e=>by cases e
 exact Code.wp_mono (fun _ _ _ hp=>hp.mono fun e s h=>by cases e<;>exact h) (w g N d l p.1 t A)
theorem DI {y:Operand}{c:Bool}(h:ev s.fr y= .v (.bool c))(u:c=false)(w:CQ n P (.c b::k) Q s):CQ n P (.c (.cond y a b)::k) Q s:=by
 intro g N d l p t A;simp only[Du,Lm] at p;have B:=(show A6 g d (.v (.bool c)) (l.eval y) by rw[<-h];exact KI t.fr y).v.1;subst u;refine wp_cond_split B (fun e=>by cases e) fun _=> ?_;exact Code.wp_mono (fun _ _ _ hp=>hp.mono fun e s h=>by cases e<;>exact h) (w g N d l p.2 t A)
theorem KP (l:Ad P tab)(p:P.follows .mixedOrders=true):∀(w d:List It) (e:Ex) (s:St),C0 P tab w (DY n P d Q) e s->DY n P (w++d) Q e s
 |[],d,e,s,h=>h
 | .c x::k,d,e,s,h=>by
  cases e with
  |normal=>exact uB l p (Ky x _ _ s (fun e s h=>KP l p k d e s h) h)
  |ret=>exact KP l p k d _ s h
  |exit m=>exact KP l p k d _ s h
 | .blk m::k,d,e,s,h=>by
  cases e with
  |normal=>exact KP l p k d _ s h
  |ret=>exact KP l p k d _ s h
  |exit t=>
   show if t=m then _ else _
   have u:(if t=m then C0 P tab k (DY n P d Q) .normal s else C0 P tab k (DY n P d Q) (.exit t) s):=h;by_cases e:t=m
   ·rw[if_pos e] at u⊢;exact KP l p k d _ s u
   ·rw[if_neg e] at u⊢;exact KP l p k d _ s u
 | .lp X::k,d,e,s,h=>by
  cases e with |normal=>exact h |ret=>exact KP l p k d _ s h |exit m=>exact KP l p k d _ s h
theorem uN (d:Ad P tab)(l:P.follows .mixedOrders=true)(m:Nat)(h:run P tab (k.take m) (DY n P (k.drop m) Q) s):CQ n P k Q s:=by
 have:=KP d l (k.take m) (k.drop m) .normal s h;rwa [LK] at this
theorem U5 (p:Ad P tab){f:FuncId}{fn:Func}(t:P.funcs[f]? =some fn)(u:fn.body=some code)(w:(fn.name== "runtime.NumGoroutine")=false)(d:Du fn.ntmps code=true){nx:Nat}{R:AV->Hp->Nat->Prop}
  (A:vs.length<=fn.ntmps) (h:CQ nx P [.c code] (DX tab fn.results R) ⟨D0 vs,hp,nx⟩):AT P f vs hp nx R:=by
 have B:Sem P code (DX tab fn.results R) ⟨D0 vs,hp,nx⟩:=fun g N c C d l=>
  Code.wp_mono (fun e E F hp=>DC.toE (hp.mono fun e s h=>by cases e<;>exact h) l.hr l.kn) ((show DG nx P code (DY nx P [] (DX tab fn.results R)) _ from h) g N c C d l (Lc _))
 exact i8 p t u w d A (Sem.mono (fun e s h=>by cases e<;>exact h) B)
theorem uO (p:Ad P tab){f:FuncId}{fn:Func}(t:P.funcs[f]? =some fn)(u:fn.body=some code)(w:(fn.name== "runtime.NumGoroutine")=false)(A:Du fn.ntmps code=true){ds:List D}{d:D}{l:Bool}
  (B:ds.length<=fn.ntmps) (h:CQ 0 P [.c code] (DX tab fn.results (Fk d l)) ⟨D0 (ds.map (CI true)),AK,0⟩):AM P f ds d l:=
 Z8 (U5 p t u w A (by simpa using B) h)
end
attribute [go_sem] Xv uF uG uH uI uJ uK uL uM
@[go_sem] theorem U6 (hp:Hp)(i:Nat)(r:List Nat):frz hp (i::r)=match hp i with |some (.rw es sz v br _)=>(i,.rw es sz v br true)::frz hp r |_=>frz hp r:=rfl
end
section
open Go.RowKit
inductive DA where
 |d (x:D)
 |fn (f:FuncId) (caps:List D)
def DA.av:DA->AV
 | .d x=>CI true x
 | .fn f caps=>.fn f (caps.map (CI true))
def Mv (hp:Hp):AV->Option (D × Bool × List Nat)
 | .pt id d=>match hp id with
  |some (.bx cs)=>(Dk hp cs).map fun(h,b,is)=>(.pt h d,b,id::is)
  |_=>none
 |x=>Ci hp x
def F6 (hp:Hp):List AV->Option (List D × Bool × List Nat)
 |[]=>some ([],false,[])
 |c::r=>match Mv hp c,F6 hp r with
  |some (d,b,i),some (h,l,p)=>some (d::h,b||l,i++p)
  |_,_=>none
def JO (hp:Hp):AV->Option (DA × Bool × List Nat)
 | .fn f h=>(F6 hp h).map fun(l,b,is)=>(.fn f l,b,is)
 | .pt id p=>(Mv hp (.pt id p)).map fun(d,b,is)=>(.d d,b,is)
 |x=>(FJ hp x).map fun(d,b,is)=>(.d d,b,is)
def Es (hp:Hp):List AV->Option (List DA × Bool × List Nat)
 |[]=>some ([],false,[])
 |c::r=>match JO hp c,Es hp r with
  |some (d,b,i),some (h,l,p)=>some (d::h,b||l,i++p)
  |_,_=>none
def U7 (w:World)(I:Nat->Prop):DA->Value->Prop
 | .d x,u=>Dc w I x u
 | .fn f d,u=>∃(h:Nat->Value) (n:Nat),d.length=n/\u= .func (.func f) #[] (Array.ofFn (n:=n) fun j=>h j)/\∀(j:Nat) (x:D),d[j]? =some x->RC w I x (h j)
def CP (P:Program)(f:FuncId)(as:List DA)(d:D)(fr:Bool):Prop:=JK P f/\∀(w:World) (l:Nat->Prop) (p:Array Value),(∀k,l k->k<w.heap.size)->p.size=as.length->(∀(j:Nat) (x:DA),as[j]? =some x->∃u,p[j]? =some u/\U7 w (fun k=>k<w.heap.size/\¬l k) x u)->Calls P f p w fun e h=>∃u,e= .returned u/\(Below w.heap.size w h/\w.drawn<=h.drawn)/\RV h (fun k=>k<h.heap.size/\¬l k/\(fr=true->w.heap.size<=k)) d u
theorem CP.of_pure {P:Program}{f:FuncId}{ds:List D}{d:D}(h:AM P f ds d fr):CP P f (ds.map .d) d fr:=
 ⟨h.1,fun w l p t u A=>h.2 w l p t (by simpa using u) fun j x B=>A j (.d x) (by simp[B])⟩
section
variable {P:Program}{tab:Nat->TI}{g:Gh}{c:Cf}
theorem jL {u:Value}{d:D}{b:Bool}(t:HR g c)(w:c.hp=hp)(h:RA g c x u)(l:Mv hp x=some (d,b,is))(I:Nat->Prop)(E:∀k,Im g c b k->I k)
  (A:∀i∈is,I (c.φ i)):RC c.w I d u:=by
 unfold Mv at l;split at l
 ·rename_i id B;split at l
  ·rename_i cs p;have⟨⟨F,X,Y⟩,H,G⟩:=La.1 l;simp only[LE] at G;obtain⟨rfl,rfl,rfl⟩:=G;cases h with
   |pt _ _ Z ho=>
    rw[<-w] at p;have⟨T,vs,J,h2,L⟩:=t.obj id _ p;have M:∀(j:Nat) (x:AV),cs[j]? =some x->RA g c x (vs.getD j undef):=fun j x C=>by
     have⟨u,N,O⟩:=L j x C;rw[LJ,N];exact O
    have⟨g1,R⟩:=W5 t w I (fun j=>vs.getD j undef) H M E fun i p=>A i (by simp[p]);have S:RC c.w I (.pt F B) (.pointer (some ⟨c.φ id,0+B,none⟩)):=by
     refine RC.pt F B (c.φ id) 0 (fun j=>vs.getD j undef) (A id (by simp)) (fun j d C=> ?_) R;have U:j<vs.size:=by
      have:=(Lb.1 C).1;omega
     simp[World.cell?,J,Array.getD,U]
    rwa [Ny] at S
  cases l
 exact T4 t w h l I E A
theorem jM {hp:Hp}(w:HR g c)(A:c.hp=hp)(I:Nat->Prop):∀ {xs:List AV} {l:List D} {b:Bool} {is:List Nat} (vs:Nat->Value),F6 hp xs=some (l,b,is)->(∀(j:Nat) (x:AV),xs[j]? =some x->RA g c x (vs j))->
  (∀k,Im g c b k->I k)->(∀i∈is,I (c.φ i))->l.length=xs.length/\∀(j:Nat) (d:D),l[j]? =some d->RC c.w I d (vs j)
 |[],l,b,is,vs,h,_,_,_=>by
  simp only[F6,Lg,LE] at h;obtain⟨rfl,_⟩:=h;exact⟨rfl,fun j d h=>by simp at h⟩
 |x::xs,l,b,is,vs,h,B,C,E=>by
  unfold F6 at h;split at h
  ·rename_i d M N O R S F G;cases h;have H:=jL w A (B 0 x rfl) F I (fun k t=>C k t.or) fun i u=>E i (by simp[u]);have⟨J,L⟩:=jM w A I (fun j=>vs (j+1)) G (fun j y p=>B (j+1) y (by simpa using p)) (fun k t=>C k t.or') fun i u=>E i (by simp[u]);refine⟨by simp[J],fun j y p=> ?_⟩;cases j with |zero=>simp at p;subst p;exact H |succ j=>exact L j y (by simpa using p)
  cases h
theorem QS {u:Value}{d:DA}{b:Bool}(w:HR g c)(A:c.hp=hp)(h:A6 g c x u)(p:JO hp x=some (d,b,is))(I:Nat->Prop)(B:∀k,Im g c b k->I k)
  (C:∀i∈is,I (c.φ i)):U7 c.w I d u:=by
 unfold JO at p;split at p
 ·rename_i f L;have⟨⟨R,E,F⟩,t,l⟩:=La.1 p;simp only[LE] at l;obtain⟨rfl,rfl,rfl⟩:=l;cases(show RA g c (.fn f L) u from h) with
  |fn _ _ G n S M=>
   have⟨U,N⟩:=jM w A I G t M B C;exact⟨G,n,by omega,rfl,N⟩
 ·rename_i id O;have⟨⟨H,E,F⟩,t,l⟩:=La.1 p;simp only[LE] at l;obtain⟨rfl,rfl,rfl⟩:=l;have J:=jL w A (show RA g c (.pt id O) u from h) t I B C;show Dc c.w I H u;unfold Dc;split
  ·cases J
  exact J
 have⟨⟨H,E,F⟩,t,l⟩:=La.1 p;simp only[LE] at l;obtain⟨rfl,rfl,rfl⟩:=l;exact(T7 w A I t h B C).1
theorem jN {hp:Hp}(A:HR g c)(B:c.hp=hp)(I:Nat->Prop):∀ {xs:List AV} {l:List DA} {b:Bool} {is:List Nat} (p:Nat->Value),Es hp xs=some (l,b,is)->(∀(j:Nat) (x:AV),xs[j]? =some x->A6 g c x (p j))->
  (∀k,Im g c b k->I k)->(∀i∈is,I (c.φ i))->l.length=xs.length/\∀(j:Nat) (d:DA),l[j]? =some d->U7 c.w I d (p j)
 |[],l,b,is,p,h,_,_,_=>by
  simp only[Es,Lg,LE] at h;obtain⟨rfl,_⟩:=h;exact⟨rfl,fun j d h=>by simp at h⟩
 |x::xs,l,b,is,p,h,C,E,F=>by
  unfold Es at h;split at h
  ·rename_i d N O R S U G H;cases h;have J:=QS A B (C 0 x rfl) G I (fun k u=>E k u.or) fun i w=>F i (by simp[w]);have⟨L,M⟩:=jN A B I (fun j=>p (j+1)) H (fun j y t=>C (j+1) y (by simpa using t)) (fun k u=>E k u.or') fun i w=>F i (by simp[w]);refine⟨by simp[L],fun j y t=> ?_⟩;cases j with |zero=>simp at t;subst t;exact J |succ j=>exact M j y (by simpa using t)
  cases h
theorem jO {d:D}{b:Bool}(h:Mv hp x=some (d,b,is)):∀i∈is,∃o,hp i=some o:=by
 unfold Mv at h;split at h
 ·rename_i id B;split at h
  ·rename_i cs u;have⟨⟨C,E,F⟩,w,t⟩:=La.1 h;simp only[LE] at t;obtain⟨rfl,rfl,rfl⟩:=t;intro i l;rcases Lv.1 l with rfl |l
   ·exact⟨_,u⟩
   have⟨es,sz,v,br,A,p⟩:=W6 w i l;exact⟨_,p⟩
  cases h
 intro i l;have⟨es,sz,v,A,p⟩:=T6 h i l;exact⟨_,p⟩
theorem jP {hp:Hp}:∀ {xs:List AV} {l:List D} {b:Bool} {is:List Nat},F6 hp xs=some (l,b,is)->∀i∈is,∃o,hp i=some o
 |[],l,b,is,h=>by
  simp only[F6,Lg,LE] at h;obtain⟨_,_,rfl⟩:=h;simp
 |x::xs,l,b,is,h=>by
  unfold F6 at h;split at h
  ·rename_i d A B C E F t u;cases h;intro i w;rcases Lw.1 w with p |p
   ·exact jO t i p
   exact jP u i p
  cases h
theorem uP {d:DA}{b:Bool}(h:JO hp x=some (d,b,is)):∀i∈is,∃o,hp i=some o:=by
 unfold JO at h;split at h
 ·have⟨⟨t,u,w⟩,p,l⟩:=La.1 h;simp only[LE] at l;obtain⟨rfl,rfl,rfl⟩:=l;exact jP p
 ·have⟨⟨t,u,w⟩,p,l⟩:=La.1 h;simp only[LE] at l;obtain⟨rfl,rfl,rfl⟩:=l;exact jO p
 have⟨⟨t,u,w⟩,p,l⟩:=La.1 h;simp only[LE] at l;obtain⟨rfl,rfl,rfl⟩:=l;intro i A;have⟨es,sz,v,br,C,B⟩:=T8 p i A;exact⟨_,B⟩
theorem jQ {hp:Hp}:∀ {xs:List AV} {l:List DA} {b:Bool} {is:List Nat},Es hp xs=some (l,b,is)->∀i∈is,∃o,hp i=some o
 |[],l,b,is,h=>by
  simp only[Es,Lg,LE] at h;obtain⟨_,_,rfl⟩:=h;simp
 |x::xs,l,b,is,h=>by
  unfold Es at h;split at h
  ·rename_i d A B C E F t u;cases h;intro i w;rcases Lw.1 w with p |p
   ·exact uP t i p
   exact jQ u i p
  cases h
theorem uQ {f:FuncId}{as:List DA}{d:D}{fr:Bool}(h:AT P f (as.map DA.av) AK 0 (Fk d fr)):CP P f as d fr:=by
 refine⟨h.1,fun w M0 args hM hsz hargs=> ?_⟩;have hr:HR ⟨w.heap.size,M0,w.heap.size⟩ ⟨AK,fun _=>0,w,fun _=>False⟩:=⟨Lc _,hM,fun _ _ h=>by simp[AK] at h,fun _ _ _ _ h=>by simp[AK] at h,fun _ _ h=>by simp[AK] at h⟩;have hIm:∀k,(k<w.heap.size/\¬M0 k)->Im ⟨w.heap.size,M0,w.heap.size⟩ ⟨AK,fun _=>0,w,fun _=>False⟩ true k:=fun k hk=>⟨hk.1,hk.2,fun _ _ h=>by simp[AK] at h,by simp⟩;refine(h.2 ⟨w.heap.size,M0,w.heap.size⟩ ⟨AK,fun _=>0,w,fun _=>False⟩ args rfl (fun _ h=>h.elim) hr (by simpa using hsz) (fun j x hj=> ?_)).mono fun e w' ⟨u,v,c',nx',h1,⟨b,is,h2,h3⟩,h4,h5,h6,h7,_,_⟩=> ?_
 ·rw[Ln,La] at hj;obtain⟨x,h1,rfl⟩:=hj;obtain⟨u,h2,h3⟩:=hargs j x h1;refine⟨u,h2,?_⟩;cases x with
  |d d=>
   have h4:Dc w (Im ⟨w.heap.size,M0,w.heap.size⟩ ⟨AK,fun _=>0,w,fun _=>False⟩ true) d u:=Dc.mono (fun _ _=>rfl) hIm h3;show A6 _ _ (CI true d) u;cases d with
   |ag cs=>exact h4
   |tu cs=>cases h4
   |v x=>exact(RC.toRA (c:=⟨AK,fun _=>0,w,fun _=>False⟩) h4).toAt
   |sl x=>exact(RC.toRA (c:=⟨AK,fun _=>0,w,fun _=>False⟩) h4).toAt
   |pt x y=>exact(RC.toRA (c:=⟨AK,fun _=>0,w,fun _=>False⟩) h4).toAt
   |mp x=>exact(RC.toRA (c:=⟨AK,fun _=>0,w,fun _=>False⟩) h4).toAt
  |fn f caps=>
   obtain⟨us,n,e1,rfl,e3⟩:=h3;show RA _ _ (.fn f (caps.map (CI true))) _;refine .fn f _ us n (by simpa using e1) fun j x hj=> ?_;rw[Ln,La] at hj;obtain⟨y,e4,rfl⟩:=hj;exact RC.toRA (c:=⟨AK,fun _=>0,w,fun _=>False⟩) ((e3 j y e4).mono (fun _ _=>rfl) hIm)
 subst h4;refine⟨u,h1,⟨⟨h5.os,h5.tape,h5.output,h5.size,fun k hk=>h5.block k hk fun id o ho=>by simp[AK] at ho⟩,h5.drawn⟩,?_⟩;have hI:∀k,Im ⟨w.heap.size,M0,w.heap.size⟩ c' b k->k<c'.w.heap.size/\¬M0 k/\(fr=true->w.heap.size<=k):=fun k hk=>⟨hk.1,hk.2.1,fun hf=>hk.2.2.2 (h3 hf)⟩;have hrow:∀i,(∃es sz v br fz,c'.hp i=some (.rw es sz v br fz))->c'.φ i<c'.w.heap.size/\¬M0 (c'.φ i)/\(fr=true->w.heap.size<=c'.φ i):=fun i ⟨es,sz,v,br,fz,hi⟩=>by
  obtain⟨_,g1,g2⟩:=h6.dom i _ hi;exact⟨g2,g1.2,fun _=>g1.1⟩
 unfold toR at h2;split at h2
 ·rename_i cs;obtain⟨⟨ds',b',is'⟩,e1,e2⟩:=La.1 h2;simp only[LE] at e2;obtain⟨rfl,rfl,rfl⟩:=e2;obtain⟨vs,hv,hn,hc⟩:=h7;obtain⟨g1,g2⟩:=T9 h6 rfl (fun k=>k<c'.w.heap.size/\¬M0 k/\(fr=true->w.heap.size<=k)) (fun j=>vs.getD j undef) e1 (XB fun j x hj=>let ⟨y,k1,k2⟩:=hc j x hj;⟨y,k1,k2.toAt⟩) hI fun i hi=>hrow i (UA e1 i hi);refine⟨vs,hv,by omega,fun j x hj=>⟨_,XC (by have:=(Lb.1 hj).1;omega),(g2 j x hj).1⟩⟩
 obtain⟨g1,g2,_⟩:=T7 h6 rfl (fun k=>k<c'.w.heap.size/\¬M0 k/\(fr=true->w.heap.size<=k)) h2 h7 hI fun i hi=>hrow i (T8 h2 i hi);cases d with
 |tu ds=>exact absurd rfl (g2 ds)
 |_=>exact g1
theorem jR {f:FuncId}{nx:Nat}{as:List DA}{b:Bool}{d:D}(U:Es hp vs=some (as,b,is))(hp0:CP P f as d fr)(B:is= []\/fr=true):
  AT P f vs hp nx fun v2 aa ab=>v2=CI (!fr&&b) d/\aa=hp/\ab=nx:=by
 refine⟨hp0.1,fun g c H M a0 p a1 ad=> ?_⟩;have⟨_,hp0⟩:=hp0;have X:∀(I:Nat->Prop),(∀k,Im g c b k->I k)->(∀i∈is,I (c.φ i))->H.size=as.length/\∀(j:Nat) (x:DA),as[j]? =some x->∃u,H[j]? =some u/\U7 c.w I x u:=by
  intro I J C;have⟨g1,g2⟩:=jN p M I (fun j=>H.getD j undef) U (XB ad) J C;refine⟨by omega,fun j x Y=>⟨_,XC (by have:=(Lb.1 Y).1;omega),g2 j x Y⟩⟩
 have Z:∀(I:Nat->Prop) (u:Value) (l:World),Below c.w.heap.size c.w l/\c.w.drawn<=l.drawn->RV l I d u->(∀k,I k->k<l.heap.size/\(c.w.heap.size<=k\/Im g c (!fr&&b) k))->
   ∃u' v F N,Ending.returned u= .returned u'/\(v=CI (!fr&&b) d/\F.hp=hp/\N=nx)/\F.w=l/\CR c F/\HR g F/\A6 g F v u'/\nx<=N/\∀i,F.kn i->c.kn i\/(nx<=i/\i<N):=by
  intro I u l ⟨w,ak⟩ L hI;have E:CR c ⟨c.hp,c.φ,l,c.kn⟩:=⟨w.os,w.tape,w.output,w.size,fun _ h=>h,fun k t _=>w.block k t,fun id o A hf=>.inr ⟨o,A,hf,rfl⟩,fun _ _ h=>⟨rfl,h⟩,
   fun id es _ v br fz t p=>⟨es,v,br,fz,p,Lc _,fun _=>⟨rfl,rfl,fun ao _ e=>⟨ao,(w.block _ (‹HR g c›.dom id _ p).2.2).trans e,rfl⟩⟩⟩,ak⟩
  have aq:HR g ⟨c.hp,c.φ,l,c.kn⟩:=⟨Lq p.le w.size,fun k t=>LF (p.m0 k t) w.size,fun id o A=>⟨(p.dom id o A).1,(p.dom id o A).2.1,LF (p.dom id o A).2.2 w.size⟩,p.inj,fun id o A=>(p.obj id o A).ext E rfl (w.block _ (p.dom id o A).2.2)⟩;refine⟨u,_,⟨c.hp,c.φ,l,c.kn⟩,nx,rfl,⟨rfl,M,rfl⟩,rfl,E,aq,?_,Lc _,fun i h=>.inl h⟩;have G:RV l (Im g ⟨c.hp,c.φ,l,c.kn⟩ (!fr&&b)) d u:=L.mono (fun _ _=>rfl) fun k t=>by
   have⟨J,C⟩:=hI k t;rcases C with C |C
   ·refine⟨J,fun hm=> ?_,fun id o A _ e=> ?_,fun _=>Lq p.le C⟩
    ·have:=p.m0 k hm
     have:=p.le;omega
    have:=(p.dom id o A).2.2;simp only at e;omega
   exact C.ext E
  cases d with |v x=>exact(RC.toRA (c:=⟨c.hp,c.φ,l,c.kn⟩) G).toAt |sl es=>exact(RC.toRA (c:=⟨c.hp,c.φ,l,c.kn⟩) G).toAt |pt cs a2=>exact(RC.toRA (c:=⟨c.hp,c.φ,l,c.kn⟩) G).toAt |mp es=>exact(RC.toRA (c:=⟨c.hp,c.φ,l,c.kn⟩) G).toAt |ag cs=>exact G |tu cs=>exact G
 by_cases O:fr=true
 ·subst O;have⟨R,S⟩:=X (fun k=>k<c.w.heap.size/\¬False) (fun k t=>⟨t.1,fun h=>h⟩) (fun i B=>by
   have⟨o,J⟩:=jQ U i B;exact⟨(p.dom i _ (M▸J)).2.2,fun h=>h⟩)
  refine(hp0 c.w (fun _=>False) H (fun _ h=>h.elim) R S).mono fun e l ⟨u,E,w,L⟩=> ?_;subst E;exact Z _ u l w L fun k t=>⟨t.1,.inl (t.2.2 rfl)⟩
 have h0:is= []:=by
  rcases B with B |B
  ·exact B
  exact absurd B O
 subst h0;have av:fr=false:=by simpa using O
 subst av;have⟨R,S⟩:=X (fun k=>k<c.w.heap.size/\¬(k<c.w.heap.size/\¬Im g c b k)) (fun k t=>⟨t.1,fun h=>h.2 t⟩) (fun i B=>by simp at B);refine(hp0 c.w (fun k=>k<c.w.heap.size/\¬Im g c b k) H (fun _ h=>h.1) R S).mono fun e l ⟨u,E,w,L⟩=> ?_;subst E;refine Z _ u l w L fun k t=>⟨t.1,?_⟩;by_cases aE:k<c.w.heap.size
 ·refine .inr ?_
  have:Im g c b k:=B6 fun hn=>t.2.1 ⟨aE,hn⟩
  simpa using this
 exact .inl (by omega)
theorem uR {f:FuncId}{nx:Nat}{as:List DA}{b:Bool}{d:D}(ids:List Nat)(l:∀h:Hp,(∀i∈ids,h i=hp i)->Es h vs=some (as,b,is))(hp0:CP P f as d fr)(p:is= []\/fr=true):
  UJ P f vs hp nx ids (CI (!fr&&b) d) [] nx:=fun h t=>(jR (l h t.1) hp0 p).mono fun _ _ _ ⟨u,w,A⟩=>⟨u,w,A⟩
section
variable {ops:Array Oper}{nx0 nx i:Nat}{k:List It}{Q:Ex->St->Prop}{r:List Oper}{s:St}{dst:Option Nat}{acc:List C7}{fr:Fr}{hp:Hp}{ids:List Nat}
theorem jS {g:FuncId}{l:List AV}{as:List DA}{b:Bool}{d:D}{f:Bool}(p:Es s.hp (vs++l)=some (as,b,is))(t:CP P g as d f)(u:is= []\/f=true)(h:Rt P tab ops nx0 k Q i r ⟨CM dst (CI (!f&&b) d) s.fr,s.hp,s.nx⟩):
  KK P tab ops nx0 k Q i r dst s (.fn g l) vs:=CO ((jR p t u).mono fun A B C w=>by
 obtain⟨rfl,rfl,rfl⟩:=w;exact h)
theorem Xw {g:FuncId}{l:List AV}{as:List DA}{b:Bool}{d:D}{f:Bool}(ids':List Nat)(t:∀p:Hp,(∀i∈ids',p i=hp i)->Es p (vs++l)=some (as,b,is))(u:CP P g as d f)(w:is= []\/f=true)(h:Rd P tab ops nx0 nx k Q i r (⟨ids',[],true⟩::acc) (CM dst (CI (!f&&b) d) fr) hp):
  Kz P tab ops nx0 nx k Q i r dst acc ids fr hp (.fn g l) vs:=IP (uR ids' t u w) h
end
theorem uS (p:Ad P tab){f:FuncId}{fn:Func}(t:P.funcs[f]? =some fn)(u:fn.body=some code)(w:(fn.name== "runtime.NumGoroutine")=false)(A:Du fn.ntmps code=true){as:List DA}{d:D}{l:Bool}
  (B:as.length<=fn.ntmps) (h:CQ 0 P [.c code] (DX tab fn.results (Fk d l)) ⟨D0 (as.map DA.av),AK,0⟩):CP P f as d l:=
 uQ (U5 p t u w A (by simpa using B) h)
end
attribute [go_sem] Es F6 DA.av
section
variable (hp:Hp)(b c:Bool)(x:List (List D))(y:List D)(o n i v:Nat)(cs:List AV)(f:FuncId)(e:Value)
@[go_sem] theorem bC:JO hp (.fn f cs)=(F6 hp cs).map fun(d,b,is)=>(.fn f d,b,is):=rfl
@[go_sem] theorem bD:JO hp (.pt i o)=(Mv hp (.pt i o)).map fun(d,b,is)=>(.d d,b,is):=rfl
@[go_sem] theorem jT:JO hp (.v e)=(Ci hp (.v e)).map fun(d,b,is)=>(.d d,b,is):=rfl
@[go_sem] theorem Xx:JO hp (.d (.ag y) b)=(FJ hp (.d (.ag y) b)).map fun(d,b,is)=>(.d d,b,is):=rfl
@[go_sem] theorem bE:JO hp (.ag cs)=(FJ hp (.ag cs)).map fun(d,b,is)=>(.d d,b,is):=rfl
@[go_sem] theorem bF:JO hp (.so i v o n)=(Ci hp (.so i v o n)).map fun(d,b,is)=>(.d d,b,is):=rfl
@[go_sem] theorem bG:Mv hp (.pt i o)=match hp i with
  |some (.bx cs)=>(Dk hp cs).map fun(d,b,is)=>(.pt d o,b,i::is)
  |_=>none:=rfl
end
def sl (n:Int)(k:Nat):Int:=n*2^(min k 64)
@[go_sem ↓ high] theorem Sy (a b:Int)(k:IntKind):GF .shr (.int .u64 a) (.int k b)=if b<0 then none else some (.int .u64 (sh a b.toNat)):=rfl
def DP {α S X:Type}(f:S->α->(S->Option X)->Option X)(e:S->Option X):List α->S->Option X
 |[],d=>e d
 |x::r,d=>f d x (DP f e r)
theorem Mw (xs:List α)(k:Nat):idx xs (k:Int)=xs[k]? :=by simp[idx]
theorem Gl {α S X:Type}(L:Nat->S->Int->Option X)(xs:List α)(f:S->α->(S->Option X)->Option X)(e:S->Option X)
  (h:∀c d i,L (c+1) d i=if decide (i<(xs.length:Int)) then(idx xs i).bind fun x=>f d x fun l=>L c l (IntKind.i64.wrap (i+1)) else e d) (u:xs.length<4611686018427387904):
  ∀(c:Nat) (d:S) (k:Nat),k<=xs.length->xs.length-k<c->L c d (k:Int)=DP f e (xs.drop k) d
 |0,_,_,_,w=>by omega
 |c+1,d,k,A,w=>by
  rw[h];by_cases p:k<xs.length
  ·have t:decide ((k:Int)<(xs.length:Int))=true:=Xn p;rw[t,if_pos rfl,Mw,Le p,Lj p];simp only[LR,DP];congr 1;funext l;rw[Su (by omega)];exact Gl L xs f e h u c l (k+1) (by omega) (by omega)
  have t:decide ((k:Int)<(xs.length:Int))=false:=az (by omega);rw[t,if_neg (by simp),Nf (by omega)];rfl
def QT (id sz:Nat)(b:Bool):List (List D)->List (Nat × AO)
 |[]=>[]
 |e::r=>[(id,.rw (e::r) sz 0 b false)]
theorem uT {b:Bool}(h:hp id=none):CL (QT id sz b es) hp=upd id (Am sz 0 b es) hp:=by
 cases es with
 |nil=>
  show hp=upd id none hp;funext j;unfold upd;split
  ·rename_i e;rw[e];exact h
  ·rfl
 |cons e r=>rfl
@[go_sem] theorem Xy {b:Bool}:(if xs.length=0 then some (AV.v (.slice none 0 0),([]:List (Nat × AO))) else some (.so nid 0 0 xs.length,[(nid,.rw (List.map f xs) sz 0 b false)]))=some (AW nid 0 (List.map f xs),QT nid sz b (List.map f xs)):=by
 cases xs with
 |nil=>rfl
 |cons x r=>simp[AW,QT]
attribute [go_sem] uT
end
section
open Go.RowKit
section
variable {K V:Type}[BEq K]
def mget (k:K):List (K × V)->Option V
 |[]=>none
 |p::r=>if k==p.1 then some p.2 else mget k r
def mset (k:K)(v:V):List (K × V)->List (K × V)
 |[]=>[(k,v)]
 |p::r=>if k==p.1 then(k,v)::r else p::mset k v r
def Ay (k:K)(m:List (K × V)):Bool:=(mget k m).isSome
def qf_ (k:K)(z:V)(m:List (K × V)):V:=(mget k m).getD z
end
def E8 {K:Type}[BEq K](q:Bool × List TK)(kv:K->Value):Prop:=∀a b,Jc q (kv a) (kv b)=some (a==b)
theorem K6:E8 (false,[.string]) Value.string:=fun _ _=>rfl
def Aa {K V:Type}(kv:K->Value)(ev:V->AV)(m:List (K × V)):List (Value × AV):=m.map fun p=>(kv p.1,ev p.2)
section
variable {K V:Type}[BEq K]{q:Bool × List TK}{kv:K->Value}{ev:V->AV}
theorem Mx (B:E8 q kv)(k:K):∀m:List (K × V),∃o,EC q (kv k) (Aa kv ev m)=some o/\(∀v,mget k m=some v->∃i,o=some (i,ev v)/\∀d,(Aa kv ev m).set i (kv k,ev d)=Aa kv ev (mset k d m))/\(mget k m=none->o=none/\∀d,mset k d m=m++[(k,d)])
 |[]=>⟨none,rfl,(fun v h=>by cases h),fun _=>⟨rfl,fun _=>rfl⟩⟩
 |p::r=>by
  have⟨o,C,E,F⟩:=Mx B k r;have e:Aa kv ev (p::r)=(kv p.1,ev p.2)::Aa kv ev r:=rfl;rw[e];unfold EC;rw[B k p.1];cases t:(k==p.1)
  ·simp only[C];have g:mget k (p::r)=mget k r:=(by simp[mget,t]);have u:∀d,mset k d (p::r)=p::mset k d r:=fun d=>(by simp[mset,t]);cases l:mget k r with
   |none=>
    have⟨w,A⟩:=F l;subst w;refine⟨none,rfl,fun v h=> ?_,fun _=>⟨rfl,fun d=> ?_⟩⟩
    ·rw[g,l] at h;cases h
    ·rw[u,A];rfl
   |some v=>
    have⟨i,w,A⟩:=E v l;subst w;refine⟨some (i+1,ev v),rfl,fun G h=> ?_,fun h=> ?_⟩
    ·rw[g,l] at h;cases h;refine⟨i+1,rfl,fun d=> ?_⟩;rw[u,Ij,A];rfl
    rw[g,l] at h;cases h
  have g:mget k (p::r)=some p.2:=by simp[mget,t]
  have u:∀d,mset k d (p::r)=(k,d)::r:=fun d=>by simp[mset,t]
  refine⟨some (0,ev p.2),rfl,fun v h=> ?_,fun h=> ?_⟩
  ·rw[g] at h;cases h;refine⟨0,rfl,fun d=> ?_⟩;rw[u];rfl
  rw[g] at h;cases h
theorem Xz (p:E8 q kv)(k:K)(v:V)(m:List (K × V)):Ef q (kv k) (ev v) (Aa kv ev m)=some (Aa kv ev (mset k v m)):=by
 have⟨o,t,u,A⟩:=Mx (ev:=ev) p k m;unfold Ef;rw[t];cases l:mget k m with
 |none=>
  have⟨d,h⟩:=A l;subst d;simp only[h];simp[Aa]
 |some w=>
  have⟨i,d,h⟩:=u w l;subst d;simp only[h]
def EV (q:Bool × List TK)(kv:Value)(z:AV)(ok:Bool)(es:List (Value × AV)):Option (AV × List (Nat × AO)):=
 match EC q kv es with
 |some none=>some (if ok then .tu [z,.v (.bool false)] else z,[])
 |some (some (_,v))=>some (if ok then .tu [v,.v (.bool true)] else v,[])
 |none=>none
theorem Sz (l:E8 q kv)(k:K)(z:V)(ok:Bool)(m:List (K × V)):EV q (kv k) (ev z) ok (Aa kv ev m)=some (if ok then .tu [ev (qf_ k z m),.v (.bool (Ay k m))] else ev (qf_ k z m),[]):=by
 have⟨o,p,t,u⟩:=Mx (ev:=ev) l k m;unfold EV;rw[p];cases d:mget k m with
 |none=>
  have⟨h,A⟩:=u d;subst h;simp[qf_,Ay,d]
 |some w=>
  have⟨i,h,A⟩:=t w d;subst h;simp[qf_,Ay,d]
end
def Jn (q:Option (Bool × List TK))(kv:Option Value)(z:Option AV)(d:Bool->AV)(x:AV)(hp:Hp)(ok:Bool):Option (AV × List (Nat × AO)):=
 match q,kv,z with
 |some q,some kv,some z=>if GI q kv then match x with
  | .mo i=>match hp i with
   |some (.mo es _)=>EV q kv z ok es
   |_=>none
  | .d (.mp es) b=>EV q kv (d b) ok (Eo b es)
  | .v (.map none)=>some (if ok then .tu [z,.v (.bool false)] else z,[])
  |_=>none else none
 |_,_,_=>none
@[go_sem ↓ high] theorem lL_ {tab:Nat->TI}(ρ:Operand->AV)(hp:Hp)(id T:Nat)(x k:Operand)(ok:Bool):Cc tab ρ hp id (.lookup T x k ok)=Jn (tab T).mkey (En (ρ k)) (II (tab (tab T).elem)) (fun b=>Ml b (tab (tab T).elem)) (ρ x) hp ok:=rfl
@[go_sem] theorem U8 (q:Bool × List TK)(kv:Value)(z:AV)(d:Bool->AV)(i:Nat)(hp:Hp)(ok:Bool):Jn (some q) (some kv) (some z) d (.mo i) hp ok=if GI q kv then(match hp i with |some (.mo es _)=>EV q kv z ok es |_=>none) else none:=rfl
@[go_sem] theorem U9 (q:Bool × List TK)(kv:Value)(z:AV)(d:Bool->AV)(es:List (Value × Bool × List D))(b:Bool)(hp:Hp)(ok:Bool):Jn (some q) (some kv) (some z) d (.d (.mp es) b) hp ok=if GI q kv then EV q kv (d b) ok (Eo b es) else none:=rfl
def VA (q:Option (Bool × List TK))(kv:Option Value)(v x:AV)(hp:Hp):Option (AV × List (Nat × AO)):=
 match q,kv with
 |some q,some kv=>if GI q kv/\F3 v then match x with
  | .mo i=>match hp i with
   |some (.mo es d)=>(Ef q kv v es).map fun h=>(.un,[(i,.mo h d)])
   |_=>none
  |_=>none else none
 |_,_=>none
@[go_sem ↓ high] theorem oZ_ {tab:Nat->TI}(ρ:Operand->AV)(hp:Hp)(id T:Nat)(m k x:Operand):Cc tab ρ hp id (.mapUpdate T m k x)=VA (tab T).mkey (En (ρ k)) (ρ x) (ρ m) hp:=rfl
@[go_sem] theorem X0 (q:Bool × List TK)(kv:Value)(v:AV)(i:Nat)(hp:Hp):VA (some q) (some kv) v (.mo i) hp=if GI q kv/\F3 v then(match hp i with
  |some (.mo es d)=>(Ef q kv v es).map fun h=>(.un,[(i,.mo h d)])
  |_=>none) else none:=rfl
attribute [go_sem] GI Pz F4
abbrev vI (v:Int):AV:=.v (.int .i64 v)
section
variable (k z v:ByteArray)(i j:Int)(b:Bool)(ok:Bool)
@[go_sem] theorem X3 (m:List (ByteArray × Int)):EV (false,[.string]) (.string k) (.v (.int .i64 i)) ok (Aa .string vI m)=some (if ok then .tu [.v (.int .i64 (qf_ k i m)),.v (.bool (Ay k m))] else .v (.int .i64 (qf_ k i m)),[]):=Sz (ev:=vI) K6 k i ok m
@[go_sem] theorem bH (m:List (ByteArray × Int)):Ef (false,[.string]) (.string k) (.v (.int .i64 j)) (Aa .string vI m)=some (Aa .string vI (mset k j m)):=Xz (ev:=vI) K6 k j m
end
end
end Go.Proofs.YtnmkbmefohakmaaGreat.Ab
