/-
 Functions read off the code.
-/
import Derived.Test.YtnmkbmefohakmaaGreatAbI
set_option linter.all false
namespace Go.Proofs.YtnmkbmefohakmaaGreat.Ab
variable {br fr:Bool}{es:List (List D)}{α β:Type}{f:α->List D}{hp:Hp}{i:Int}{id j k n nid sz ver:Nat}{r:β}{vs:List AV}{x:AV}{xs:List α}{ys:List α}{zs:List α}{ρ:Nat->Option Nat}
section
open Go.RowKit
def CD {α:Type}(xs:List α)(i:Int):Option α:=if 0<=i then xs[i.toNat]? else none
def FV {α:Type}(xs:List α)(d h:Int):Option (List α):=if 0<=d/\d<=h/\h<=xs.length then some ((xs.take h.toNat).drop d.toNat) else none
def KZ (s:ByteArray)(d h:Int):Option ByteArray:=if 0<=d/\d<=h/\h<=s.size then some (s.extract d.toNat h.toNat) else none
def D6 (s:ByteArray)(i:Int):Option Int:=if 0<=i then(s[i.toNat]?).map fun b=>(b.toNat:Int) else none
def Ed (a b:ByteArray):Option ByteArray:=if a.size+b.size<=maxLen then some (a++b) else none
def DG {α:Type}(xs ys:List α):Option (List α):=if xs.length+ys.length<=4294967296 then some (xs++ys) else none
def DM {β:Type}(c:Bool)(k:Option β):Option β:=if c then k else none
theorem As {c:Bool}{a b:Option β}(h:(if c then a else b)=some r):(c=true/\a=some r)\/(c=false/\b=some r):=by
 cases c
 ·exact .inr ⟨rfl,h⟩
 exact .inl ⟨rfl,h⟩
theorem FC {c:Bool}{a:Option β}(h:DM c a=some r):c=true/\a=some r:=by
 cases c
 ·cases h
 exact⟨rfl,h⟩
theorem AL {a:Option α}{f:α->Option β}(h:a.bind f=some r):∃x,a=some x/\f x=some r:=by
 cases a with
 |none=>cases h
 |some x=>exact⟨x,rfl,h⟩
theorem FW {x:α}(h:CD xs i=some x):0<=i/\xs[i.toNat]? =some x:=by
 unfold CD at h;split at h
 ·exact⟨‹_›,h⟩
 cases h
theorem A8 (k:IntKind)(h:0<=i):EI (.v (.int k i))=some i.toNat:=by simp[EI,Xy,h]
theorem Cr {x:α}(f:α->β)(h:xs[k]? =some x):(xs.map f)[k]? =some (f x):=by simp[h]
theorem EQ {x:α}(h:xs[k]? =some x):k<xs.length:=(Lb.1 h).1
theorem KB {d l:Int}(h:FV xs d l=some ys):0<=d/\d<=l/\l<=xs.length/\ys=(xs.take l.toNat).drop d.toNat:=by
 unfold FV at h;split at h
 ·rename_i c;simp only[Lf] at h;exact⟨c.1,c.2.1,c.2.2,h.symm⟩
 cases h
theorem ur {s t:ByteArray}{d l:Int}(h:KZ s d l=some t):0<=d/\d<=l/\l<=s.size/\t=s.extract d.toNat l.toNat:=by
 unfold KZ at h;split at h
 ·rename_i c;simp only[Lf] at h;exact⟨c.1,c.2.1,c.2.2,h.symm⟩
 cases h
theorem IV {s:ByteArray}{x:Int}(h:D6 s i=some x):0<=i/\∃b,s[i.toNat]? =some b/\x=(b.toNat:Int):=by
 unfold D6 at h;split at h
 ·have⟨b,d,l⟩:=La.1 h;exact⟨‹_›,b,d,l.symm⟩
 cases h
theorem Fi {a b t:ByteArray}(h:Ed a b=some t):a.size+b.size<=maxLen/\a++b=t:=by
 unfold Ed at h;split at h
 ·simp only[Lf] at h;exact⟨‹_›,h⟩
 cases h
theorem Ee (h:DG xs ys=some zs):xs.length+ys.length<=4294967296/\xs++ys=zs:=by
 unfold DG at h;split at h
 ·simp only[Lf] at h;exact⟨‹_›,h⟩
 cases h
theorem ER (f:α->β)(h:xs++ys=zs):xs.map f++ys.map f=zs.map f:=by rw[<-h,Nc]
theorem ES (h:xs++ys=zs):xs.length+ys.length=zs.length:=by rw[<-h,Ld]
theorem Hk (h:∀x,(f x).length=n)(xs:List α):EX n (xs.map f)=true:=by simp[EX,h]
def lk (n:Nat)(L:List (Nat × Nat))(i:Nat):Option Nat:=if Nat.blt i n then some i else match L.find? (fun p=>Nat.beq p.1 i) with
 |some p=>some p.2
 |none=>none
def T6 (n N:Nat):List (Nat × Nat)->Bool
 |[]=>true
 |(a,b)::r=>Nat.ble n a&&Nat.ble n b&&Nat.blt a N&&r.all (fun p=> !Nat.beq p.1 a&& !Nat.beq p.2 b)&&T6 n N r
theorem kZ {L:List (Nat × Nat)}{i:Nat}{p:Nat × Nat}(h:L.find? (fun p=>Nat.beq p.1 i)=some p):p∈L/\p.1=i:=
 ⟨NQ h,by have:=OP h;simpa using this⟩
theorem Pp {n N:Nat}:∀ {L:List (Nat × Nat)},T6 n N L=true->∀p∈L,n<=p.1/\n<=p.2/\p.1<N/\∀q∈L,q.2=p.2->q.1=p.1
 |[],_,p,hp=>by simp at hp
 |(a,b)::r,h,p,hp=>by
  simp only[T6,Ln,By,LP,NY] at h;have⟨⟨⟨⟨w,A⟩,B⟩,u⟩,C⟩:=h;rcases Lr.1 hp with rfl |hp
  ·refine⟨w,A,B,fun q d e=> ?_⟩;rcases Lr.1 d with rfl |d
   ·rfl
   have l:=(u q d).2;have t:q.2=b:=e;rw[t] at l;simp at l
  have⟨E,F,G,H⟩:=Pp C p hp;refine⟨E,F,G,fun q d e=> ?_⟩;rcases Lr.1 d with rfl |d
  ·have l:=(u p hp).2;have t:b=p.2:=e;rw[<-t] at l;simp at l
  exact H q d e
theorem Rc {N nx:Nat}{E fr:Fr}{hp':Hp}(L:List (Nat × Nat))(w:(Nat.ble n N&&T6 n N L)=true)(H:∀t,E t= .un\/CY (lk n L) (E t)=some (fr t))(I:∀i o,hp' i=some o->∃j F,lk n L i=some j/\Cc (lk n L) o=some F/\hp j=some F):CH n ⟨E,hp',N⟩ ⟨fr,hp,nx⟩:=by
 rw[Ln,By] at w;have⟨J,w⟩:=w;have B:∀i,i<n->lk n L i=some i:=fun i d=>by
  unfold lk;rw[if_pos (by simpa using d)]
 have C:∀i j,n<=i->lk n L i=some j->(i,j)∈L:=fun i j d h=>by
  unfold lk at h;rw[if_neg (by simpa using d)] at h;split at h
  ·rename_i p hp;have⟨l,u⟩:=kZ hp;simp only[Lf] at h;rw[<-u,<-h];exact l
  cases h
 refine .ren (lk n L) ⟨B,fun i j d h=> ?_,fun i A j l u=> ?_,H,I,J⟩
 ·have⟨R,M,O,_⟩:=Pp w _ (C i j d h);exact⟨M,O⟩
 by_cases d:i<n<;>by_cases G:A<n
 ·rw[B i d] at l;rw[B A G] at u;cases l;cases u;rfl
 ·rw[B i d] at l;cases l
  have:=(Pp w _ (C A i (by omega) u)).2.1;simp only at this;omega
 ·rw[B A G] at u;cases u
  have:=(Pp w _ (C i A (by omega) l)).2.1;simp only at this;omega
 exact(Pp w _ (C A j (by omega) u)).2.2.2 _ (C i j (by omega) l) rfl
theorem Pq (fr:Fr):∀t,AK t= .un\/CY ρ (AK t)=some (fr t):=fun _=>.inl rfl
theorem Yq {d fr:Fr}(h:CY ρ x=some (fr k))(l:∀t,d t= .un\/CY ρ (d t)=some (fr t)):∀t,upd k x d t= .un\/CY ρ (upd k x d t)=some (fr t):=fun t=>by
 unfold upd;split
 ·rename_i e;subst e;exact .inr h
 exact l t
theorem ut (ρ:Nat->Option Nat):ED ρ []=some []:=rfl
theorem cc {y:AV}{xs ys:List AV}(h:CY ρ x=some y)(d:ED ρ xs=some ys):ED ρ (x::xs)=some (y::ys):=by simp only[ED,h,d]
theorem uv {cs ds:List AV}(h:ED ρ cs=some ds):Cc ρ (.bx cs)=some (.bx ds):=by simp only[Cc,h,LQ]
theorem Pr (hp:Hp):∀i o,AM i=some o->∃j d,ρ i=some j/\Cc ρ o=some d/\hp j=some d:=fun _ _ h=>by cases h
theorem Mx {hp':Hp}{x:Option AO}(h:∀o,x=some o->∃j d,ρ k=some j/\Cc ρ o=some d/\hp j=some d)(l:∀i o,hp' i=some o->∃j d,ρ i=some j/\Cc ρ o=some d/\hp j=some d):∀i o,upd k x hp' i=some o->∃j d,ρ i=some j/\Cc ρ o=some d/\hp j=some d:=fun i o=>by
 unfold upd;split
 ·rename_i e;subst e;exact h o
 exact l i o
theorem T7 {o o':AO}(d:ρ k=some j)(h:Cc ρ o=some o')(l:hp j=some o'):∀p,some o=some p->∃j o',ρ k=some j/\Cc ρ p=some o'/\hp j=some o':=fun p e=>by
 cases e;exact⟨j,o',d,h,l⟩
theorem ka (h:ρ id=some j):CY ρ (Ac id ver es)=some (Ac j ver es):=by
 cases es with
 |nil=>rfl
 |cons e r=>simp only[Ac,CY,h];rfl
theorem kb (h:ρ id=some j)(l:hp j=A6 sz ver br es):∀p,A6 sz ver br es=some p->∃j d,ρ id=some j/\Cc ρ p=some d/\hp j=some d:=fun p e=>by
 refine⟨j,p,h,?_,by rw[l,e]⟩;cases es with
 |nil=>cases e
 |cons t r=>simp only[A6,Lf] at e;subst e;rfl
def Jd (k:TK)(x:AV):Option (AV × List (Nat × AO)):=match k,x with
 | .slice,.d (.sl es) _=>some (.v (.int .i64 es.length),[])
 | .slice,.so _ _ _ n=>some (.v (.int .i64 n),[])
 | .slice,.v (.slice none 0 0)=>some (.v (.int .i64 0),[])
 | .string,.v (.string s)=>some (.v (.int .i64 s.size),[])
 |_,_=>none
@[go_sem ↓ high] theorem lX_ {tab:Nat->TI}(ρ:Operand->AV)(hp:Hp)(id:Nat)(x:Operand)(T:TypeId):CM tab ρ hp id (.call { callee:=.builtin .len,args:= #[x],argTypes:= #[T] })=Jd (tab T).kind (ρ x):=rfl
@[go_sem] theorem cd (es:List (List D))(b:Bool):Jd .slice (.d (.sl es) b)=some (.v (.int .i64 es.length),[]):=rfl
@[go_sem] theorem Yr (i v o n:Nat):Jd .slice (.so i v o n)=some (.v (.int .i64 n),[]):=rfl
@[go_sem] theorem Vv:Jd .slice (.v (.slice none 0 0))=some (.v (.int .i64 0),[]):=rfl
@[go_sem] theorem Vw (s:ByteArray):Jd .string (.v (.string s))=some (.v (.int .i64 s.size),[]):=rfl
@[go_sem] theorem Vx (id ver:Nat)(es:List (List D)):Jd .slice (Ac id ver es)=some (.v (.int .i64 es.length),[]):=by cases es<;>rfl
def F3 (o:Option AO)(ver id:Nat):List (List D)->Option (D × Bool × List Nat)
 |[]=>some (.sl [],false,[])
 |_::r=>match o with
  |some (.rw es _ v br _)=>if v=ver then some (.sl (es.take (r.length+1)),br,[id]) else none
  |_=>none
def FD (br:Bool):List (List D)->Bool
 |[]=>false
 |_::_=>br
def FE (id:Nat):List (List D)->List Nat
 |[]=>[]
 |_::_=>[id]
@[go_sem] theorem Ys (es:List (List D)):FD false es=false:=by cases es<;>rfl
@[go_sem] theorem uw (hp:Hp)(id ver:Nat)(es:List (List D)):Ce hp (Ac id ver es)=F3 (hp id) ver id es:=by
 cases es with
 |nil=>rfl
 |cons e r=>simp only[Ac,F3,Ce,LJ]<;>rfl
@[go_sem] theorem Yt (hp:Hp)(id ver:Nat)(es:List (List D)):Ek hp (Ac id ver es)=F3 (hp id) ver id es:=by
 cases es with
 |nil=>rfl
 |cons e r=>simp only[Ac,F3,Ek,Ce,LJ]<;>rfl
@[go_sem] theorem T8 (hp:Hp)(id ver:Nat)(es:List (List D)):GL hp (Ac id ver es)=(F3 (hp id) ver id es).bind fun p=>match p with |(.sl x,b,is)=>some (x,b,is) |_=>none:=by
 cases es with
 |nil=>rfl
 |cons e r=>
  simp only[Ac,GL,F3,LJ];generalize hp id=o;cases o with
  |none=>rfl
  |some o=>cases o with
   |rw es sz v br d=>
    simp only;by_cases h:v=ver
    ·simp[h]
    ·rw[if_neg h,if_neg fun e=>h e.symm];rfl
   |bx cs=>rfl
   |mo a b=>rfl
@[go_sem] theorem Yu (hp:Hp)(id ver:Nat)(es:List (List D)):toR hp (Ac id ver es)=F3 (hp id) ver id es:=by
 cases es with
 |nil=>rfl
 |cons e r=>simp only[Ac,F3,toR,Ek,Ce,LJ]<;>rfl
@[go_sem] theorem Vy (sz ver id:Nat)(br:Bool)(es:List (List D)):F3 (A6 sz ver br es) ver id es=some (.sl es,FD br es,FE id es):=by
 cases es with
 |nil=>rfl
 |cons e r=>simp[F3,A6,FD,FE]
theorem KC (h:0<xs.length):Ac id ver (xs.map f)= .so id ver 0 xs.length:=by
 cases xs with
 |nil=>cases h
 |cons x r=>simp[Ac]
theorem Vz (h:0<xs.length):A6 sz ver br (xs.map f)=some (.rw (xs.map f) sz ver br false):=by
 cases xs with
 |nil=>cases h
 |cons x r=>simp[A6]
theorem kc (h:ρ id=some j)(d:0<xs.length):CY ρ (Ac id ver (xs.map f))=some (.so j ver 0 xs.length):=by
 rw[KC d];simp[CY,h]
theorem ux (h:ρ id=some j)(l:0<xs.length)(t:hp j=some (.rw (xs.map f) sz ver br false)):∀p,A6 sz ver br (xs.map f)=some p->∃j d,ρ id=some j/\Cc ρ p=some d/\hp j=some d:=
 kb h (by rw[Vz l];exact t)
theorem uy:∀p,A6 sz ver br []=some p->∃j d,ρ id=some j/\Cc ρ p=some d/\hp j=some d:=fun p e=>by cases e
def Je (tab:Nat->TI)(nid T T':Nat)(hp:Hp)(y:AV)(ny:Option Nat)(x:AV):Option (AV × List (Nat × AO)):=
 if T=T'/\(tab T).kind= .slice/\(tab (tab T).elem).ok/\0<(tab (tab T).elem).size then
   match GL hp y,x with
   |some (ys,b,_),.v (.slice none 0 0)=>
    if EX (tab (tab T).elem).size ys/\(tab (tab T).elem).bytes<=32768/\ys.length<=4294967296 then
     if ys.length=0 then some (.v (.slice none 0 0),[]) else some (.so nid 0 0 ys.length,[(nid,.rw ys (tab (tab T).elem).size 0 b false)])
    else none
   |some (ys,b,_),.so i v d n=>match hp i with
    |some (.rw es sz ver br false)=>
     if v=ver/\d=0/\n<=es.length/\sz=(tab (tab T).elem).size/\EX sz ys/\(tab (tab T).elem).bytes<=32768/\n+ys.length<=4294967296 then
      some (.so i (ver+1) 0 (n+ys.length),[(i,.rw (es.take n++ys) sz (ver+1) (br||b) false)]) else none
    |_=>none
   |_,_=>none
  else G9 tab nid T T' x ny
@[go_sem ↓ high] theorem lY_ {tab:Nat->TI}(ρ:Operand->AV)(hp:Hp)(id:Nat)(x y:Operand)(T T':TypeId):CM tab ρ hp id (.call { callee:=.builtin .append,args:= #[x,y],argTypes:= #[T,T'] })=Je tab id T T' hp (ρ y) (EI (ρ y)) (ρ x):=rfl
section
variable {tab:Nat->TI}{nid T T':Nat}{hp:Hp}{y:AV}{ny:Option Nat}
@[go_sem] theorem u7:Je tab nid T T' hp y ny (.v (.slice none 0 0))=if T=T'/\(tab T).kind= .slice/\(tab (tab T).elem).ok/\0<(tab (tab T).elem).size then
   match GL hp y with
   |some (ys,b,_)=>
    if EX (tab (tab T).elem).size ys/\(tab (tab T).elem).bytes<=32768/\ys.length<=4294967296 then
     if ys.length=0 then some (.v (.slice none 0 0),[]) else some (.so nid 0 0 ys.length,[(nid,.rw ys (tab (tab T).elem).size 0 b false)])
    else none
   |_=>none
  else G9 tab nid T T' (.v (.slice none 0 0)) ny:=by
 unfold Je;split
 ·cases GL hp y<;>rfl
 rfl
@[go_sem] theorem u9 (i v d n:Nat):Je tab nid T T' hp y ny (.so i v d n)=if T=T'/\(tab T).kind= .slice/\(tab (tab T).elem).ok/\0<(tab (tab T).elem).size then
   match GL hp y with
   |some (ys,b,_)=>match hp i with
    |some (.rw es sz ver br false)=>
     if v=ver/\d=0/\n<=es.length/\sz=(tab (tab T).elem).size/\EX sz ys/\(tab (tab T).elem).bytes<=32768/\n+ys.length<=4294967296 then
      some (.so i (ver+1) 0 (n+ys.length),[(i,.rw (es.take n++ys) sz (ver+1) (br||b) false)]) else none
    |_=>none
   |_=>none
  else G9 tab nid T T' (.so i v d n) ny:=by
 unfold Je;split
 ·cases GL hp y<;>rfl
 rfl
def Gl (tab:Nat->TI)(nid T T':Nat)(r:Option (List (List D) × Bool × List Nat))(id ver:Nat)(es:List (List D))(o:Option AO):Option (AV × List (Nat × AO)):=
 if T=T'/\(tab T).kind= .slice/\(tab (tab T).elem).ok/\0<(tab (tab T).elem).size then match r with
  |some (ys,b,_)=>match es with
   |[]=>if EX (tab (tab T).elem).size ys/\(tab (tab T).elem).bytes<=32768/\ys.length<=4294967296 then
     if ys.length=0 then some (.v (.slice none 0 0),[]) else some (.so nid 0 0 ys.length,[(nid,.rw ys (tab (tab T).elem).size 0 b false)]) else none
   |_::_=>match o with
    |some (.rw d sz v br false)=>if ver=v/\es.length<=d.length/\sz=(tab (tab T).elem).size/\EX sz ys/\(tab (tab T).elem).bytes<=32768/\es.length+ys.length<=4294967296 then
      some (.so id (v+1) 0 (es.length+ys.length),[(id,.rw (d.take es.length++ys) sz (v+1) (br||b) false)]) else none
    |_=>none
  |_=>none
 else none
@[go_sem] theorem V0 (h:T=T'/\(tab T).kind= .slice/\(tab (tab T).elem).ok/\0<(tab (tab T).elem).size)(id ver:Nat)(es:List (List D)):Je tab nid T T' hp y ny (Ac id ver es)=Gl tab nid T T' (GL hp y) id ver es (hp id):=by
 cases es with
 |nil=>
  rw[Rb,u7,if_pos h];unfold Gl;rw[if_pos h]
 |cons e r=>
  rw[kY,u9,if_pos h];unfold Gl;rw[if_pos h];generalize GL hp y=d;generalize hp id=l;cases d with
  |none=>rfl
  |some p=>cases l with
   |none=>rfl
   |some o=>cases o with |rw u sz v br t=>cases t<;>simp |bx cs=>rfl |mo a b=>rfl
@[go_sem] theorem V1 {ys:List (List D)}{b:Bool}{is:List Nat}(h:T=T'/\(tab T).kind= .slice/\(tab (tab T).elem).ok/\0<(tab (tab T).elem).size)(t:sz=(tab (tab T).elem).size/\EX sz ys/\(tab (tab T).elem).bytes<=32768/\es.length+ys.length<=4294967296)(u:¬ys.length=0)(w:(br||b)=b):
  Gl tab nid T T' (some (ys,b,is)) id ver es (A6 sz ver br es)=some (.so (CW nid id es) (CZ ver es) 0 (es.length+ys.length),[(CW nid id es,.rw (es++ys) sz (CZ ver es) b false)]):=by
 have⟨A,d,l,p⟩:=t;subst A;unfold Gl;rw[if_pos h];cases es with
 |nil=>
  have:ys.length<=4294967296:=by simpa using p
  simp[CW,CZ,d,l,this,u]
 |cons e r=>
  have:r.length+1+ys.length<=4294967296:=by simpa using p
  simp[CW,CZ,A6,d,l,this,w]
end
@[go_sem] theorem kd (d:¬j=nid)(h:¬j=id):(j=CW nid id es)=False:=by
 cases es<;>simp[CW,d,h]
@[go_sem] theorem kg (d:¬j=nid)(h:¬j=id):(CW nid id es=j)=False:=by
 cases es<;>simp only[CW,eq_iff_iff,iff_false]<;>intro e<;>first |exact d e.symm |exact h e.symm
@[go_sem] theorem V2 (id ver:Nat)(es:List (List D)):CB (Ac id ver es)=FE id es:=by cases es<;>rfl
attribute [go_sem] List.drop_nil List.take_nil
theorem vA (n:Nat):((no_index (OfNat.ofNat n:Nat):Nat):Int)=OfNat.ofNat n:=rfl
theorem T9 (h:∀x,J0 (f x)=true)(xs:List α):KK (xs.map f)=true:=by simp[KK,h]
@[go_sem] theorem lZ_:J0 []=true:=rfl
@[go_sem] theorem iw_ (c:D)(r:List D):J0 (c::r)=(U4 c&&J0 r):=rfl
@[go_sem] theorem kj (x:Value):U4 (.v x)=true:=rfl
@[go_sem] theorem ce (x:List (List D)):U4 (.sl x)=false:=rfl
@[go_sem] theorem ix_ (c:List D)(r:List (List D)):KK (c::r)=(J0 c&&KK r):=rfl
attribute [go_sem] vA gt_iff_lt ge_iff_le NI NO NB beq_self_eq_true bne_self_eq_false decide_true decide_false LE Lc not_false_eq_true not_true_eq_false IN Lg Option.toList
abbrev eS (x:ByteArray):List D:=[D.v (.string x)]
abbrev eI (x:Int):List D:=[D.v (.int .i64 x)]
abbrev eB (x:Bool):List D:=[D.v (.bool x)]
abbrev eL {α:Type}(f:α->List D)(x:List α):List D:=[D.sl (List.map f x)]
attribute [go_sem] eS eI eB eL
def DB (n:Nat)(P:Program)(d:Code)(Q:Ex->St->Prop)(s:St):Prop:=∀(g:Gh) (N:Nat) (c:Cf) (a:Act),D2 N d=true->EF g s c a N->n<=s.nx->d.wp P (C7 g N Q n c) a c.w
theorem C7.mono {g:Gh}{N:Nat}{Q Q':Ex->St->Prop}{c:Cf}{e:Exit}{l:Act}{w':World}(h:C7 g N Q n c e l w')(t:∀d s,Q d s->Q' d s):C7 g N Q' n c e l w':=by
 have⟨d,p,u,w,A,B⟩:=h;exact⟨d,p,u,w,t d p A,B⟩
def Dg (n:Nat)(P:Program):List It->(Ex->St->Prop)->Ex->St->Prop
 |[],Q,e,s=>Q e s
 | .c x::k,Q,e,s=>match e with
  | .normal=>DB n P x (Dg n P k Q) s
  | .ret=>Dg n P k Q .ret s
  | .exit m=>Dg n P k Q (.exit m) s
 | .blk m::k,Q,e,s=>match e with
  | .normal=>Dg n P k Q .normal s
  | .ret=>Dg n P k Q .ret s
  | .exit d=>if d=m then Dg n P k Q .normal s else Dg n P k Q (.exit d) s
 | .lp X::k,Q,e,s=>match e with
  | .normal=>X s
  | .ret=>Dg n P k Q .ret s
  | .exit m=>Dg n P k Q (.exit m) s
def CQ (n:Nat)(P:Program)(k:List It)(Q:Ex->St->Prop)(s:St):Prop:=Dg n P k Q .normal s
section
variable {P:Program}{tab:Nat->TI}{k:List It}{Q Q':Ex->St->Prop}{s:St}{a b x:Code}{n m:Nat}
theorem DB.mono (d:∀e s,Q e s->Q' e s)(h:DB n P a Q s):DB n P a Q' s:=fun g N c l p t u=>Code.wp_mono (fun _ _ _ hp=>C7.mono hp d) (h g N c l p t u)
theorem vB (d:Ad P tab)(l:P.follows .mixedOrders=true)(h:W P tab a Q s):DB n P a Q s:=fun _ _ c p t u w=>Code.wp_mono (fun _ _ _ hp=>Dm.toR hp w) (bU d l a Q s c p t h u)
theorem vC (h:DB n P a (fun e d=>match e with | .normal=>DB n P b Q d |e=>Q e d) s):DB n P (.seq a b) Q s:=by
 intro g N c E l F G;simp only[D2,Ln] at l;refine wp_seq (Code.wp_mono (fun e C H hp=> ?_) (h g N c E l.1 F G));have⟨I,d,p,J,t,u,L,w,A,B⟩:=hp;subst J;subst L;cases I with
 |normal=>exact Code.wp_mono (fun e C H hp=>C7.after hp w B) (t g N p C l.2 u A)
 |ret=>exact⟨.ret,d,p,rfl,t,u,rfl,w,A,B⟩
 |exit n=>exact⟨.exit n,d,p,rfl,t,u,rfl,w,A,B⟩
theorem vD (h:DB n P a (fun e d=>match e with | .exit p=>if p=m then Q .normal d else Q (.exit p) d |e=>Q e d) s):DB n P (.block m a) Q s:=by
 intro g N c E F G H;refine wp_block (Code.wp_mono (fun e L M hp=> ?_) (h g N c E F G H));have⟨I,d,t,J,l,u,w,A,B,C⟩:=hp;subst J;cases I with
 |normal=>exact⟨.normal,d,t,rfl,l,u,w,A,B,C⟩
 |ret=>exact⟨.ret,d,t,rfl,l,u,w,A,B,C⟩
 |exit p=>
  simp only[Ex.up,Exit.inBlock];by_cases e:p=m
  ·rw[if_pos e];simp only[if_pos e] at l;exact⟨.normal,d,t,rfl,l,u,w,A,B,C⟩
  rw[if_neg e];simp only[if_neg e] at l;exact⟨.exit p,d,t,rfl,l,u,w,A,B,C⟩
theorem vE (l:α->St)(B:α->Nat)(x0:α)(X:CH n (l x0) s)(Y:∀x,DB n P a (fun e p=>match e with | .normal=>∃t,CH n (l t) p/\B t<B x |e=>Q e p) (l x)):DB n P (.loop a) Q s:=by
 have Z:∀j x,B x=j->n<=(l x).nx->∀(g:Gh) (N:Nat) (c:Cf) (d:Act),D2 N a=true->EF g (l x) c d N->∀(b:Frame) (k:List Item) (cs:List Frame),∃e C E,C7 g N Q n c e C E/\Arrives P (lone (b.at d (.code a:: .inLoop a::k)) cs c.w) b k cs e C E:=by
  intro j;induction j using Nat.strongRecOn with
  |_ j ih=>
   intro x hx H g N c d F I b k cs;have⟨e,J,ak,L,h⟩:=Y x g N c d F I H b (.inLoop a::k) cs;have⟨ex,p,G,M,u,w,O,A,R,S⟩:=L;subst M;subst O;cases ex with
   |normal=>
    have⟨t,hw,ao⟩:=u;have⟨c2,q1,q2,q3,q4,q5⟩:=w.weakR R hw;have⟨aa,ab,ad,ag,U⟩:=ih (B t) (by omega) t rfl q4 g N c2 J F q1 b k cs;rw[q2] at U;exact⟨aa,ab,ad,C7.after (C7.after ag q3 q5) A S,.of_steps (Steps.trans h (.one step_inLoop)) U⟩
   |ret=>exact⟨_,J,_,⟨.ret,p,G,rfl,u,w,rfl,A,R,S⟩,.pass (x:=.inLoop a) rfl (fun _ _=>.inl (by simp[Ex.up])) h⟩
   |exit m=>exact⟨_,J,_,⟨.exit m,p,G,rfl,u,w,rfl,A,R,S⟩,.pass (x:=.inLoop a) rfl (fun _ _=>.inl (by simp[Ex.up])) h⟩
 intro g N c d F I H b k cs;have⟨G,M,u,w,O,A⟩:=I.weakR H X;have⟨e,C,E,L,h⟩:=Z _ x0 rfl O g N G d F M b k cs;rw[u] at h;exact⟨e,C,E,C7.after L w A,.of_steps (.one step_loop) h⟩
theorem DB.join {R:St->Prop}(h:DB n P a (fun e d=>match e with | .normal=>∃l,CH n l d/\R l |e=>Q e d) s):DB n P a (fun e d=>match e with | .normal=>R d |e=>Q e d) s:=by
 intro g N c G H I J;refine Code.wp_mono (fun e a' w' hp=> ?_) (h g N c G H I J);have⟨L,d,F,p,t,u,w,A,B,C⟩:=hp;cases L with
 |normal=>
  have⟨l,M,O⟩:=t;have⟨S,U,X,Y,q4,q5⟩:=u.weakR B M;refine⟨.normal,l,S,p,O,U,X.trans w,A.trans Y,q4,fun i hi=> ?_⟩;rcases q5 i hi with E |E
  ·exact C i E
  ·exact .inr E
 |ret=>exact⟨.ret,d,F,p,t,u,w,A,B,C⟩
 |exit m=>exact⟨.exit m,d,F,p,t,u,w,A,B,C⟩
theorem Yv:∀(k:List It),Dg n P k Q .ret s=Q .ret s
 |[]=>rfl
 | .c _::k=>Yv k
 | .blk _::k=>Yv k
 | .lp _::k=>Yv k
theorem vF:Dg n P (.c a::k) Q (.exit m) s=Dg n P k Q (.exit m) s:=rfl
theorem vG {X:St->Prop}:Dg n P (.lp X::k) Q (.exit m) s=Dg n P k Q (.exit m) s:=rfl
theorem vH {d:Nat}:Dg n P (.blk m::k) Q (.exit d) s=if d=m then CQ n P k Q s else Dg n P k Q (.exit d) s:=rfl
theorem vJ {e:Ex}:Dg n P [] Q e s=Q e s:=rfl
theorem vK:Dg n P k Q .normal s=CQ n P k Q s:=rfl
theorem vL:CQ n P [] Q s=Q .normal s:=rfl
theorem vM:CQ n P (.blk m::k) Q s=CQ n P k Q s:=rfl
theorem vN {X:St->Prop}:CQ n P (.lp X::k) Q s=X s:=rfl
theorem AT (h:CQ n P (.c a:: .c b::k) Q s):CQ n P (.c (.seq a b)::k) Q s:=
 vC (DB.mono (fun e s h=>by cases e<;>exact h) (show DB n P a (Dg n P (.c b::k) Q) s from h))
theorem CS (h:CQ n P (.c a:: .blk m::k) Q s):CQ n P (.c (.block m a)::k) Q s:=
 vD (DB.mono (fun e s h=>by cases e<;>exact h) (show DB n P a (Dg n P (.blk m::k) Q) s from h))
theorem DQ (d:α->St)(l:α->Nat)(x0:α)(u:CH n (d x0) s)(w:∀x,CQ n P [.c a,.lp fun t=>∃p,CH n (d p) t/\l p<l x] (Dg n P k Q) (d x)):CQ n P (.c (.loop a)::k) Q s:=
 vE d l x0 u fun x=>DB.mono (fun e s h=>by cases e<;>exact h) (show DB n P a (Dg n P [.lp fun t=>∃p,CH n (d p) t/\l p<l x] (Dg n P k Q)) (d x) from w x)
theorem D3 (l:α->St)(p:CQ n P [.c x,.lp fun d=>∃y,CH n (l y) d] (Dg n P k Q) s)(t:∀y,CQ n P k Q (l y)):CQ n P (.c x::k) Q s:=by
 have:DB n P x (fun e d=>match e with | .normal=>CQ n P k Q d |e=>Dg n P k Q e d) s:=by
  refine DB.join (DB.mono ?_ (show DB n P x (Dg n P [.lp fun d=>∃y,CH n (l y) d] (Dg n P k Q)) s from p));intro e d h;cases e with
  |normal=>
   have⟨y,u⟩:=h;exact⟨_,u,t y⟩
  |ret=>exact h
  |exit m=>exact h
 exact DB.mono (fun e s h=>by cases e<;>exact h) this
theorem ET {y:Operand}{c:Bool}(h:ev s.fr y= .v (.bool c))(u:c=true)(w:CQ n P (.c a::k) Q s):CQ n P (.c (.cond y a b)::k) Q s:=by
 intro g N d l p t A;simp only[D2,Ln] at p;have B:=(show Au g d (.v (.bool c)) (l.eval y) by rw[<-h];exact MG t.fr y).v.1;subst u;refine wp_cond_split B (fun _=> ?_) fun e=>by cases e
 exact Code.wp_mono (fun _ _ _ hp=>hp.mono fun e s h=>by cases e<;>exact h) (w g N d l p.1 t A)
theorem DN {y:Operand}{c:Bool}(h:ev s.fr y= .v (.bool c))(u:c=false)(w:CQ n P (.c b::k) Q s):CQ n P (.c (.cond y a b)::k) Q s:=by
 intro g N d l p t A;simp only[D2,Ln] at p;have B:=(show Au g d (.v (.bool c)) (l.eval y) by rw[<-h];exact MG t.fr y).v.1;subst u;refine wp_cond_split B (fun e=>by cases e) fun _=> ?_;exact Code.wp_mono (fun _ _ _ hp=>hp.mono fun e s h=>by cases e<;>exact h) (w g N d l p.2 t A)
theorem MJ (l:Ad P tab)(p:P.follows .mixedOrders=true):∀(w d:List It) (e:Ex) (s:St),Cu P tab w (Dg n P d Q) e s->Dg n P (w++d) Q e s
 |[],d,e,s,h=>h
 | .c x::k,d,e,s,h=>by
  cases e with
  |normal=>exact vB l p (KU x _ _ s (fun e s h=>MJ l p k d e s h) h)
  |ret=>exact MJ l p k d _ s h
  |exit m=>exact MJ l p k d _ s h
 | .blk m::k,d,e,s,h=>by
  cases e with
  |normal=>exact MJ l p k d _ s h
  |ret=>exact MJ l p k d _ s h
  |exit t=>
   show if t=m then _ else _
   have u:(if t=m then Cu P tab k (Dg n P d Q) .normal s else Cu P tab k (Dg n P d Q) (.exit t) s):=h;by_cases e:t=m
   ·rw[if_pos e] at u⊢;exact MJ l p k d _ s u
   ·rw[if_neg e] at u⊢;exact MJ l p k d _ s u
 | .lp X::k,d,e,s,h=>by
  cases e with |normal=>exact h |ret=>exact MJ l p k d _ s h |exit m=>exact MJ l p k d _ s h
theorem vO (d:Ad P tab)(l:P.follows .mixedOrders=true)(m:Nat)(h:run P tab (k.take m) (Dg n P (k.drop m) Q) s):CQ n P k Q s:=by
 have:=MJ d l (k.take m) (k.drop m) .normal s h;rwa [LK] at this
theorem cg (t:Ad P tab){f:FuncId}{fn:Func}{d:Code}(u:P.funcs[f]? =some fn)(w:fn.body=some d)(A:(fn.name== "runtime.NumGoroutine")=false)(l:D2 fn.ntmps d=true){nx:Nat}{R:AV->Hp->Nat->Prop}
  (B:vs.length<=fn.ntmps) (h:CQ nx P [.c d] (Dd tab fn.results R) ⟨Dw vs,hp,nx⟩):AU P f vs hp nx R:=by
 have C:Sem P d (Dd tab fn.results R) ⟨Dw vs,hp,nx⟩:=fun g N c E l p=>
  Code.wp_mono (fun e F G hp=>C7.toE (hp.mono fun e s h=>by cases e<;>exact h) p.hr p.kn) ((show DB nx P d (Dg nx P [] (Dd tab fn.results R)) _ from h) g N c E l p (Lc _))
 exact kU t u w A l B (Sem.mono (fun e s h=>by cases e<;>exact h) C)
theorem vP (t:Ad P tab){f:FuncId}{fn:Func}{l:Code}(u:P.funcs[f]? =some fn)(w:fn.body=some l)(A:(fn.name== "runtime.NumGoroutine")=false)(B:D2 fn.ntmps l=true){ds:List D}{d:D}{p:Bool}
  (C:ds.length<=fn.ntmps) (h:CQ 0 P [.c l] (Dd tab fn.results (HA d p)) ⟨Dw (ds.map (CE true)),AM,0⟩):AI P f ds d p:=
 VH (cg t u w A B (by simpa using C) h)
end
attribute [go_sem] Yv vF vG vH vJ vK vL vM vN
@[go_sem] theorem V3 (hp:Hp)(i:Nat)(r:List Nat):frz hp (i::r)=match hp i with |some (.rw es sz v br _)=>(i,.rw es sz v br true)::frz hp r |_=>frz hp r:=rfl
end
section
open Go.RowKit
inductive DA where
 |d (x:D)
 |fn (f:FuncId) (caps:List D)
def DA.av:DA->AV
 | .d x=>CE true x
 | .fn f caps=>.fn f (caps.map (CE true))
def Ps (hp:Hp):AV->Option (D × Bool × List Nat)
 | .pt id d=>match hp id with
  |some (.bx cs)=>(DR hp cs).map fun(h,b,is)=>(.pt h d,b,id::is)
  |_=>none
 |x=>Ce hp x
def Gm (hp:Hp):List AV->Option (List D × Bool × List Nat)
 |[]=>some ([],false,[])
 |c::r=>match Ps hp c,Gm hp r with
  |some (d,b,i),some (h,l,p)=>some (d::h,b||l,i++p)
  |_,_=>none
def My (hp:Hp):AV->Option (DA × Bool × List Nat)
 | .fn f h=>(Gm hp h).map fun(l,b,is)=>(.fn f l,b,is)
 | .pt id p=>(Ps hp (.pt id p)).map fun(d,b,is)=>(.d d,b,is)
 |x=>(Ek hp x).map fun(d,b,is)=>(.d d,b,is)
def Eu (hp:Hp):List AV->Option (List DA × Bool × List Nat)
 |[]=>some ([],false,[])
 |c::r=>match My hp c,Eu hp r with
  |some (d,b,i),some (h,l,p)=>some (d::h,b||l,i++p)
  |_,_=>none
def V4 (w:World)(I:Nat->Prop):DA->Value->Prop
 | .d x,u=>Dj w I x u
 | .fn f d,u=>∃(h:Nat->Value) (n:Nat),d.length=n/\u= .func (.func f) #[] (Array.ofFn (n:=n) fun j=>h j)/\∀(j:Nat) (x:D),d[j]? =some x->RC w I x (h j)
def CO (P:Program)(f:FuncId)(as:List DA)(d:D)(fr:Bool):Prop:=Mp P f/\∀(w:World) (l:Nat->Prop) (p:Array Value),(∀k,l k->k<w.heap.size)->p.size=as.length->(∀(j:Nat) (x:DA),as[j]? =some x->∃u,p[j]? =some u/\V4 w (fun k=>k<w.heap.size/\¬l k) x u)->Calls P f p w fun e h=>∃u,e= .returned u/\(Below w.heap.size w h/\w.drawn<=h.drawn)/\RV h (fun k=>k<h.heap.size/\¬l k/\(fr=true->w.heap.size<=k)) d u
theorem CO.of_pure {P:Program}{f:FuncId}{ds:List D}{d:D}(h:AI P f ds d fr):CO P f (ds.map .d) d fr:=
 ⟨h.1,fun w l p t u A=>h.2 w l p t (by simpa using u) fun j x B=>A j (.d x) (by simp[B])⟩
section
variable {P:Program}{tab:Nat->TI}{g:Gh}{c:Cf}
theorem km {u:Value}{d:D}{b:Bool}{is:List Nat}(t:HR g c)(w:c.hp=hp)(h:RA g c x u)(l:Ps hp x=some (d,b,is))(I:Nat->Prop)(E:∀k,Im g c b k->I k)
  (A:∀i∈is,I (c.φ i)):RC c.w I d u:=by
 unfold Ps at l;split at l
 ·rename_i id B;split at l
  ·rename_i cs p;have⟨⟨F,X,Y⟩,H,G⟩:=La.1 l;simp only[LB] at G;obtain⟨rfl,rfl,rfl⟩:=G;cases h with
   |pt _ _ Z ho=>
    rw[<-w] at p;have⟨T,vs,J,h2,L⟩:=t.obj id _ p;have M:∀(j:Nat) (x:AV),cs[j]? =some x->RA g c x (vs.getD j undef):=fun j x C=>by
     have⟨u,N,O⟩:=L j x C;rw[LI,N];exact O
    have⟨g1,R⟩:=X6 t w I (fun j=>vs.getD j undef) H M E fun i p=>A i (by simp[p]);have S:RC c.w I (.pt F B) (.pointer (some ⟨c.φ id,0+B,none⟩)):=by
     refine RC.pt F B (c.φ id) 0 (fun j=>vs.getD j undef) (A id (by simp)) (fun j d C=> ?_) R;have U:j<vs.size:=by
      have:=(Lb.1 C).1;omega
     simp[World.cell?,J,Array.getD,U]
    rwa [NE] at S
  cases l
 exact U6 t w h l I E A
theorem kq {hp:Hp}(w:HR g c)(A:c.hp=hp)(I:Nat->Prop):∀ {xs:List AV} {l:List D} {b:Bool} {is:List Nat} (vs:Nat->Value),Gm hp xs=some (l,b,is)->(∀(j:Nat) (x:AV),xs[j]? =some x->RA g c x (vs j))->
  (∀k,Im g c b k->I k)->(∀i∈is,I (c.φ i))->l.length=xs.length/\∀(j:Nat) (d:D),l[j]? =some d->RC c.w I d (vs j)
 |[],l,b,is,vs,h,_,_,_=>by
  simp only[Gm,Lf,LB] at h;obtain⟨rfl,_⟩:=h;exact⟨rfl,fun j d h=>by simp at h⟩
 |x::xs,l,b,is,vs,h,B,C,E=>by
  unfold Gm at h;split at h
  ·rename_i d M N O R S F G;cases h;have H:=km w A (B 0 x rfl) F I (fun k t=>C k t.or) fun i u=>E i (by simp[u]);have⟨J,L⟩:=kq w A I (fun j=>vs (j+1)) G (fun j y p=>B (j+1) y (by simpa using p)) (fun k t=>C k t.or') fun i u=>E i (by simp[u]);refine⟨by simp[J],fun j y p=> ?_⟩;cases j with |zero=>simp at p;subst p;exact H |succ j=>exact L j y (by simpa using p)
  cases h
theorem Re {u:Value}{d:DA}{b:Bool}{is:List Nat}(w:HR g c)(A:c.hp=hp)(h:Au g c x u)(p:My hp x=some (d,b,is))(I:Nat->Prop)(B:∀k,Im g c b k->I k)
  (C:∀i∈is,I (c.φ i)):V4 c.w I d u:=by
 unfold My at p;split at p
 ·rename_i f L;have⟨⟨R,E,F⟩,t,l⟩:=La.1 p;simp only[LB] at l;obtain⟨rfl,rfl,rfl⟩:=l;cases(show RA g c (.fn f L) u from h) with
  |fn _ _ G n S M=>
   have⟨U,N⟩:=kq w A I G t M B C;exact⟨G,n,by omega,rfl,N⟩
 ·rename_i id O;have⟨⟨H,E,F⟩,t,l⟩:=La.1 p;simp only[LB] at l;obtain⟨rfl,rfl,rfl⟩:=l;have J:=km w A (show RA g c (.pt id O) u from h) t I B C;show Dj c.w I H u;unfold Dj;split
  ·cases J
  exact J
 have⟨⟨H,E,F⟩,t,l⟩:=La.1 p;simp only[LB] at l;obtain⟨rfl,rfl,rfl⟩:=l;exact(X7 w A I t h B C).1
theorem ku {hp:Hp}(A:HR g c)(B:c.hp=hp)(I:Nat->Prop):∀ {xs:List AV} {l:List DA} {b:Bool} {is:List Nat} (p:Nat->Value),Eu hp xs=some (l,b,is)->(∀(j:Nat) (x:AV),xs[j]? =some x->Au g c x (p j))->
  (∀k,Im g c b k->I k)->(∀i∈is,I (c.φ i))->l.length=xs.length/\∀(j:Nat) (d:DA),l[j]? =some d->V4 c.w I d (p j)
 |[],l,b,is,p,h,_,_,_=>by
  simp only[Eu,Lf,LB] at h;obtain⟨rfl,_⟩:=h;exact⟨rfl,fun j d h=>by simp at h⟩
 |x::xs,l,b,is,p,h,C,E,F=>by
  unfold Eu at h;split at h
  ·rename_i d N O R S U G H;cases h;have J:=Re A B (C 0 x rfl) G I (fun k u=>E k u.or) fun i w=>F i (by simp[w]);have⟨L,M⟩:=ku A B I (fun j=>p (j+1)) H (fun j y t=>C (j+1) y (by simpa using t)) (fun k u=>E k u.or') fun i w=>F i (by simp[w]);refine⟨by simp[L],fun j y t=> ?_⟩;cases j with |zero=>simp at t;subst t;exact J |succ j=>exact M j y (by simpa using t)
  cases h
theorem kx {d:D}{b:Bool}{is:List Nat}(h:Ps hp x=some (d,b,is)):∀i∈is,∃o,hp i=some o:=by
 unfold Ps at h;split at h
 ·rename_i id B;split at h
  ·rename_i cs u;have⟨⟨C,E,F⟩,w,t⟩:=La.1 h;simp only[LB] at t;obtain⟨rfl,rfl,rfl⟩:=t;intro i l;rcases Lr.1 l with rfl |l
   ·exact⟨_,u⟩
   have⟨es,sz,v,br,A,p⟩:=U9 w i l;exact⟨_,p⟩
  cases h
 intro i l;have⟨es,sz,v,A,p⟩:=U8 h i l;exact⟨_,p⟩
theorem lA {hp:Hp}:∀ {xs:List AV} {l:List D} {b:Bool} {is:List Nat},Gm hp xs=some (l,b,is)->∀i∈is,∃o,hp i=some o
 |[],l,b,is,h=>by
  simp only[Gm,Lf,LB] at h;obtain⟨_,_,rfl⟩:=h;simp
 |x::xs,l,b,is,h=>by
  unfold Gm at h;split at h
  ·rename_i d A B C E F t u;cases h;intro i w;rcases Ly.1 w with p |p
   ·exact kx t i p
   exact lA u i p
  cases h
theorem vQ {d:DA}{b:Bool}{is:List Nat}(h:My hp x=some (d,b,is)):∀i∈is,∃o,hp i=some o:=by
 unfold My at h;split at h
 ·have⟨⟨t,u,w⟩,p,l⟩:=La.1 h;simp only[LB] at l;obtain⟨rfl,rfl,rfl⟩:=l;exact lA p
 ·have⟨⟨t,u,w⟩,p,l⟩:=La.1 h;simp only[LB] at l;obtain⟨rfl,rfl,rfl⟩:=l;exact kx p
 have⟨⟨t,u,w⟩,p,l⟩:=La.1 h;simp only[LB] at l;obtain⟨rfl,rfl,rfl⟩:=l;intro i A;have⟨es,sz,v,br,C,B⟩:=X8 p i A;exact⟨_,B⟩
theorem lC {hp:Hp}:∀ {xs:List AV} {l:List DA} {b:Bool} {is:List Nat},Eu hp xs=some (l,b,is)->∀i∈is,∃o,hp i=some o
 |[],l,b,is,h=>by
  simp only[Eu,Lf,LB] at h;obtain⟨_,_,rfl⟩:=h;simp
 |x::xs,l,b,is,h=>by
  unfold Eu at h;split at h
  ·rename_i d A B C E F t u;cases h;intro i w;rcases Ly.1 w with p |p
   ·exact vQ t i p
   exact lC u i p
  cases h
theorem lD {f:FuncId}{nx:Nat}{as:List DA}{b:Bool}{is:List Nat}{d:D}(U:Eu hp vs=some (as,b,is))(hp0:CO P f as d fr)(B:is= []\/fr=true):
  AU P f vs hp nx fun v2 aa ab=>v2=CE (!fr&&b) d/\aa=hp/\ab=nx:=by
 refine⟨hp0.1,fun g c H M av p aE ad=> ?_⟩;have⟨_,hp0⟩:=hp0;have X:∀(I:Nat->Prop),(∀k,Im g c b k->I k)->(∀i∈is,I (c.φ i))->H.size=as.length/\∀(j:Nat) (x:DA),as[j]? =some x->∃u,H[j]? =some u/\V4 c.w I x u:=by
  intro I J C;have⟨g1,g2⟩:=ku p M I (fun j=>H.getD j undef) U (YD ad) J C;refine⟨by omega,fun j x Y=>⟨_,YE (by have:=(Lb.1 Y).1;omega),g2 j x Y⟩⟩
 have Z:∀(I:Nat->Prop) (u:Value) (l:World),Below c.w.heap.size c.w l/\c.w.drawn<=l.drawn->RV l I d u->(∀k,I k->k<l.heap.size/\(c.w.heap.size<=k\/Im g c (!fr&&b) k))->
   ∃u' v F N,Ending.returned u= .returned u'/\(v=CE (!fr&&b) d/\F.hp=hp/\N=nx)/\F.w=l/\CP c F/\HR g F/\Au g F v u'/\nx<=N/\∀i,F.kn i->c.kn i\/(nx<=i/\i<N):=by
  intro I u l ⟨w,ak⟩ L hI;have E:CP c ⟨c.hp,c.φ,l,c.kn⟩:=⟨w.os,w.tape,w.output,w.size,fun _ h=>h,fun k t _=>w.block k t,fun id o A hf=>.inr ⟨o,A,hf,rfl⟩,fun _ _ h=>⟨rfl,h⟩,
   fun id es _ v br fz t p=>⟨es,v,br,fz,p,Lc _,fun _=>⟨rfl,rfl,fun ao _ e=>⟨ao,(w.block _ (‹HR g c›.dom id _ p).2.2).trans e,rfl⟩⟩⟩,ak⟩
  have ap:HR g ⟨c.hp,c.φ,l,c.kn⟩:=⟨Lv p.le w.size,fun k t=>LF (p.m0 k t) w.size,fun id o A=>⟨(p.dom id o A).1,(p.dom id o A).2.1,LF (p.dom id o A).2.2 w.size⟩,p.inj,fun id o A=>(p.obj id o A).ext E rfl (w.block _ (p.dom id o A).2.2)⟩;refine⟨u,_,⟨c.hp,c.φ,l,c.kn⟩,nx,rfl,⟨rfl,M,rfl⟩,rfl,E,ap,?_,Lc _,fun i h=>.inl h⟩;have G:RV l (Im g ⟨c.hp,c.φ,l,c.kn⟩ (!fr&&b)) d u:=L.mono (fun _ _=>rfl) fun k t=>by
   have⟨J,C⟩:=hI k t;rcases C with C |C
   ·refine⟨J,fun hm=> ?_,fun id o A _ e=> ?_,fun _=>Lv p.le C⟩
    ·have:=p.m0 k hm
     have:=p.le;omega
    have:=(p.dom id o A).2.2;simp only at e;omega
   exact C.ext E
  cases d with |v x=>exact(RC.toRA (c:=⟨c.hp,c.φ,l,c.kn⟩) G).toAt |sl es=>exact(RC.toRA (c:=⟨c.hp,c.φ,l,c.kn⟩) G).toAt |pt cs a0=>exact(RC.toRA (c:=⟨c.hp,c.φ,l,c.kn⟩) G).toAt |mp es=>exact(RC.toRA (c:=⟨c.hp,c.φ,l,c.kn⟩) G).toAt |ag cs=>exact G |tu cs=>exact G
 by_cases O:fr=true
 ·subst O;have⟨R,S⟩:=X (fun k=>k<c.w.heap.size/\¬False) (fun k t=>⟨t.1,fun h=>h⟩) (fun i B=>by
   have⟨o,J⟩:=lC U i B;exact⟨(p.dom i _ (M▸J)).2.2,fun h=>h⟩)
  refine(hp0 c.w (fun _=>False) H (fun _ h=>h.elim) R S).mono fun e l ⟨u,E,w,L⟩=> ?_;subst E;exact Z _ u l w L fun k t=>⟨t.1,.inl (t.2.2 rfl)⟩
 have h0:is= []:=by
  rcases B with B |B
  ·exact B
  exact absurd B O
 subst h0;have aq:fr=false:=by simpa using O
 subst aq;have⟨R,S⟩:=X (fun k=>k<c.w.heap.size/\¬(k<c.w.heap.size/\¬Im g c b k)) (fun k t=>⟨t.1,fun h=>h.2 t⟩) (fun i B=>by simp at B);refine(hp0 c.w (fun k=>k<c.w.heap.size/\¬Im g c b k) H (fun _ h=>h.1) R S).mono fun e l ⟨u,E,w,L⟩=> ?_;subst E;refine Z _ u l w L fun k t=>⟨t.1,?_⟩;by_cases ar:k<c.w.heap.size
 ·refine .inr ?_
  have:Im g c b k:=Bx fun hn=>t.2.1 ⟨ar,hn⟩
  simpa using this
 exact .inl (by omega)
theorem vS {f:FuncId}{nx:Nat}{as:List DA}{b:Bool}{is:List Nat}{d:D}(ids:List Nat)(l:∀h:Hp,(∀i∈ids,h i=hp i)->Eu h vs=some (as,b,is))(hp0:CO P f as d fr)(p:is= []\/fr=true):
  Pi P f vs hp nx ids (CE (!fr&&b) d) [] nx:=fun h t=>(lD (l h t.1) hp0 p).mono fun _ _ _ ⟨u,w,A⟩=>⟨u,w,A⟩
section
variable {ops:Array Oper}{nx0 nx i:Nat}{k:List It}{Q:Ex->St->Prop}{r:List Oper}{s:St}{dst:Option Nat}{acc:List Cx}{fr:Fr}{hp:Hp}{ids:List Nat}
theorem lE {g:FuncId}{l:List AV}{as:List DA}{b:Bool}{is:List Nat}{d:D}{f:Bool}(p:Eu s.hp (vs++l)=some (as,b,is))(t:CO P g as d f)(u:is= []\/f=true)(h:Rt P tab ops nx0 k Q i r ⟨CJ dst (CE (!f&&b) d) s.fr,s.hp,s.nx⟩):
  Ms P tab ops nx0 k Q i r dst s (.fn g l) vs:=CR ((lD p t u).mono fun A B C w=>by
 obtain⟨rfl,rfl,rfl⟩:=w;exact h)
theorem ci {g:FuncId}{l:List AV}{as:List DA}{b:Bool}{is:List Nat}{d:D}{f:Bool}(ids':List Nat)(t:∀p:Hp,(∀i∈ids',p i=hp i)->Eu p (vs++l)=some (as,b,is))(u:CO P g as d f)(w:is= []\/f=true)(h:Rd P tab ops nx0 nx k Q i r (⟨ids',[],true⟩::acc) (CJ dst (CE (!f&&b) d) fr) hp):
  Pk P tab ops nx0 nx k Q i r dst acc ids fr hp (.fn g l) vs:=RR (vS ids' t u w) h
end
end
attribute [go_sem] Eu Gm DA.av
section
variable (hp:Hp)(b c:Bool)(x:List (List D))(y:List D)(o n i v:Nat)(cs:List AV)(f:FuncId)(e:Value)
@[go_sem] theorem cj:My hp (.pt i o)=(Ps hp (.pt i o)).map fun(d,b,is)=>(.d d,b,is):=rfl
@[go_sem] theorem lF:My hp (.v e)=(Ce hp (.v e)).map fun(d,b,is)=>(.d d,b,is):=rfl
@[go_sem] theorem ck:My hp (.ag cs)=(Ek hp (.ag cs)).map fun(d,b,is)=>(.d d,b,is):=rfl
@[go_sem] theorem cl:Ps hp (.pt i o)=match hp i with
  |some (.bx cs)=>(DR hp cs).map fun(d,b,is)=>(.pt d o,b,i::is)
  |_=>none:=rfl
end
def sl (n:Int)(k:Nat):Int:=n*2^(min k 64)
@[go_sem ↓ high] theorem UA (a b:Int)(k:IntKind):Ge .shr (.int .u64 a) (.int k b)=if b<0 then none else some (.int .u64 (sh a b.toNat)):=rfl
def Dl {α S X:Type}(f:S->α->(S->Option X)->Option X)(e:S->Option X):List α->S->Option X
 |[],d=>e d
 |x::r,d=>f d x (Dl f e r)
theorem Pt (xs:List α)(k:Nat):CD xs (k:Int)=xs[k]? :=by simp[CD]
theorem Ka {α S X:Type}(L:Nat->S->Int->Option X)(xs:List α)(f:S->α->(S->Option X)->Option X)(e:S->Option X)
  (h:∀c d i,L (c+1) d i=if decide (i<(xs.length:Int)) then(CD xs i).bind fun x=>f d x fun l=>L c l (IntKind.i64.wrap (i+1)) else e d) (u:xs.length<4611686018427387904):
  ∀(c:Nat) (d:S) (k:Nat),k<=xs.length->xs.length-k<c->L c d (k:Int)=Dl f e (xs.drop k) d
 |0,_,_,_,w=>by omega
 |c+1,d,k,A,w=>by
  rw[h];by_cases p:k<xs.length
  ·have t:decide ((k:Int)<(xs.length:Int))=true:=Yp p;rw[t,if_pos rfl,Pt,Le p,Lm p];simp only[LU,Dl];congr 1;funext l;rw[T3 (by omega)];exact Ka L xs f e h u c l (k+1) (by omega) (by omega)
  have t:decide ((k:Int)<(xs.length:Int))=false:=cZ (by omega);rw[t,if_neg (by simp),Nt (by omega)];rfl
def Rg (id sz:Nat)(b:Bool):List (List D)->List (Nat × AO)
 |[]=>[]
 |e::r=>[(id,.rw (e::r) sz 0 b false)]
theorem vT {b:Bool}(h:hp id=none):CC (Rg id sz b es) hp=upd id (A6 sz 0 b es) hp:=by
 cases es with
 |nil=>
  show hp=upd id none hp;funext j;unfold upd;split
  ·rename_i e;rw[e];exact h
  ·rfl
 |cons e r=>rfl
@[go_sem] theorem Yw {b:Bool}:(if xs.length=0 then some (AV.v (.slice none 0 0),([]:List (Nat × AO))) else some (.so nid 0 0 xs.length,[(nid,.rw (List.map f xs) sz 0 b false)]))=some (Ac nid 0 (List.map f xs),Rg nid sz b (List.map f xs)):=by
 cases xs with
 |nil=>rfl
 |cons x r=>simp[Ac,Rg]
attribute [go_sem] vT
end
section
open Go.RowKit
section
variable {K V:Type}[BEq K]
def mget (k:K):List (K × V)->Option V
 |[]=>none
 |p::r=>if k==p.1 then some p.2 else mget k r
def mset (k:K)(v:V):List (K × V)->List (K × V)
 |[]=>[(k,v)]
 |p::r=>if k==p.1 then(k,v)::r else p::mset k v r
def Av (k:K)(m:List (K × V)):Bool:=(mget k m).isSome
def qf_ (k:K)(z:V)(m:List (K × V)):V:=(mget k m).getD z
end
def FF {K:Type}[BEq K](q:Bool × List TK)(kv:K->Value):Prop:=∀a b,KN q (kv a) (kv b)=some (a==b)
theorem V5:FF (false,[.string]) Value.string:=fun _ _=>rfl
def AZ {K V:Type}(kv:K->Value)(ev:V->AV)(m:List (K × V)):List (Value × AV):=m.map fun p=>(kv p.1,ev p.2)
section
variable {K V:Type}[BEq K]{q:Bool × List TK}{kv:K->Value}{ev:V->AV}
theorem Pu (B:FF q kv)(k:K):∀m:List (K × V),∃o,D5 q (kv k) (AZ kv ev m)=some o/\(∀v,mget k m=some v->∃i,o=some (i,ev v)/\∀d,(AZ kv ev m).set i (kv k,ev d)=AZ kv ev (mset k d m))/\(mget k m=none->o=none/\∀d,mset k d m=m++[(k,d)])
 |[]=>⟨none,rfl,(fun v h=>by cases h),fun _=>⟨rfl,fun _=>rfl⟩⟩
 |p::r=>by
  have⟨o,C,E,F⟩:=Pu B k r;have e:AZ kv ev (p::r)=(kv p.1,ev p.2)::AZ kv ev r:=rfl;rw[e];unfold D5;rw[B k p.1];cases t:(k==p.1)
  ·simp only[C];have g:mget k (p::r)=mget k r:=(by simp[mget,t]);have u:∀d,mset k d (p::r)=p::mset k d r:=fun d=>(by simp[mset,t]);cases l:mget k r with
   |none=>
    have⟨w,A⟩:=F l;subst w;refine⟨none,rfl,fun v h=> ?_,fun _=>⟨rfl,fun d=> ?_⟩⟩
    ·rw[g,l] at h;cases h
    ·rw[u,A];rfl
   |some v=>
    have⟨i,w,A⟩:=E v l;subst w;refine⟨some (i+1,ev v),rfl,fun G h=> ?_,fun h=> ?_⟩
    ·rw[g,l] at h;cases h;refine⟨i+1,rfl,fun d=> ?_⟩;rw[u,Io,A];rfl
    rw[g,l] at h;cases h
  have g:mget k (p::r)=some p.2:=by simp[mget,t]
  have u:∀d,mset k d (p::r)=(k,d)::r:=fun d=>by simp[mset,t]
  refine⟨some (0,ev p.2),rfl,fun v h=> ?_,fun h=> ?_⟩
  ·rw[g] at h;cases h;refine⟨0,rfl,fun d=> ?_⟩;rw[u];rfl
  rw[g] at h;cases h
theorem Yx (p:FF q kv)(k:K)(v:V)(m:List (K × V)):Ec q (kv k) (ev v) (AZ kv ev m)=some (AZ kv ev (mset k v m)):=by
 have⟨o,t,u,A⟩:=Pu (ev:=ev) p k m;unfold Ec;rw[t];cases l:mget k m with
 |none=>
  have⟨d,h⟩:=A l;subst d;simp only[h];simp[AZ]
 |some w=>
  have⟨i,d,h⟩:=u w l;subst d;simp only[h]
def En (q:Bool × List TK)(kv:Value)(z:AV)(ok:Bool)(es:List (Value × AV)):Option (AV × List (Nat × AO)):=
 match D5 q kv es with
 |some none=>some (if ok then .tu [z,.v (.bool false)] else z,[])
 |some (some (_,v))=>some (if ok then .tu [v,.v (.bool true)] else v,[])
 |none=>none
theorem UB (l:FF q kv)(k:K)(z:V)(ok:Bool)(m:List (K × V)):En q (kv k) (ev z) ok (AZ kv ev m)=some (if ok then .tu [ev (qf_ k z m),.v (.bool (Av k m))] else ev (qf_ k z m),[]):=by
 have⟨o,p,t,u⟩:=Pu (ev:=ev) l k m;unfold En;rw[p];cases d:mget k m with
 |none=>
  have⟨h,A⟩:=u d;subst h;simp[qf_,Av,d]
 |some w=>
  have⟨i,h,A⟩:=t w d;subst h;simp[qf_,Av,d]
end
def Kb (q:Option (Bool × List TK))(kv:Option Value)(z:Option AV)(d:Bool->AV)(x:AV)(hp:Hp)(ok:Bool):Option (AV × List (Nat × AO)):=
 match q,kv,z with
 |some q,some kv,some z=>if Gg q kv then match x with
  | .mo i=>match hp i with
   |some (.mo es _)=>En q kv z ok es
   |_=>none
  | .d (.mp es) b=>En q kv (d b) ok (Fe b es)
  | .v (.map none)=>some (if ok then .tu [z,.v (.bool false)] else z,[])
  |_=>none else none
 |_,_,_=>none
@[go_sem ↓ high] theorem iB_ {tab:Nat->TI}(ρ:Operand->AV)(hp:Hp)(id T:Nat)(x k:Operand)(ok:Bool):CM tab ρ hp id (.lookup T x k ok)=Kb (tab T).mkey (Es (ρ k)) (JW (tab (tab T).elem)) (fun b=>Pe b (tab (tab T).elem)) (ρ x) hp ok:=rfl
@[go_sem] theorem V6 (q:Bool × List TK)(kv:Value)(z:AV)(d:Bool->AV)(i:Nat)(hp:Hp)(ok:Bool):Kb (some q) (some kv) (some z) d (.mo i) hp ok=if Gg q kv then(match hp i with |some (.mo es _)=>En q kv z ok es |_=>none) else none:=rfl
@[go_sem] theorem V7 (q:Bool × List TK)(kv:Value)(z:AV)(d:Bool->AV)(es:List (Value × Bool × List D))(b:Bool)(hp:Hp)(ok:Bool):Kb (some q) (some kv) (some z) d (.d (.mp es) b) hp ok=if Gg q kv then En q kv (d b) ok (Fe b es) else none:=rfl
def V8 (q:Option (Bool × List TK))(kv:Option Value)(v x:AV)(hp:Hp):Option (AV × List (Nat × AO)):=
 match q,kv with
 |some q,some kv=>if Gg q kv/\GM v then match x with
  | .mo i=>match hp i with
   |some (.mo es d)=>(Ec q kv v es).map fun h=>(.un,[(i,.mo h d)])
   |_=>none
  |_=>none else none
 |_,_=>none
@[go_sem ↓ high] theorem l0_ {tab:Nat->TI}(ρ:Operand->AV)(hp:Hp)(id T:Nat)(m k x:Operand):CM tab ρ hp id (.mapUpdate T m k x)=V8 (tab T).mkey (Es (ρ k)) (ρ x) (ρ m) hp:=rfl
@[go_sem] theorem Yy (q:Bool × List TK)(kv:Value)(v:AV)(i:Nat)(hp:Hp):V8 (some q) (some kv) v (.mo i) hp=if Gg q kv/\GM v then(match hp i with
  |some (.mo es d)=>(Ec q kv v es).map fun h=>(.un,[(i,.mo h d)])
  |_=>none) else none:=rfl
attribute [go_sem] Gg Q5 GN
abbrev vI (v:Int):AV:=.v (.int .i64 v)
section
variable (k z v:ByteArray)(i j:Int)(b:Bool)(ok:Bool)
@[go_sem] theorem Yz (m:List (ByteArray × Int)):En (false,[.string]) (.string k) (.v (.int .i64 i)) ok (AZ .string vI m)=some (if ok then .tu [.v (.int .i64 (qf_ k i m)),.v (.bool (Av k m))] else .v (.int .i64 (qf_ k i m)),[]):=UB (ev:=vI) V5 k i ok m
@[go_sem] theorem cm (m:List (ByteArray × Int)):Ec (false,[.string]) (.string k) (.v (.int .i64 j)) (AZ .string vI m)=some (AZ .string vI (mset k j m)):=Yx (ev:=vI) V5 k j m
end
end
end Go.Proofs.YtnmkbmefohakmaaGreat.Ab
