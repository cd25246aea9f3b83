/-
 Lists of texts: Clone, Sort, Compact of the library.
-/
import Derived.Sort.EncStr
import Derived.Lib.OwnBridge
import Derived.Sort.Grow
import Derived.Test.YtnmkbmefohakmaaGreatAbJ
set_option linter.all false
namespace Go.Proofs.YtnmkbmefohakmaaGreat.Ab
variable {B R i id j k m n ver:Nat}{JR:Option (Nat × Nat)}{L:List (Nat × Nat)}{as:List DA}{br dl fr:Bool}{caps vs:List AV}{ds:List D}{f:FuncId}{gh:Gh}{hp hp0:Hp}{rs:List Nat}{u x:Value}{α:Type}
section
open Go.RowKit Go.Sort Go.Proofs
section
variable {P:Program}{tab:Nat->TI}
theorem jW (a:Ad P tab)(d:P.follows .mixedOrders=true){fn:Func}{T B:TypeId}(h:P.funcs[f]? =some fn)(l:fn.body=some (Mr T B))(o:(fn.name== "runtime.NumGoroutine")=false)(p:Du fn.ntmps (Mr T B)=true)(t:1<=fn.ntmps)(w:fn.results= #[.tmp 2])
  (y:(tab T).kind= .slice) (z:(tab (tab T).elem).ok=true) (A:0<(tab (tab T).elem).size) (C:(tab (tab T).elem).bytes<=32768) {x:List D} {es:List (List D)} {b:Bool}  {nx:Nat}
  (E:(x.length==(tab (tab T).elem).size&&es.all fun e=>e.length==(tab (tab T).elem).size)=true) (F:es.length+1<=4294967296):
  AT P f [.d (.sl (x::es)) b] hp nx fun v G H=>H=nx+7/\v= .so (nx+3) 1 0 (es.length+1)/\G=upd (nx+3) (some (.rw (x::es) (tab (tab T).elem).size 1 (b&& !(H0 x&&H9 es)) false)) hp:=by
 refine KL (tab:=tab) a d h l o p (by simpa using t) ?_;rw[w];unfold Mr;simp -implicitDefEqProofs only[go_sem,Nat.reduceEqDiff,Nat.reduceAdd,reduceCtorEq, ↓reduceIte,y,z,A,C,BK,Lf,and_self,true_and,List.map,List.all,EZ,frz,C8];rw[if_pos ⟨E,F⟩];simp -implicitDefEqProofs only[go_sem,Nat.reduceAdd, ↓reduceIte];exact GM (by simp -implicitDefEqProofs only[go_sem, ↓reduceIte]<;>rfl) ⟨rfl,rfl,EU _ _ _ _⟩
abbrev eT (s:ByteArray):List D:=[.v (.string s)]
def FSq (l:List UInt8):ByteArray:=⟨l.toArray⟩
def FL (s:ByteArray):List UInt8:=s.data.toList
theorem uZ (s:ByteArray):FSq (FL s)=s:=by
 cases s;simp[FSq,FL]
theorem X4 (l:List UInt8):FL (FSq l)=l:=by simp[FSq,FL]
theorem jX (xs:List ByteArray):(xs.map FL).map FSq=xs:=by
 rw[Ba];exact(Np fun s _=>uZ s).trans (Iw _)
theorem ua (s:ByteArray):encStr (FL s)= .string s:=by
 show Value.string ⟨(FL s).toArray⟩=_;cases s;simp[FL]
def Fp (xs:List ByteArray):List ByteArray:=((xs.map FL).mergeSort fun x y=>decide (x<=y)).map FSq
def Dm (xs:List ByteArray):List ByteArray:=(Lib.compact (xs.map FL)).map FSq
theorem jY (xs:List ByteArray):(Fp xs).length=xs.length:=by simp[Fp]
theorem jZ {c:Cf}(h:HR gh c){xs:List ByteArray}(l:c.hp id=some (.rw (xs.map eT) 1 ver br false)):Holds encStr c.w (c.φ id) 0 (xs.map FL).toArray:=by
 have⟨_,_,T,vs,C,a,v,w,y,o⟩:=h.obj id _ l;intro j p;have d:j<xs.length:=by simpa using p
 have⟨u,e,t⟩:=o j 0 (eT xs[j]) (.v (.string xs[j])) (by simp[d]) rfl;cases t;refine⟨?_,by simp[World.frozen?,a]⟩;rw[Ny];simp only[World.cell?,a];rw[show j*1+0=j by omega] at e;rw[e]
 have:(xs.map FL).toArray[j]! =FL xs[j]:=by simp[d]
 rw[this,ua];rfl
theorem ja {c:Cf}(t:HR gh c){xs:List ByteArray}(v:c.hp id=some (.rw (xs.map eT) 1 ver br false))(a:List (List UInt8))(S:a.length=xs.length)(n:Nat)(os:Array Obj)
  {o:Cf} (U:o=⟨upd id (some (.rw ((a.map FSq).map eT) 1 ver br false)) c.hp,upd id (c.φ id) c.φ,grow (putRow encStr (Sort.ahead c.w n) (c.φ id) 0 a.toArray) os,c.kn⟩):CR c o/\HR gh o/\∀w T,c.w.heap[c.φ id]? =some (.cells w T (0,0))->∃G,o.w.heap[o.φ id]? =some (.cells G T (0,0))/\G.size=w.size:=by
 subst U;have⟨X,hz,T,vs,C,A,Y,Z,h6,h7⟩:=t.obj id _ v;rw[Lt] at Z;have⟨ao,aq,H⟩:=t.dom id _ v;have I:c.w.heap.size<=(grow (putRow encStr (Sort.ahead c.w n) (c.φ id) 0 a.toArray) os).heap.size:=by
  simp[grow,putRow,mapBlock,Sort.ahead]
 have E:(grow (putRow encStr (Sort.ahead c.w n) (c.φ id) 0 a.toArray) os).heap[c.φ id]? =some (.cells (putCells encStr 0 a.toArray vs) T (0,0)):=by
  rw[Sort.heap_grow_old _ _ (by simpa [putRow,mapBlock,Sort.ahead] using H)];simp[putRow,mapBlock,Sort.ahead,NR,A,onCells]
 have M:∀b,b<c.w.heap.size->b≠c.φ id->(grow (putRow encStr (Sort.ahead c.w n) (c.φ id) 0 a.toArray) os).heap[b]? =c.w.heap[b]? :=fun b hb aa=>by
  rw[Sort.heap_grow_old _ _ (by simpa [putRow,mapBlock,Sort.ahead] using hb)];simp[putRow,mapBlock,Sort.ahead,NR,Ne.symm aa]
 have ab:∀(i:Nat) (y:List UInt8),a[i]? =some y->(putCells encStr 0 a.toArray vs)[i]? =some (encStr y):=by
  intro i y F;have d:i<a.length:=(Lb.1 F).1;have ad:i<vs.size:=by omega
  simp only[putCells,OW,LC ad,LT];rw[if_pos (by simp;exact d),BP];have e3:a.toArray[i]! =y:=by
   rw[Le d] at F;cases F;simp[d]
  rw[e3]
 have N:CR c ⟨upd id (some (.rw ((a.map FSq).map eT) 1 ver br false)) c.hp,upd id (c.φ id) c.φ,grow (putRow encStr (Sort.ahead c.w n) (c.φ id) 0 a.toArray) os,c.kn⟩:=by
  refine CR.chg t v rfl rfl rfl rfl I M (.inl rfl) (fun _ h=>h) (fun h=>by cases h) (fun av aE v' a0 a1 e=> ?_) (NU _ _);cases e;refine⟨_,ver,br,false,rfl,Lc _,fun _=>⟨rfl,by simp[S],fun w T0 p=> ?_⟩⟩;rw[A] at p;cases p;exact⟨_,E,by simp[putCells]⟩
 refine⟨N,HR.chg t v N M (.inl rfl) (LF H I) ⟨X,fun i cs d=> ?_,T,putCells encStr 0 a.toArray vs,C,?_,by simp only[putCells,Iu];exact Y,by simp only[Lt];omega,h6,fun i j cs dd d O=> ?_⟩,fun w T0 p=> ?_⟩
 ·rw[Ln,La] at d;obtain⟨x,_,rfl⟩:=d;rfl
 ·simp only[At];exact E
 ·rw[Ln,La] at d;obtain⟨y,z,rfl⟩:=d;rw[Ln,La] at z;obtain⟨l,z,rfl⟩:=z;have ak:j=0:=by
   have:=(Lb.1 O).1;simpa using this
  subst ak;cases O;refine⟨_,?_,.v _ rfl⟩;rw[show i*1+0=i by omega,ab i l z];rfl
 rw[A] at p;cases p;simp only[At];exact⟨_,E,by simp[putCells]⟩
theorem jb {c:Cf}{es:List (List D)}{sz a:Nat}(o:c.hp id=some (.rw es sz ver br false)){e:Array Value}(p:e.size=1)
  (t:∀(j:Nat) (x:AV),[AV.so id ver 0 a][j]? =some x->∃u,e[j]? =some u/\A6 gh c x u):a<=es.length/\∃C d T,e= #[.slice (some ⟨c.φ id,0,none⟩) a C]/\c.w.heap[c.φ id]? =some (.cells d T (0,0))/\d.size=C*sz:=by
 have⟨v,w,y⟩:=t 0 _ rfl;cases(show RA gh c (.so id ver 0 a) v from y) with
 |so _ _ _ _ _ _ _ h=>
  have⟨l,d,T,C,z,A,E⟩:=(h _ _ _ _ _ o).2 rfl;refine⟨by omega,C,d,T,?_,z,by simpa using A⟩;subst E;apply OJ
  ·simpa using p
  intro j l G;have F:j=0:=by omega
  subst F;simpa [l] using w
theorem ub (E:JK P f)
  (F:∀(d G:Nat) (l:List (List UInt8)) (w:World),Holds encStr w d 0 l.toArray->d<w.heap.size->l.length<4611686018427387904->
   Calls P f #[.slice (some ⟨d,0,none⟩) l.length G] w fun e t=>e= .returned (.tuple #[])/\∃n o,t=grow (putRow encStr (Sort.ahead w n) d 0 (l.mergeSort fun x y=>decide (x<=y)).toArray) o)
  (xs:List ByteArray) (H:xs.length<4611686018427387904)    {nx:Nat} (a:hp id=some (.rw (xs.map eT) 1 ver br false)):
  AT P f [.so id ver 0 xs.length] hp nx fun v I M=>v= .tu []/\M=nx/\I=upd id (some (.rw ((Fp xs).map eT) 1 ver br false)) hp:=by
 refine⟨E,fun gh c Y z Z p N O=> ?_⟩;rw[<-z] at a;obtain⟨_,C,aa,T,rfl,_,_⟩:=jb a (by simpa using N) O;have A:=F (c.φ id) C (xs.map FL) c.w (jZ p a) (p.dom id _ a).2.2 (by simpa using H);rw[Lt] at A;refine A.mono ?_;rintro e t ⟨S,n,o,rfl⟩;have⟨U,X,h8⟩:=ja p a ((xs.map FL).mergeSort fun x y=>decide (x<=y)) (by simp) n o rfl;exact⟨.tuple #[],.tu [],_,nx,S,⟨rfl,rfl,by simp only[z];rfl⟩,rfl,U,X,⟨#[],rfl,rfl,fun j x e=>by simp at e⟩,Lc _,fun i h=>.inl h⟩
theorem uc (M:JK P f)
  (N:∀(l p:Nat) (a:List (List UInt8)) (w:World),Holds encStr w l 0 a.toArray->a.length<=9223372036854775807->a.length<=p->
   Calls P f #[.slice (some ⟨l,0,none⟩) a.length p] w fun e F=>e= .returned (.slice (some ⟨l,0,none⟩) (Lib.compact a).length p)/\∃q,F=putRow encStr (Sort.ahead w q) l 0 (Lib.compact a++List.replicate (a.length-(Lib.compact a).length) []).toArray)
  (xs:List ByteArray) (O:xs.length<=9223372036854775807)    {nx:Nat} (d:hp id=some (.rw (xs.map eT) 1 ver br false)):
  AT P f [.so id ver 0 xs.length] hp nx fun v S U=>v= .so id ver 0 (Dm xs).length/\U=nx/\S=upd id (some (.rw ((Dm xs++List.replicate (xs.length-(Dm xs).length) (FSq [])).map eT) 1 ver br false)) hp:=by
 refine⟨M,fun gh c ad G ak t X Y=> ?_⟩;rw[<-G] at d;obtain⟨_,C,ao,T,rfl,y,aq⟩:=jb d (by simpa using X) Y;have⟨_,_,T2,vs,C2,Z,h4,h5,h6,h7⟩:=t.obj id _ d;rw[Lt] at h5;have hC:xs.length<=C:=by
  rw[Z] at y;cases y;omega
 have H:=N (c.φ id) C (xs.map FL) c.w (jZ t d) (by simpa using O) (by simpa using hC);rw[Lt] at H;refine H.mono ?_;rintro e F ⟨he,n,rfl⟩;have av:(Lib.compact (xs.map FL)).length<=xs.length:=by simpa using Lib.compact_length_le (xs.map FL)
 have z:(Dm xs).length=(Lib.compact (xs.map FL)).length:=by simp[Dm]
 have⟨A,o,E⟩:=ja t d (Lib.compact (xs.map FL)++List.replicate (xs.length-(Lib.compact (xs.map FL)).length) []) (by simp;omega) n #[] rfl;have eg:∀w:World,grow w #[]=w:=fun w=>by simp[grow]
 rw[eg] at A o E;have em:(Lib.compact (xs.map FL)++List.replicate (xs.length-(Lib.compact (xs.map FL)).length) []).map FSq=Dm xs++List.replicate (xs.length-(Dm xs).length) (FSq []):=by
  rw[LX,Oy,z];rfl
 rw[em] at A o E;refine⟨_,.so id ver 0 (Dm xs).length,_,nx,he,⟨rfl,rfl,by simp only[G]⟩,rfl,A,o,?_,Lc _,fun i h=>.inl h⟩;have⟨aa,k3,k4⟩:=E _ _ y;have I:(upd id (some (AO.rw ((Dm xs++List.replicate (xs.length-(Dm xs).length) (FSq [])).map eT) 1 ver br false)) c.hp) id=some (AO.rw ((Dm xs++List.replicate (xs.length-(Dm xs).length) (FSq [])).map eT) 1 ver br false):=by rw[At]
 have⟨ab,_,_⟩:=o.dom id _ I;refine(show RA gh _ (.so id ver 0 (Dm xs).length) _ from RA.so id ver 0 (Dm xs).length _ ab ⟨_,_,by rw[z]⟩ fun es sz v aE fz e=> ?_);have e':=I.symm.trans e;cases e';refine⟨Lc _,fun _=>⟨by simp,aa,T,C,k3,by omega,?_⟩⟩;simp only[At];rw[z]
end
end
section
open Go.RowKit
def QV {α:Type}(n:Nat)(a:α->St)(e:Ex)(s:St):Prop:=
 match e with
 | .exit _=>False
 |_=>∃y,CE n (a y) s
theorem ud {a:α->St}{s:St}(y:α)(h:CE n (a y) s):QV n a .ret s:=⟨y,h⟩
section
variable {P:Program}{tab:Nat->TI}
theorem ue (T:Ad P tab){fn:Func}{o:Code}(U:P.funcs[f]? =some fn)(X:fn.body=some o)(Y:(fn.name== "runtime.NumGoroutine")=false)(hd:Du fn.ntmps o=true){nx:Nat}
  (Z:vs.length<=fn.ntmps)  (a:α->St) (V:α->AV) (hV:∀y,Fj tab fn.results (a y)=some (V y)) (h:CQ nx P [.c o] (QV nx a) ⟨D0 vs,hp,nx⟩):
  AT P f vs hp nx fun v d l=>∃y,v=V y/\d=(a y).hp/\l=(a y).nx:=by
 refine U5 T U X Y hd Z ?_;intro g N c aa ab hs hn;refine Code.wp_mono (fun e a' w' hp=> ?_) ((show DG nx P o (DY nx P [] (QV nx a)) _ from h) g N c aa ab hs hn);have⟨z,s',c',A,p,h3,C,E,h6,h7⟩:=hp;have F:(∃y,CE nx (a y) s')->DC g N (DY nx P [] (DX tab fn.results fun v d l=>∃y,v=V y/\d=(a y).hp/\l=(a y).nx)) nx c e a' w':=by
  rintro⟨y,hw⟩;have⟨t,G,H,I,M,q5⟩:=h3.weakR h6 hw;have O:DX tab fn.results (fun v d l=>∃y,v=V y/\d=(a y).hp/\l=(a y).nx) .ret (a y):=⟨V y,(a y).hp,hV y,⟨fun _=>.inr rfl⟩,y,rfl,rfl,rfl⟩;have S:∀i,t.kn i->c.kn i\/nx<=i:=fun i hi=>by
   rcases q5 i hi with w |w
   ·exact h7 i w
   exact .inr w
  cases z with |normal=>exact⟨.normal,a y,t,A,O,G,H.trans C,E.trans I,M,S⟩ |ret=>exact⟨.ret,a y,t,A,O,G,H.trans C,E.trans I,M,S⟩ |exit m=>exact(show False from p).elim
 cases z with
 |normal=>exact F p
 |ret=>exact F p
 |exit m=>exact(show False from p).elim
variable {ops:Array Oper}{nx0 nx:Nat}{k:List It}{Q:Ex->St->Prop}{i:Nat}{r:List Oper}{dst:Option Nat}{acc:List C7}{ids:List Nat}{fr:Fr}{hp:Hp}
theorem K7 {g:FuncId}{v:AV}{δ:List (Nat × AO)}{nx':Nat}(a:AT P g (vs++caps) hp nx fun d e l=>d=v/\e=CL δ hp/\l=nx')(h:Rd P tab ops nx0 nx' k Q i r (⟨[Df],δ.map (·.1),true⟩::acc) (CM dst v fr) (CL δ hp)):
  Kz P tab ops nx0 nx k Q i r dst acc ids fr hp (.fn g caps) vs:=
 IP (ids':=[Df]) (fun p o=>by rw[o.2 (Lr.2 rfl)];exact a) h
end
end
section
open Go.RowKit
section
variable {P:Program}{tab:Nat->TI}
theorem uf {nx sz:Nat}{es:List (List D)}(h:AT P f vs hp0 nx fun v p _=>∃l,m<=l.length/\l.take m=es/\v= .so id ver 0 m/\p=upd id (some (.rw l sz ver br false)) hp):
  AT P f vs hp0 nx fun v p _=>v= .so id (ver+1) 0 m/\p=upd id (some (.rw es sz (ver+1) br false)) hp:=by
 refine⟨h.1,fun g c F G H I M N=>(h.2 g c F G H I M N).mono ?_⟩;rintro e w' ⟨u,v,a,O,S,⟨l,hm,rfl,rfl,E⟩,rfl,U,w,X,Y,Z⟩;have t:a.hp id=some (.rw l sz ver br false):=by rw[E,At]
 have⟨aa,ab,T,ad,C,h3,h4,h5,h6,h7⟩:=w.obj id _ t;have⟨_,_,ak⟩:=w.dom id _ t;have y:CR a ⟨upd id (some (.rw (l.take m) sz (ver+1) br false)) a.hp,upd id (a.φ id) a.φ,a.w,a.kn⟩:=by
  refine CR.chg w t rfl rfl rfl rfl (Lc _) (fun _ _ _=>rfl) (.inl rfl) (fun _ h=>h) (fun h=>by cases h) (fun ao aq v2 av aE e=> ?_) (Lc _);cases e;exact⟨l,ver,br,false,rfl,Bj _,fun e=>by omega⟩
 have hh:HR g ⟨upd id (some (.rw (l.take m) sz (ver+1) br false)) a.hp,upd id (a.φ id) a.φ,a.w,a.kn⟩:=by
  refine HR.chg w t y (fun _ _ _=>rfl) (.inl rfl) ak ⟨aa,fun i z o=> ?_,T,ad,C,by simp only[At];exact h3,h4,by rw[Lx];omega,h6,fun i j z d o hj=> ?_⟩
  ·rw[Nh] at o;split at o
   ·exact ab i z o
   cases o
  rw[Nh] at o;split at o
  ·have⟨u2,k1,A⟩:=h7 i j z d o hj;exact⟨u2,k1,A.ext y⟩
  cases o
 refine⟨u,.so id (ver+1) 0 m,⟨upd id (some (.rw (l.take m) sz (ver+1) br false)) a.hp,upd id (a.φ id) a.φ,a.w,a.kn⟩,O,S,⟨rfl,?_⟩,rfl,U.trans y,hh,?_,Y,Z⟩
 ·show upd id (some (.rw (l.take m) sz (ver+1) br false)) a.hp=_;rw[E,EU]
 have h8:RA g a (.so id ver 0 m) u:=X;cases h8 with
 |so _ _ _ _ _ a0 p h9=>
  have⟨_,A⟩:=h9 _ _ _ _ _ t;have⟨k3,a1,T2,C2,k4,k5,k6⟩:=A rfl;refine(show RA g _ (.so id (ver+1) 0 m) _ from RA.so id (ver+1) 0 m _ a0 p fun ao aq v2 av aE e=> ?_);have e':=(At id (some (AO.rw (l.take m) sz (ver+1) br false)) a.hp).symm.trans e;cases e';refine⟨Lc _,fun _=>⟨by rw[Lx];omega,a1,T2,C2,?_,k5,?_⟩⟩
  ·simp only[At];exact k4
  simp only[At];exact k6
theorem bK (l:Ad P tab)(o:P.follows .mixedOrders=true){fn:Func}{T B:TypeId}(p:P.funcs[f]? =some fn)(t:fn.body=some (Mr T B))(w:(fn.name== "runtime.NumGoroutine")=false)(y:Du fn.ntmps (Mr T B)=true)(z:1<=fn.ntmps)(A:fn.results= #[.tmp 2])
  (C:(tab T).kind= .slice) (E:(tab (tab T).elem).ok=true)  (F:(tab (tab T).elem).size=k) (G:0<k) (H:(tab (tab T).elem).bytes<=32768)  {e:α->List D} (I:∀x,(e x).length=k) (xs:List α) (M:0<xs.length) (N:xs.length<=4294967296) {b:Bool}  {nx:Nat}:
  AT P f [.d (.sl (xs.map e)) b] hp nx fun v a d=>v= .so (nx+3) 1 0 xs.length/\a=upd (nx+3) (some (.rw (xs.map e) k 1 (b&& !(H9 (xs.map e))) false)) hp/\d=nx+7:=by
 subst F;obtain⟨x,r,rfl⟩:∃x r,xs=x::r:=by cases xs with |nil=>simp at M |cons x r=>exact⟨x,r,rfl⟩
 have h:=jW (x:=e x) (es:=r.map e) (b:=b) (hp:=hp) (nx:=nx) l o p t w y z A C E G H (by simp[I]) (by simp at N⊢;omega);refine h.mono ?_;rintro v a d ⟨O,S,U⟩;exact⟨by simpa using S,U,O⟩
theorem ug {nx:Nat}{o:AO}{R:AV->Hp->Nat->Prop}(a:hp id=some o)(h:AT P f vs (upd id (some o) hp) nx R):AT P f vs hp nx R:=by
 rwa [Fc a] at h
end
end
section
section
theorem uh:JH []=some []:=rfl
theorem ui (x:Value)(r:List AV):JH (.v x::r)=(JH r).map (x:: ·):=rfl
theorem uj (k:TK)(x y:Value):EP [k] [x] [y]=GG k x y:=by
 show(match GG k x y,some true with |some b,some c=>some (b&&c) |_,_=>none)=_
 cases GG k x y<;>simp
theorem uk (k a:TK)(d:List TK)(x x2 y e:Value)(xs h:List Value):EP (k::a::d) (x::x2::xs) (y::e::h)=match GG k x y,EP (a::d) (x2::xs) (e::h) with |some b,some c=>some (b&&c) |_,_=>none:=rfl
theorem ul (a b:ByteArray):GG .string (.string a) (.string b)=some (a==b):=rfl
attribute [go_sem] uh ui uj uk ul
end
end
section
open Go.RowKit
def K8:AV->Bool
 | .ag _=>true
 | .d (.ag _) _=>true
 |_=>false
def HC:AV->List AV
 | .ag a=>a
 | .d (.ag a) b=>a.map (CI b)
 |x=>[x]
inductive C3 (hp:Hp) (b:Bool):AV->D->Prop
 |one {x:AV} {d:D} {b':Bool} {is:List Nat} (h:Ci hp x=some (d,b',is)) (hb:b'=true->b=true):C3 hp b x d
 |pt {id off:Nat} {cs:List AV} {ds:List D} (h:hp id=some (.bx cs)) (hl:ds.length=cs.length) (hc:∀(j:Nat) (x:AV) (d:D),cs[j]? =some x->ds[j]? =some d->C3 hp b x d):C3 hp b (.pt id off) (.pt ds off)
 |mo {id:Nat} {es:List (Value × AV)} {dl:Bool} {ms:List (Value × Bool × List D)} (h:hp id=some (.mo es dl)) (hl:ms.length=es.length)
   (hk:∀(j:Nat) (k:Value) (v:AV) (k':Value) (ag:Bool) (ds:List D),es[j]? =some (k,v)->ms[j]? =some (k',ag,ds)->k'=k/\ag=K8 v/\ds.length=(HC v).length/\(ag=false->Mj v=true))
   (hc:∀(j:Nat) (k:Value) (v:AV) (k':Value) (ag:Bool) (ds:List D) (i:Nat) (x:AV) (d:D),es[j]? =some (k,v)->ms[j]? =some (k',ag,ds)->(HC v)[i]? =some x->ds[i]? =some d->C3 hp b x d):C3 hp b (.mo id) (.mp ms)
 |rb {x:AV} {ds:List D} {off:Nat} (m:Nat) (h:C3 hp b x (.pt ds off)):C3 hp b x (.pt ((ds.drop off).take m) 0)
section
variable {P:Program}{tab:Nat->TI}{g:Gh}{c:Cf}
theorem um (h:u.oneCell'=true):u.cells= #[u]:=by
 cases u<;>first |rfl |cases h
theorem jc {v:AV}(a:K8 v=true\/Mj v=true)(h:Di g c v u):u.cells.size=(HC v).length/\(K8 v=true->∃vs,u= .agg vs)/\(K8 v=false->u.cells= #[u])/\∀(j:Nat) (x:AV),(HC v)[j]? =some x->∃y,u.cells[j]? =some y/\RA g c x y:=by
 have A:∀ {v:AV},RA g c v u->u.cells.size= [v].length/\(u.cells= #[u])/\∀(j:Nat) (x:AV),[v][j]? =some x->∃y,u.cells[j]? =some y/\RA g c x y:=fun{v} h=>by
  have p:=um h.one;refine⟨by rw[p];rfl,p,fun j x l=> ?_⟩;cases j with |zero=>cases l;exact⟨u,by rw[p];rfl,h⟩ |succ j=>simp at l
 have e:∀ {v:AV},K8 v=false->HC v= [v]->RA g c v u->u.cells.size=(HC v).length/\(K8 v=true->∃vs,u= .agg vs)/\(K8 v=false->u.cells= #[u])/\∀(j:Nat) (x:AV),(HC v)[j]? =some x->∃y,u.cells[j]? =some y/\RA g c x y:=fun{v} p t w=>by
  have⟨C,E,F⟩:=A w;rw[t];exact⟨C,fun h=>by rw[p] at h;(cases h),fun _=>E,F⟩
 cases v with
 |ag z=>
  obtain⟨vs,rfl,t,w⟩:=h;exact⟨t,fun _=>⟨vs,rfl⟩,fun h=>(by cases h),w⟩
 |d x b=>
  cases x with
  |ag z=>
   obtain⟨vs,rfl,t,w⟩:=h;refine⟨by show vs.size=(z.map (CI b)).length;rw[Lt];exact t,fun _=>⟨vs,rfl⟩,fun h=>(by cases h),fun j x l=> ?_⟩;simp only[HC] at l;rw[Ln,La] at l;obtain⟨d,G,rfl⟩:=l;have⟨y,H,I⟩:=w j d G;exact⟨y,H,RC.toRA I⟩
  |tu z=>rcases a with a |a<;>cases a
  |v x=>exact e rfl rfl h
  |sl x=>exact e rfl rfl h
  |pt x o=>exact e rfl rfl h
  |mp x=>exact e rfl rfl h
 |tu z=>rcases a with a |a<;>cases a
 |un=>rcases a with a |a<;>cases a
 |v x=>exact e rfl rfl h
 |pt i o=>exact e rfl rfl h
 |pr i v k o=>exact e rfl rfl h
 |so i v o n=>exact e rfl rfl h
 |mo i=>exact e rfl rfl h
 |fn f z=>exact e rfl rfl h
theorem C3.ok {hp:Hp}(hr:HR g c)(hhp:c.hp=hp){b:Bool}{x:AV}{d:D}(h:C3 hp b x d){u:Value}(hu:RA g c x u)(I:Nat->Prop)(hI:∀k,Im g c b k->I k)(hO:∀i o,hp i=some o->I (c.φ i)):RC c.w I d u:=by
 induction h generalizing u with
 | @one x d b' is h hb=>
  refine T4 hr hhp hu h I (fun k hk=>hI k ?_) fun i hi=> ?_
  ·cases b' with
   |true=>rw[hb rfl];exact hk
   |false=>cases b with |true=>exact hk.weak |false=>exact hk
  ·obtain⟨es,sz,v,fz,h4⟩:=T6 h i hi;exact hO i _ h4
 | @pt id off cs ds h hl hc ih=>
  cases hu with
  |pt _ _ hn ho=>
   have h':=h;rw[<-hhp] at h';obtain⟨T,vs,h1,h2,h3⟩:=hr.obj id _ h';have key:RC c.w I (.pt ds off) (.pointer (some ⟨c.φ id,0+off,none⟩)):=by
    refine RC.pt ds off (c.φ id) 0 (fun j=>vs.getD j undef) (hO id _ h) (fun j d hj=> ?_) fun j d hj=> ?_
    ·have hlt:j<vs.size:=by
      have:=(Lb.1 hj).1;omega
     simp[World.cell?,h1,Array.getD,hlt]
    have hlt:j<cs.length:=by
     have:=(Lb.1 hj).1;omega
    obtain⟨y,k1,k2⟩:=h3 j cs[j] (by simp[hlt])
    have:=ih j cs[j] d (by simp[hlt]) hj k2;rwa [LJ,k1]
   rwa [Ny] at key
 | @mo id es dl ms h hl hk hc ih=>
  cases hu with
  |mo _ hn ho=>
   have h':=h;rw[<-hhp] at h';obtain⟨en,k,h1,h2,_,h3⟩:=hr.obj id _ h';have at_:∀ {j:Nat} {p:Value × Bool × List D},ms[j]? =some p->∃k v,es[j]? =some (k,v):=fun{j p} hj=>by
    have:=(Lb.1 hj).1;exact⟨_,_,Le (by omega)⟩
   have val:∀ {j:Nat} {k0:Value} {v:AV} {k':Value} {ag:Bool} {ds:List D} {e:MapEntry},es[j]? =some (k0,v)->ms[j]? =some (k',ag,ds)->en[j]? =some e->e.key=k0/\Di g c v e.val:=fun{j k0 v k' ag ds e} q1 _ q3=>by
    obtain⟨e',g1,g2,g3⟩:=h3 j k0 v q1;rw[q3] at g1;cases g1;exact⟨g2,g3⟩
   refine RC.mp ms (c.φ id) en k (hO id _ h) h1 (by omega) (fun j x ag ds e q1 q2=> ?_) fun j i x ag ds e d u q1 q2 q3 q4=> ?_
   ·obtain⟨k0,v,q3⟩:=at_ q1;obtain⟨r1,r2,r3,r4⟩:=hk j k0 v x ag ds q3 q1;obtain⟨s1,s2⟩:=val q3 q1 q2;have hv:K8 v=true\/Mj v=true:=by
     cases ag with |true=>exact .inl r2.symm |false=>exact .inr (r4 rfl)
    obtain⟨t1,t2,t3,_⟩:=jc hv s2;exact⟨s1.trans r1.symm,by omega,fun e=>t2 (by rw[<-r2,e]),fun e=>t3 (by rw[<-r2,e])⟩
   ·obtain⟨k0,v,q5⟩:=at_ q1;obtain⟨r1,r2,r3,r4⟩:=hk j k0 v x ag ds q5 q1;obtain⟨s1,s2⟩:=val q5 q1 q2;have hv:K8 v=true\/Mj v=true:=by
     cases ag with |true=>exact .inl r2.symm |false=>exact .inr (r4 rfl)
    obtain⟨_,_,_,t4⟩:=jc hv s2;have hlt:i<(HC v).length:=by
     have:=(Lb.1 q3).1;omega
    obtain⟨y,t5,t6⟩:=t4 i (HC v)[i] (by simp[hlt]);rw[t5] at q4;cases q4;exact ih j k0 v x ag ds i _ d q5 q1 (by simp[hlt]) q3 t6
 | @rb x ds off m h ih=>
  have h1:=ih hu;cases h1 with
  |pt _ _ bl o us hI hm hd=>
   have at_:∀ {j:Nat} {d:D},((ds.drop off).take m)[j]? =some d->ds[off+j]? =some d:=fun{j d} hj=>by
    rw[Nh] at hj;split at hj
    ·rwa [NT] at hj
    cases hj
   have key:RC c.w I (.pt ((ds.drop off).take m) 0) (.pointer (some ⟨bl,(o+off)+0,none⟩)):=
    RC.pt _ 0 bl (o+off) (fun j=>us (off+j)) hI (fun j d hj=>by rw[Nv];exact hm _ d (at_ hj)) fun j d hj=>hd _ d (at_ hj)
   exact key
inductive Cg (hp:Hp) (b:Bool):AV->D->Prop
 |one {x:AV} {d:D} (h:C3 hp b x d) (hx:Mj x=true):Cg hp b x d
 |ag {cs:List AV} {ds:List D} (hl:ds.length=cs.length) (hc:∀(j:Nat) (x:AV) (d:D),cs[j]? =some x->ds[j]? =some d->C3 hp b x d):Cg hp b (.ag cs) (.ag ds)
 |dag {cs:List D} {b':Bool} (hb:b'=true->b=true\/H0 cs=true):Cg hp b (.d (.ag cs) b') (.ag cs)
def PW {α a:Type}(R:α->a->Prop)(xs:List α)(ds:List a):Prop:=ds.length=xs.length/\∀(j:Nat) (x:α) (d:a),xs[j]? =some x->ds[j]? =some d->R x d
theorem PW.nil {a:Type}{R:α->a->Prop}:PW R [] []:=⟨rfl,fun j x d h=>by simp at h⟩
theorem PW.cons {a:Type}{R:α->a->Prop}{x:α}{d:a}{xs:List α}{ds:List a}(h:R x d)(p:PW R xs ds):PW R (x::xs) (d::ds):=⟨by simp[p.1],fun j y e l o=>by
 cases j with
 |zero=>simp at l o;subst l;subst o;exact h
 |succ j=>exact p.2 j y e (by simpa using l) (by simpa using o)⟩
theorem C3.place {b:Bool}{a:Nat}{cs:List AV}(h:hp id=some (.bx cs))(d:PW (C3 hp b) cs ds):C3 hp b (.pt id a) (.pt ds a):=.pt h d.1 d.2
theorem C3.rbE {b:Bool}{x:AV}{es:List D}{a:Nat}(m:Nat)(h:C3 hp b x (.pt ds a))(d:(ds.drop a).take m=es):C3 hp b x (.pt es 0):=d▸C3.rb m h
theorem Dc.of {w:World}{I:Nat->Prop}{d:D}(h:RC w I d u):Dc w I d u:=by
 cases d<;>first |exact h |cases h
theorem RV.of {w:World}{I:Nat->Prop}{d:D}(h:Dc w I d u)(a:∀ds,d≠ .tu ds):RV w I d u:=by
 cases d with
 |tu ds=>exact absurd rfl (a ds)
 |_=>exact h
theorem Cg.agP {b:Bool}{cs:List AV}(a:PW (C3 hp b) cs ds):Cg hp b (.ag cs) (.ag ds):=.ag a.1 a.2
theorem Cg.ok {hp:Hp}(hr:HR g c)(hhp:c.hp=hp){b:Bool}{x:AV}{d:D}(h:Cg hp b x d){u:Value}(hu:A6 g c x u)(I:Nat->Prop)(hI:∀k,Im g c b k->I k)(hO:∀i o,hp i=some o->I (c.φ i)):Dc c.w I d u/\∀ds,d≠ .tu ds:=by
 cases h with
 |one h hx=>
  have h1:=h.ok hr hhp (gq hx hu) I hI hO;exact⟨Dc.of h1,fun ds e=>by subst e;cases h1⟩
 |ag hl hc=>
  obtain⟨vs,rfl,h2,h3⟩:=hu;rename_i cs ds;refine⟨⟨vs,rfl,by omega,fun j d hj=> ?_⟩,fun _ e=>by cases e⟩;have hlt:j<cs.length:=by
   have:=(Lb.1 hj).1;omega
  obtain⟨y,h4,h5⟩:=h3 j cs[j] (by simp[hlt]);exact⟨y,h4,(hc j cs[j] d (by simp[hlt]) hj).ok hr hhp h5 I hI hO⟩
 | @dag cs b' hb=>
  obtain⟨vs,rfl,h2,h3⟩:=hu;refine⟨⟨vs,rfl,h2,fun j d hj=> ?_⟩,fun _ e=>by cases e⟩;obtain⟨y,h4,h5⟩:=h3 j d hj;refine⟨y,h4,?_⟩;cases b' with
  |false=>exact h5.mono (fun _ _=>rfl) fun k hk=>hI k (by cases b with |true=>exact hk.weak |false=>exact hk)
  |true=>
   rcases hb rfl with hb |hb
   ·subst hb;exact h5.mono (fun _ _=>rfl) hI
   exact RC.plain (by simp only[H0,LP] at hb;exact hb d (Ly hj)) h5
inductive Fq (hp:Hp) (b:Bool):AV->D->Prop
 |val {x:AV} {d:D} (h:Cg hp b x d):Fq hp b x d
 |tu {cs:List AV} {ds:List D} (hc:PW (Cg hp b) cs ds):Fq hp b (.tu cs) (.tu ds)
theorem Fq.ok {hp:Hp}(hr:HR g c)(hhp:c.hp=hp){b:Bool}{x:AV}{d:D}(h:Fq hp b x d){u:Value}(hu:A6 g c x u)(I:Nat->Prop)(hI:∀k,Im g c b k->I k)(hO:∀i o,hp i=some o->I (c.φ i)):RV c.w I d u:=by
 cases h with
 |val h=>
  obtain⟨h1,h2⟩:=h.ok hr hhp hu I hI hO;exact RV.of h1 h2
 | @tu cs ds hc=>
  obtain⟨vs,rfl,h2,h3⟩:=hu;have hl:=hc.1;refine⟨vs,rfl,by omega,fun j d hj=> ?_⟩;have hlt:j<cs.length:=by
   have:=(Lb.1 hj).1;omega
  obtain⟨y,h4,h5⟩:=h3 j cs[j] (by simp[hlt]);exact⟨y,h4,((hc.2 j cs[j] d (by simp[hlt]) hj).ok hr hhp h5.toAt I hI hO).1⟩
def K9 (d:D)(fr:Bool)(v:AV)(hp':Hp)(a:Nat):Prop:=∃b,Fq hp' b v d/\(fr=true->b=false)
theorem KQ {rs:Array ResultVar}{s:St}{v:AV}{d:D}{b:Bool}(a:Fj tab rs s=some v)(e:Fq s.hp b v d)(h:fr=true->b=false):DX tab rs (K9 d fr) .ret s:=GM a ⟨b,e,h⟩
theorem uo {d:D}(h:AT P f (as.map DA.av) AK 0 (K9 d fr)):CP P f as d fr:=by
 refine⟨h.1,fun w p I M N O=> ?_⟩;have S:HR ⟨w.heap.size,p,w.heap.size⟩ ⟨AK,fun _=>0,w,fun _=>False⟩:=⟨Lc _,M,fun _ _ h=>by simp[AK] at h,fun _ _ _ _ h=>by simp[AK] at h,fun _ _ h=>by simp[AK] at h⟩;have F:∀k,(k<w.heap.size/\¬p k)->Im ⟨w.heap.size,p,w.heap.size⟩ ⟨AK,fun _=>0,w,fun _=>False⟩ true k:=fun k a=>⟨a.1,a.2,fun _ _ h=>by simp[AK] at h,by simp⟩;refine(h.2 ⟨w.heap.size,p,w.heap.size⟩ ⟨AK,fun _=>0,w,fun _=>False⟩ I rfl (fun _ h=>h.elim) S (by simpa using N) (fun j x z=> ?_)).mono fun e w' ⟨u,v,T,aa,C,⟨b,E,A⟩,l,t,G,U,_,_⟩=> ?_
 ·rw[Ln,La] at z;obtain⟨x,C,rfl⟩:=z;have⟨u,E,A⟩:=O j x C;refine⟨u,E,?_⟩;cases x with
  |d d=>
   have l:Dc w (Im ⟨w.heap.size,p,w.heap.size⟩ ⟨AK,fun _=>0,w,fun _=>False⟩ true) d u:=Dc.mono (fun _ _=>rfl) F A;show A6 _ _ (CI true d) u;cases d with
   |ag X=>exact l
   |tu X=>cases l
   |v x=>exact(RC.toRA (c:=⟨AK,fun _=>0,w,fun _=>False⟩) l).toAt
   |sl x=>exact(RC.toRA (c:=⟨AK,fun _=>0,w,fun _=>False⟩) l).toAt
   |pt x y=>exact(RC.toRA (c:=⟨AK,fun _=>0,w,fun _=>False⟩) l).toAt
   |mp x=>exact(RC.toRA (c:=⟨AK,fun _=>0,w,fun _=>False⟩) l).toAt
  |fn f caps=>
   obtain⟨Y,n,Z,rfl,e3⟩:=A;show RA _ _ (.fn f (caps.map (CI true))) _;refine .fn f _ Y n (by simpa using Z) fun j x z=> ?_;rw[Ln,La] at z;obtain⟨y,e4,rfl⟩:=z;exact RC.toRA (c:=⟨AK,fun _=>0,w,fun _=>False⟩) ((e3 j y e4).mono (fun _ _=>rfl) F)
 subst l;refine⟨u,C,⟨⟨t.os,t.tape,t.output,t.size,fun k a=>t.block k a fun id o ho=>by simp[AK] at ho⟩,t.drawn⟩,?_⟩;refine E.ok G rfl U (fun k=>k<T.w.heap.size/\¬p k/\(fr=true->w.heap.size<=k)) (fun k a=>⟨a.1,a.2.1,fun hf=>a.2.2.2 (A hf)⟩) fun i o hi=> ?_;have⟨_,H,g2⟩:=G.dom i _ hi;exact⟨g2,H.2,fun _=>H.1⟩
theorem AM.of_A {d:D}(h:CP P f (ds.map .d) d fr):AM P f ds d fr:=
 ⟨h.1,fun w e l o p t=>h.2 w e l o (by simpa using p) fun j x a=>by
  rw[Ln,La] at a;obtain⟨y,v,rfl⟩:=a;exact t j y v⟩
theorem uq (l:Ad P tab){fn:Func}{a:Code}(o:P.funcs[f]? =some fn)(p:fn.body=some a)(t:(fn.name== "runtime.NumGoroutine")=false)(v:Du fn.ntmps a=true){d:D}{e:Bool}
  (w:as.length<=fn.ntmps) (h:CQ 0 P [.c a] (DX tab fn.results (K9 d e)) ⟨D0 (as.map DA.av),AK,0⟩):CP P f as d e:=
 uo (U5 l o p t v (by simpa using w) h)
inductive Dr (hp:Hp) (b:Bool):AV->DA->Prop
 |d {x:AV} {d:D} (h:Cg hp b x d):Dr hp b x (.d d)
 |fn {f:FuncId} {caps:List AV} {ds:List D} (h:PW (C3 hp b) caps ds):Dr hp b (.fn f caps) (.fn f ds)
theorem Dr.ok (a:HR g c)(e:c.hp=hp){b:Bool}{x:AV}{d:DA}(h:Dr hp b x d)(l:A6 g c x u)(I:Nat->Prop)(p:∀k,Im g c b k->I k)(t:∀i o,hp i=some o->I (c.φ i)):U7 c.w I d u:=by
 cases h with
 |d h=>exact(h.ok a e l I p t).1
 | @fn f caps ds h=>
  cases(show RA g c (.fn f caps) u from l) with
  |fn _ _ y n A z=>
   have C:=h.1;refine⟨y,n,by omega,rfl,fun j x v=> ?_⟩;have w:j<caps.length:=by
    have:=(Lb.1 v).1;omega
   exact(h.2 j caps[j] x (by simp[w]) v).ok a e (z j caps[j] (by simp[w])) I p t
theorem jd {nx:Nat}{b:Bool}{d:D}(G:PW (Dr hp b) vs as)(hp0:CP P f as d true):
  AT P f vs hp nx fun O S T=>O=CI false d/\S=hp/\T=nx:=by
 refine⟨hp0.1,fun g c U A ab a ad X=> ?_⟩;have⟨_,hp0⟩:=hp0;have hl:=G.1;refine(hp0 c.w (fun _=>False) U (fun _ h=>h.elim) (by omega) (fun j x H=> ?_)).mono fun e t ⟨u,z,⟨l,Y⟩,hv⟩=> ?_
 ·have I:j<vs.length:=by
   have:=(Lb.1 H).1;omega
  have⟨u,C,E⟩:=X j vs[j] (by simp[I]);exact⟨u,C,(G.2 j vs[j] x (by simp[I]) H).ok a A E (fun k=>k<c.w.heap.size/\¬False) (fun k w=>⟨w.1,fun h=>h⟩) fun i o hi=>⟨(a.dom i _ (A▸hi)).2.2,fun h=>h⟩⟩
 subst z;have z:CR c ⟨c.hp,c.φ,t,c.kn⟩:=⟨l.os,l.tape,l.output,l.size,fun _ h=>h,fun k w _=>l.block k w,fun id o p hf=>.inr ⟨o,p,hf,rfl⟩,fun _ _ h=>⟨rfl,h⟩,
  fun id F _ v br fz w M=>⟨F,v,br,fz,M,Lc _,fun _=>⟨rfl,rfl,fun Z _ e=>⟨Z,(l.block _ (a.dom id _ M).2.2).trans e,rfl⟩⟩⟩,Y⟩
 have aa:HR g ⟨c.hp,c.φ,t,c.kn⟩:=⟨Lq a.le l.size,fun k w=>LF (a.m0 k w) l.size,fun id o p=>⟨(a.dom id o p).1,(a.dom id o p).2.1,LF (a.dom id o p).2.2 l.size⟩,a.inj,fun id o p=>(a.obj id o p).ext z rfl (l.block _ (a.dom id o p).2.2)⟩;refine⟨u,_,⟨c.hp,c.φ,t,c.kn⟩,nx,rfl,⟨rfl,A,rfl⟩,rfl,z,aa,?_,Lc _,fun i h=>.inl h⟩;have y:RV t (Im g ⟨c.hp,c.φ,t,c.kn⟩ false) d u:=hv.mono (fun _ _=>rfl) fun k w=>by
  have⟨C,_,E⟩:=w;have h3:=E rfl;refine⟨C,fun hm=> ?_,fun id o p _ e=> ?_,fun _=>Lq a.le h3⟩
  ·have:=a.m0 k hm
   have:=a.le;omega
  have:=(a.dom id o p).2.2;simp only at e;omega
 cases d with
 |v x=>exact(RC.toRA (c:=⟨c.hp,c.φ,t,c.kn⟩) y).toAt
 |sl F=>exact(RC.toRA (c:=⟨c.hp,c.φ,t,c.kn⟩) y).toAt
 |pt N ak=>exact(RC.toRA (c:=⟨c.hp,c.φ,t,c.kn⟩) y).toAt
 |mp F=>exact(RC.toRA (c:=⟨c.hp,c.φ,t,c.kn⟩) y).toAt
 |ag N=>exact y
 |tu N=>exact y
section
variable {ops:Array Oper}{nx0 nx i:Nat}{k:List It}{Q:Ex->St->Prop}{r:List Oper}{s:St}{dst:Option Nat}{acc:List C7}{fr:Fr}{hp:Hp}{ids:List Nat}
theorem ur {g:FuncId}{b:Bool}{d:D}(a:PW (Dr s.hp b) (vs++caps) as)(e:CP P g as d true)(h:Rt P tab ops nx0 k Q i r ⟨CM dst (CI false d) s.fr,s.hp,s.nx⟩):
  KK P tab ops nx0 k Q i r dst s (.fn g caps) vs:=CO ((jd a e).mono fun o p t l=>by
 obtain⟨rfl,rfl,rfl⟩:=l;exact h)
theorem X5 {g:FuncId}{b:Bool}{d:D}(ids':List Nat)(e:∀a:Hp,(∀i∈ids',a i=hp i)->PW (Dr a b) (vs++caps) as)(l:CP P g as d true)(h:Rd P tab ops nx0 nx k Q i r (⟨ids',[],true⟩::acc) (CM dst (CI false d) fr) hp):
  Kz P tab ops nx0 nx k Q i r dst acc ids fr hp (.fn g caps) vs:=
 IP (ids':=ids') (v:=CI false d) (δ:=[]) (nx':=nx) (fun a o=>(jd (e a o.1) l).mono fun _ _ _ ⟨p,t,w⟩=>⟨p,t,w⟩) h
end
end
end
section
open Go.RowKit
instance baLawful:LawfulBEq ByteArray where
 eq_of_beq {a b} h:=by
  cases a;cases b;have h':ByteArray.beq _ _=true:=h;unfold ByteArray.beq at h';simpa using h'
 rfl {a}:=by
  show ByteArray.beq a a=true;unfold ByteArray.beq;simp
def CN {K α:Type}(f:α->List D)(sz B:Nat)(vs:Nat->Nat)(es:List (K × List α))(hp:Hp):Hp:=fun i=>bif Nat.ble B i&&Nat.blt i (B+4294967296) then(es[i-B]?).map fun p=>AO.rw (p.2.map f) sz (vs (i-B)) false false else hp i
noncomputable def Cx (B j:Nat):Nat:=Classical.choose (⟨j+B,rfl⟩:∃x,x=j+B)
theorem D8 (B j:Nat):Cx B j=j+B:=OX (⟨j+B,rfl⟩:∃x,x=j+B)
theorem QX {c:Nat}(h:c<B):(Cx B j=c)=False:=eq_false (by rw[D8];omega)
theorem VC {c:Nat}(h:c<B):(c=Cx B j)=False:=eq_false (by rw[D8];omega)
theorem QY {c:Nat}(a:j<4294967296)(h:B+4294967296<=c):(Cx B j=c)=False:=eq_false (by rw[D8];omega)
theorem ut {c:Nat}(a:j<4294967296)(h:B+4294967296<=c):(c=Cx B j)=False:=eq_false (by rw[D8];omega)
noncomputable def DT {K α:Type} (kv:K->Value) (B:Nat) (vs:Nat->Nat):Nat->List (K × List α)->List (Value × AV)
 |_,[]=>[]
 |o,p::r=>(kv p.1,.so (Cx B o) (vs o) 0 p.2.length)::DT kv B vs (o+1) r
noncomputable def CJ {K α:Type} (kv:K->Value) (B:Nat) (vs:Nat->Nat) (es:List (K × List α)):List (Value × AV):=DT kv B vs 0 es
section
variable {K α:Type}[BEq K]
def Az (k:K)(a:List α):List (K × List α)->List (K × List α)
 |[]=>[(k,a)]
 |p::r=>if k==p.1 then(k,p.2++a)::r else p::Az k a r
def FT (k:K)(es:List (K × List α)):Bool:=decide (es.length<4294967296)&&decide ((qf_ k [] es).length<4294967296)
theorem X6 {k:K}{es:List (K × List α)}(h:FT k es=true):es.length<4294967296/\(qf_ k [] es).length<4294967296:=by
 simpa [FT] using h
end
section
variable {K α:Type}{kv:K->Value}{B:Nat}{vs:Nat->Nat}{f:α->List D}{sz:Nat}
theorem je:∀(a:List (K × List α)) (o j:Nat),(DT kv B vs o a)[j]? =(a[j]?).map fun p=>(kv p.1,AV.so (Cx B (o+j)) (vs (o+j)) 0 p.2.length)
 |[],o,j=>by simp[DT]
 |p::r,o,j=>by
  cases j with |zero=>simp[DT] |succ j=>simp[DT,je r (o+1) j,Nv,BN 1 j]
theorem VD (es:List (K × List α))(j:Nat):(CJ kv B vs es)[j]? =(es[j]?).map fun p=>(kv p.1,AV.so (Cx B j) (vs j) 0 p.2.length):=by
 rw[CJ,je];simp
theorem uv (es:List (K × List α)):(CJ kv B vs es).length=es.length:=by
 have:∀(es:List (K × List α)) o,(DT kv B vs o es).length=es.length:=by
  intro es;induction es with |nil=>intro o;rfl |cons p r a=>intro o;simp[DT,a]
 exact this es 0
theorem JP {es:List (K × List α)}{p:K × List α}(h:es[j]? =some p)(d:j<4294967296):CN f sz B vs es hp (Cx B j)=some (.rw (p.2.map f) sz (vs j) false false):=by
 rw[D8];unfold CN;have a:(Nat.ble B (j+B)&&Nat.blt (j+B) (B+4294967296))=true:=by simp;omega
 rw[a];simp[h]
theorem bL {es:List (K × List α)}(h:i<B\/B+4294967296<=i):CN f sz B vs es hp i=hp i:=by
 unfold CN;have a:(Nat.ble B i&&Nat.blt i (B+4294967296))=false:=by
  cases d:(Nat.ble B i&&Nat.blt i (B+4294967296)) with
  |false=>rfl
  |true=>
   simp only[Lm,Bp,BF] at d;omega
 rw[a];rfl
theorem uw {es:List (K × List α)}{x:Option AO}(h:i<B\/B+4294967296<=i):upd i x (CN f sz B vs es hp)=CN f sz B vs es (upd i x hp):=by
 funext k;by_cases e:k=i
 ·subst e;rw[bL h];simp[upd]
 unfold CN;simp[upd,e]
theorem ux {α:Type}{x y:α}{g:Nat->α}(h:i≠j):upd i x (upd j y g)=upd j y (upd i x g):=by
 funext k;unfold upd;by_cases a:k=i
 ·subst a;simp[h]
 simp[a]
def C9 (j v:Nat)(vs:Nat->Nat):Nat->Nat:=fun i=>if i=j then v else vs i
theorem X7 {es:List (K × List α)}{v:Nat}{p q:K × List α}(h:es[j]? =some p)(d:j<4294967296):upd (Cx B j) (some (.rw (q.2.map f) sz v false false)) (CN f sz B vs es hp)=CN f sz B (C9 j v vs) (es.set j q) hp:=by
 have l:=(Lb.1 h).1;funext i;by_cases e:i=Cx B j
 ·subst e;rw[JP (p:=q) (by simp[l]) d];simp[upd,C9]
 have o:upd (Cx B j) (some (AO.rw (q.2.map f) sz v false false)) (CN f sz B vs es hp) i=CN f sz B vs es hp i:=by simp[upd,e]
 rw[o];unfold CN;cases t:(Nat.ble B i&&Nat.blt i (B+4294967296)) with
 |false=>rfl
 |true=>
  simp only[Lm,Bp,BF] at t;rw[D8] at e;have a:i-B≠j:=by omega
  simp[Ne.symm a,C9,a]
theorem jf:∀(e:List (K × List α)) (o j v:Nat) (q:K × List α),j<e.length->(DT kv B vs o e).set j (kv q.1,.so (Cx B (o+j)) v 0 q.2.length)=DT kv B (C9 (o+j) v vs) o (e.set j q)
 |[],_,_,_,_,h=>by simp at h
 |p::r,o,0,v,q,_=>by
  have:∀(r:List (K × List α)) (a:Nat),o<a->DT kv B vs a r=DT kv B (C9 o v vs) a r:=by
   intro r;induction r with |nil=>intro _ _;rfl |cons p r d=>intro a h;simp[DT,d (a+1) (by omega),C9,show a≠o by omega]
  simp[DT,C9,this r (o+1) (by omega)]
 |p::r,o,j+1,v,q,h=>by
  have d:=jf r (o+1) j v q (by simpa using h);rw[show o+1+j=o+(j+1) by omega] at d;simp[DT,d,C9]
theorem X8 {es:List (K × List α)}{v:Nat}{q:K × List α}(h:j<es.length):(CJ kv B vs es).set j (kv q.1,.so (Cx B j) v 0 q.2.length)=CJ kv B (C9 j v vs) (es.set j q):=by
 have:=jf (kv:=kv) (B:=B) (vs:=vs) es 0 j v q h;rw[Ny] at this;exact this
variable [BEq K][LawfulBEq K]{q:Bool × List TK}
theorem jg (t:E8 q kv)(k:K):∀(d:List (K × List α)) (o:Nat),(mget k d=none/\EC q (kv k) (DT kv B vs o d)=some none/\∀h,Az k h d=d++[(k,h)])\/
  ∃j l,d[j]? =some (k,l)/\mget k d=some l/\EC q (kv k) (DT kv B vs o d)=some (some (j,.so (Cx B (o+j)) (vs (o+j)) 0 l.length))/\∀h,Az k h d=d.set j (k,l++h)
 |[],o=>.inl ⟨rfl,rfl,fun _=>rfl⟩
 |p::r,o=>by
  cases a:(k==p.1) with
  |true=>
   have e:k=p.1:=(by simpa using a);refine .inr ⟨0,p.2,by simp[e],by simp[mget,a],?_,fun h=>by simp[Az,a]⟩;simp[DT,EC,t k p.1,a]
  |false=>
   rcases jg t k r (o+1) with⟨w,y,v⟩ |⟨j,l,w,y,v,z⟩
   ·refine .inl ⟨by simp[mget,a,w],?_,fun h=>by simp[Az,a,v]⟩;simp[DT,EC,t k p.1,a,y]
   refine .inr ⟨j+1,l,by simpa using w,by simp[mget,a,y],?_,fun h=>by simp[Az,a,z]⟩;rw[show o+1+j=o+(j+1) by omega] at v;simp[DT,EC,t k p.1,a,v]
theorem X9 (e:E8 q kv)(k:K)(es:List (K × List α)):(mget k es=none/\EC q (kv k) (CJ kv B vs es)=some none/\∀a,Az k a es=es++[(k,a)])\/
  ∃j d,es[j]? =some (k,d)/\mget k es=some d/\EC q (kv k) (CJ kv B vs es)=some (some (j,.so (Cx B j) (vs j) 0 d.length))/\∀a,Az k a es=es.set j (k,d++a):=by
 have:=jg (kv:=kv) (B:=B) (vs:=vs) e k es 0;simp only[Ny] at this;exact this
end
section
variable {q:Bool × List TK}
theorem My {es:List (Value × AV)}(h:EC q x es=some none)(z:AV)(ok:Bool):EV q x z ok es=some (if ok then .tu [z,.v (.bool false)] else z,[]):=by
 unfold EV;rw[h]
theorem Mz {es:List (Value × AV)}{v:AV}(h:EC q x es=some (some (j,v)))(z:AV)(ok:Bool):EV q x z ok es=some (if ok then .tu [v,.v (.bool true)] else v,[]):=by
 unfold EV;rw[h]
theorem M1 {es:List (Value × AV)}(h:EC q x es=some none)(v:AV):Ef q x v es=some (es++[(x,v)]):=by
 unfold Ef;rw[h]
theorem M2 {es:List (Value × AV)}{w:AV}(h:EC q x es=some (some (j,w)))(v:AV):Ef q x v es=some (es.set j (x,v)):=by
 unfold Ef;rw[h]
theorem jh {es:List (Value × AV)}(a:Value × AV):(es++[a])[es.length]? =some a:=by simp
theorem ji {es:List (Value × AV)}(a b:Value × AV):(es++[a]).set es.length b=es++[b]:=by simp
theorem MA {es:List (Value × AV)}{c:Value × AV}(h:es[j]? =some c)(a:Value × AV):(es.set j a)[j]? =some a:=by
 have:=(Lb.1 h).1;simp[this]
end
section
variable {K α:Type}{kv:K->Value}{B:Nat}{vs:Nat->Nat}{f:α->List D}{sz:Nat}
def Jo (rs:List Nat)(i:Nat):Bool:=rs.any fun B=>Nat.ble B i&&Nat.blt i (B+4294967296)
def Ey (n:Nat)(JR:Option (Nat × Nat))(rs:List Nat)(L:List (Nat × Nat))(i:Nat):Option Nat:=
 bif Nat.blt i n then some i else bif Jo rs i then(match JR with |some (J,R)=>if i=J then some R else some i |none=>some i) else match L.find? (fun p=>Nat.beq p.1 i) with
  |some p=>some p.2
  |none=>none
def bM (n N R:Nat)(rs:List Nat)(L:List (Nat × Nat)):Bool:=Nat.ble n N&&Sv n N L&&L.all (fun p=> !Jo rs p.2&& !Nat.beq p.2 R)&&rs.all (fun B=>Nat.ble n B&&Nat.ble (B+4294967296) N)&&Nat.ble n R&& !Jo rs R
theorem uy (h:Jo rs i=true):∃B∈rs,B<=i/\i<B+4294967296:=by
 unfold Jo at h;rw[Nq] at h;have⟨B,d,a⟩:=h;simp only[Lm,Bp,BF] at a;exact⟨B,d,a⟩
theorem u7 {N nx:Nat}{H fr:Fr}{hp':Hp}(JR:Option (Nat × Nat))(hJ:∀J z,JR=some (J,z)->z=R)(rs:List Nat)(L:List (Nat × Nat))(Y:bM n N R rs L=true)(I:∀t,H t= .un\/CZ (Ey n JR rs L) (H t)=some (fr t))
  (h3:∀i o,hp' i=some o->∃j Z,Ey n JR rs L i=some j/\Ce (Ey n JR rs L) o=some Z/\hp j=some Z):CE n ⟨H,hp',N⟩ ⟨fr,hp,nx⟩:=by
 simp only[bM,Lm,Bp,LP,NN] at Y;have⟨⟨⟨⟨⟨h0,M⟩,aa⟩,hB⟩,hR⟩,C⟩:=Y;have E:∀i,i<n->Ey n JR rs L i=some i:=fun i l=>by
  unfold Ey;rw[show Nat.blt i n=true by rw[BF];exact l];rfl
 have F:∀i j,n<=i->Ey n JR rs L i=some j->(Jo rs i=true/\(j=i/\(∀J z,JR=some (J,z)->i≠J)\/∃J,JR=some (J,R)/\i=J/\j=R))\/(Jo rs i=false/\(i,j)∈L):=fun i j l h=>by
  unfold Ey at h;have e:Nat.blt i n=false:=by
   cases I:Nat.blt i n with |false=>rfl |true=>rw[BF] at I;omega
  rw[e] at h;simp only[cond_false] at h;cases v:Jo rs i with
  |true=>
   rw[v] at h;simp only[cond_true] at h;refine .inl ⟨rfl,?_⟩;cases JR with
   |none=>simp only[Lg] at h;exact .inl ⟨h.symm,fun _ _ e=>by cases e⟩
   |some p=>
    have⟨J,z⟩:=p
    have:=hJ J z rfl;subst this;simp only at h;split at h
    ·rename_i e;simp only[Lg] at h;exact .inr ⟨J,rfl,e,h.symm⟩
    ·rename_i e;simp only[Lg] at h;exact .inl ⟨h.symm,fun J2 R2 d=>by simp only[Lg,LE] at d;obtain⟨rfl,rfl⟩:=d;exact e⟩
  |false=>
   rw[v] at h;simp only[cond_false] at h;refine .inr ⟨rfl,?_⟩;split at h
   ·rename_i p hp;have⟨A,d⟩:=jE hp;simp only[Lg] at h;rw[<-d,<-h];exact A
   cases h
 have O:∀i j,n<=i->Ey n JR rs L i=some j->n<=j:=fun i j l h=>by
  rcases F i j l h with⟨_,⟨rfl,_⟩ |⟨J,_,_,rfl⟩⟩ |⟨_,w⟩
  ·exact l
  ·exact hR
  exact(Ms M _ w).2.1
 refine .ren (Ey n JR rs L) ⟨E,fun i j l h=>⟨O i j l h,?_⟩,fun i y j A d=> ?_,I,h3,h0⟩
 ·rcases F i j l h with⟨v,_⟩ |⟨_,w⟩
  ·have⟨B,h5,h6,h7⟩:=uy v
   have:=(hB B h5).2;show i<N;omega
  exact(Ms M _ w).2.2.1
 by_cases l:i<n
 ·rw[E i l] at A;cases A;by_cases S:y<n
  ·rw[E y S] at d;cases d;rfl
  have:=O y i (by omega) d;omega
 by_cases S:y<n
 ·rw[E y S] at d;cases d
  have:=O i y (by omega) A;omega
 have no:∀ {a b j:Nat},Jo rs a=true->(j=a\/j=R)->(b,j)∈L->False:=fun{a b j} ha hj hb=>by
  have:=aa _ hb;simp only at this;rcases hj with rfl |rfl
  ·rw[ha] at this;simp at this
  simp at this
 rcases F i j (by omega) A with⟨v,⟨rfl,n1⟩ |⟨J,q1,rfl,rfl⟩⟩ |⟨v,w⟩<;>rcases F y _ (by omega) d with⟨G,⟨T,n2⟩ |⟨J',U,q4,q5⟩⟩ |⟨G,X⟩
 ·exact T
 ·subst q5;rw[v] at C;cases C
 ·exact(no v (.inl rfl) X).elim
 ·subst T;rw[G] at C;cases C
 ·rw[q1] at U;simp only[Lg,LE,and_true] at U;exact U.trans q4.symm
 ·exact(no v (.inr rfl) X).elim
 ·exact(no G (.inl T) w).elim
 ·subst q5;exact(no G (.inr rfl) w).elim
 exact(Ms M _ X).2.2.2 _ w rfl
theorem YA {B:Nat}(a:Nat.ble n B=true)(d:B∈rs)(o:j<4294967296):Ey n JR rs L (Cx B j)=match JR with |some (J,R)=>if Cx B j=J then some R else some (Cx B j) |none=>some (Cx B j):=by
 rw[D8];rw[Bp] at a;unfold Ey;have e:Nat.blt (j+B) n=false:=by
  cases h:Nat.blt (j+B) n with |false=>rfl |true=>rw[BF] at h;omega
 have l:Jo rs (j+B)=true:=by
  unfold Jo;rw[Nq];exact⟨B,d,by simp;omega⟩
 rw[e,l];rfl
theorem QZ {α:Type}{g:Nat->α}{c:Nat}{x y:α}(h:k≠c)(a:g k=y):upd c x g k=y:=by
 unfold upd;rw[if_neg h];exact a
theorem Qa {es:List (K × List α)}{y:Option AO}(h:i<B\/B+4294967296<=i)(a:hp i=y):CN f sz B vs es hp i=y:=by rw[bL h];exact a
theorem jj {es v:List (K × List α)}(w:Nat.ble n B=true)(y:B∈rs)(z:∀J R,JR=some (J,R)->J<B\/B+4294967296<=J)(A:v=es)
  (h:∀j p,es[j]? =some p->j<4294967296->hp (Cx B j)=some (.rw (p.2.map f) sz (vs j) false false)) (C:∀i o,hp0 i=some o->∃j d,Ey n JR rs L i=some j/\Ce (Ey n JR rs L) o=some d/\hp j=some d):
  ∀i o,CN f sz B vs v hp0 i=some o->∃j d,Ey n JR rs L i=some j/\Ce (Ey n JR rs L) o=some d/\hp j=some d:=fun i o a=>by
 subst A;unfold CN at a;cases e:(Nat.ble B i&&Nat.blt i (B+4294967296)) with
 |false=>rw[e] at a;exact C i o a
 |true=>
  rw[e] at a;simp only[cond_true,La] at a;simp only[Lm,Bp,BF] at e;obtain⟨p,E,rfl⟩:=a;have l:=h (i-B) p E (by omega);have t:=YA (JR:=JR) (L:=L) w y (show i-B<4294967296 by omega);rw[D8] at l;simp only[D8] at t;rw[show i-B+B=i by omega] at l t;refine⟨i,_,?_,rfl,l⟩;rw[t];cases JR with
  |none=>rfl
  |some q=>
   have⟨J,R⟩:=q
   have:=z J R rfl;simp only;rw[ifn]
theorem u9 {es w:List (K × List α)}{k:K}{y:List α}(A:Nat.ble n B=true)(C:B∈rs)(I:es.length<4294967296)(E:w=es++[(k,y)])
  (h:∀j p,es[j]? =some p->j<4294967296->hp (Cx B j)=some (.rw (p.2.map f) sz (vs j) false false)) (F:hp R=some (.rw (y.map f) sz 0 false false)) (G:∀i o,hp0 i=some o->∃j l,Ey n (some (Cx B es.length,R)) rs L i=some j/\Ce (Ey n (some (Cx B es.length,R)) rs L) o=some l/\hp j=some l):
  ∀i o,CN f sz B (C9 es.length 0 vs) w hp0 i=some o->∃j l,Ey n (some (Cx B es.length,R)) rs L i=some j/\Ce (Ey n (some (Cx B es.length,R)) rs L) o=some l/\hp j=some l:=fun i o d=>by
 subst E;unfold CN at d;cases v:(Nat.ble B i&&Nat.blt i (B+4294967296)) with
 |false=>rw[v] at d;exact G i o d
 |true=>
  rw[v] at d;simp only[cond_true,La] at d;simp only[Lm,Bp,BF] at v;obtain⟨p,t,rfl⟩:=d;have a:=YA (JR:=some (Cx B es.length,R)) (L:=L) A C (show i-B<4294967296 by omega);simp only[D8] at a;rw[show i-B+B=i by omega] at a;by_cases e:i-B=es.length
  ·rw[ifp] at a;rw[e,Nn (Lc _),BM] at t;cases t;refine⟨R,_,by rw[<-D8] at a;exact a,rfl,?_⟩;rw[F];simp[C9,e]
  rw[ifn] at a;have H:i-B<es.length:=by
   have:=(Lb.1 t).1;rw[Ld,Lo] at this;omega
  rw[NK H] at t;have z:=h (i-B) p t (by omega);rw[D8,show i-B+B=i by omega] at z;refine⟨i,_,by rw[<-D8] at a;exact a,rfl,?_⟩;rw[z];simp[C9,e]
theorem bN {n:Nat}{JR:Option (Nat × Nat)}{rs:List Nat}{L:List (Nat × Nat)}(d:Nat.ble n B=true)(h:B∈rs):∀(a:List (K × List α)) (o:Nat),(∀J R,JR=some (J,R)->J<o+B\/o+a.length+B<=J)->o+a.length<=4294967296->Er (Ey n JR rs L) (DT kv B vs o a)=some (DT kv B vs o a)
 |[],o,_,_=>rfl
 |p::r,o,l,t=>by
  have v:=bN d h (JR:=JR) (L:=L) r (o+1) (fun J R e=>by have:=l J R e;simp only[Ll] at this;omega) (by simp only[Ll] at t;omega);have w:=YA (JR:=JR) (L:=L) d h (show o<4294967296 by simp only[Ll] at t;omega);have y:Ey n JR rs L (Cx B o)=some (Cx B o):=by
   rw[w];cases JR with
   |none=>rfl
   |some q=>
    have⟨J,R⟩:=q
    have:=l J R rfl;simp only[Ll] at this;simp only;rw[if_neg (by rw[D8];omega)]
  simp only[DT,Er,CZ,y,v,LT]
theorem jk {es a:List (K × List α)}(d:Nat.ble n B=true)(h:B∈rs)(l:∀J R,JR=some (J,R)->J<B\/B+4294967296<=J)(p:es.length<=4294967296)(o:a=es):Ce (Ey n JR rs L) (.mo (CJ kv B vs a) dl)=some (.mo (CJ kv B vs es) dl):=by
 subst o
 have:=bN (kv:=kv) (vs:=vs) (JR:=JR) (L:=L) d h a 0 (fun J R e=>by have:=l J R e;omega) (by omega);simp only[Ce,CJ,this,LT]
theorem jl:∀(d:List (K × List α)) (o v:Nat) (k:K) (a:List α),DT kv B (C9 (o+d.length) v vs) o (d++[(k,a)])=DT kv B vs o d++[(kv k,.so (Cx B (o+d.length)) v 0 a.length)]
 |[],o,v,k,a=>by simp[DT,C9]
 |p::r,o,v,k,a=>by
  have e:=jl r (o+1) v k a;rw[show o+1+r.length=o+(p::r).length by simp only[Ll];omega] at e;have h:C9 (o+(p::r).length) v vs o=vs o:=by simp[C9]
  simp only[LU,DT,e,h]
theorem jm {ρ:Nat->Option Nat}:∀(a b l h:List (Value × AV)),Er ρ a=some l->Er ρ b=some h->Er ρ (a++b)=some (l++h)
 |[],b,l,h,e,o=>by cases e;exact o
 |(x,c)::r,b,l,h,e,o=>by
  unfold Er at e;split at e
  ·rename_i d ds p t;cases e
   have:=jm r b ds h t o;simp only[LU,Er,p,this]
  cases e
theorem vA {es d:List (K × List α)}{k:K}{a:List α}(h:Nat.ble n B=true)(l:B∈rs)(p:es.length<4294967296)(t:d=es++[(k,a)]):Ce (Ey n (some (Cx B es.length,R)) rs L) (.mo (CJ kv B (C9 es.length 0 vs) d) dl)=some (.mo (CJ kv B vs es++[(kv k,.so R 0 0 a.length)]) dl):=by
 subst t;have v:=bN (kv:=kv) (vs:=vs) (JR:=some (Cx B es.length,R)) (L:=L) h l es 0 (fun J R e=>by simp only[Lg,LE,D8] at e;omega) (by omega);have o:=jl (kv:=kv) (B:=B) (vs:=vs) es 0 0 k a;rw[Ny] at o;have w:Ey n (some (Cx B es.length,R)) rs L (Cx B es.length)=some R:=(YA (JR:=some (Cx B es.length,R)) (L:=L) h l p).trans (if_pos rfl);have y:Er (Ey n (some (Cx B es.length,R)) rs L) [(kv k,AV.so (Cx B es.length) 0 0 a.length)]=some [(kv k,AV.so R 0 0 a.length)]:=by simp only[Er,CZ,w,LT]
 simp only[Ce,CJ,o,jm _ _ _ _ v y,LT]
end
section
variable {P:Program}{tab:Nat->TI}{ops:Array Oper}{nx0 nx i:Nat}{k:List It}{Q:Ex->St->Prop}{r:List Oper}{s:St}{dst:Option Nat}{acc:List C7}{fr:Fr}{hp:Hp}
@[go_sem] theorem as_ (A:TypeId)(x y:Operand):FK P tab ops nx0 nx k Q i r dst acc fr hp (.mapEntry A x y)=Fb P tab ops nx0 nx k Q (i+1) r dst acc (C4 (ev fr) (.mapEntry A x y)) fr hp (Cc tab (ev fr) hp (nx0+i) (.mapEntry A x y)):=rfl
@[go_sem] theorem sq_ (A:TypeId)(x y z:Operand):FK P tab ops nx0 nx k Q i r dst acc fr hp (.entryStore A x y z)=Fb P tab ops nx0 nx k Q (i+1) r dst acc (C4 (ev fr) (.entryStore A x y z)) fr hp (Cc tab (ev fr) hp (nx0+i) (.entryStore A x y z)):=rfl
end
section
variable (ρ:Operand->AV)
@[go_sem] theorem S3 (T:TypeId)(x y:Operand):C4 ρ (.mapEntry T x y)=CD (ρ x)++CD (ρ y):=by simp[C4,Gd,Op.operands,CS]
@[go_sem] theorem S4 (T:TypeId)(x y z:Operand):C4 ρ (.entryStore T x y z)=CD (ρ x)++(CD (ρ y)++CD (ρ z)):=by simp[C4,Gd,Op.operands,CS]
@[go_sem] theorem VE (T:TypeId)(x y z:Operand):C4 ρ (.mapUpdate T x y z)=CD (ρ x)++(CD (ρ y)++CD (ρ z)):=by simp[C4,Gd,Op.operands,CS]
end
def Gm (q:Bool × List TK)(kv:Value)(z:AV)(i:Nat)(es:List (Value × AV)):Option (AV × List (Nat × AO)):=
 match EC q kv es with
 |some none=>some (.tu [z,.v (.int .i64 es.length)],[(i,.mo (es++[(kv,z)]) false)])
 |some (some (j,v))=>some (.tu [v,.v (.int .i64 j)],[(i,.mo (es.set j (kv,v)) false)])
 |none=>none
def VF (q:Option (Bool × List TK))(kv:Option Value)(z:Option AV)(m:AV)(hp:Hp):Option (AV × List (Nat × AO)):=
 match q,kv,z with
 |some q,some kv,some z=>if GI q kv then match m with
  | .mo i=>match hp i with
   |some (.mo a false)=>Gm q kv z i a
   |_=>none
  |_=>none else none
 |_,_,_=>none
@[go_sem ↓ high] theorem o0_ {tab:Nat->TI}(ρ:Operand->AV)(hp:Hp)(id T:Nat)(m k:Operand):Cc tab ρ hp id (.mapEntry T m k)=VF (tab T).mkey (En (ρ k)) (II (tab (tab T).elem)) (ρ m) hp:=rfl
@[go_sem] theorem YB (q:Bool × List TK)(kv:Value)(z:AV)(i:Nat)(hp:Hp):VF (some q) (some kv) (some z) (.mo i) hp=if GI q kv then(match hp i with |some (.mo es false)=>Gm q kv z i es |_=>none) else none:=rfl
theorem MB {q:Bool × List TK}{es:List (Value × AV)}(h:EC q x es=some none)(z:AV)(i:Nat):Gm q x z i es=some (.tu [z,.v (.int .i64 es.length)],[(i,.mo (es++[(x,z)]) false)]):=by
 unfold Gm;rw[h]
theorem MC {q:Bool × List TK}{es:List (Value × AV)}{v:AV}(h:EC q x es=some (some (j,v)))(z:AV)(i:Nat):Gm q x z i es=some (.tu [v,.v (.int .i64 j)],[(i,.mo (es.set j (x,v)) false)]):=by
 unfold Gm;rw[h]
def VG (m:AV)(j:Option Nat)(x:AV)(hp:Hp):Option (AV × List (Nat × AO)):=
 match m,j with
 | .mo i,some j=>if F3 x then match hp i with
  |some (.mo a false)=>match a[j]? with
   |some (k,_)=>some (.un,[(i,.mo (a.set j (k,x)) false)])
   |none=>none
  |_=>none else none
 |_,_=>none
@[go_sem ↓ high] theorem o1_ {tab:Nat->TI}(ρ:Operand->AV)(hp:Hp)(id T:Nat)(m a x:Operand):Cc tab ρ hp id (.entryStore T m a x)=VG (ρ m) (EY (ρ a)) (ρ x) hp:=rfl
@[go_sem] theorem YC (i j:Nat)(x:AV)(hp:Hp):VG (.mo i) (some j) x hp=if F3 x then(match hp i with
  |some (.mo a false)=>match a[j]? with |some (k,_)=>some (.un,[(i,.mo (a.set j (k,x)) false)]) |none=>none
  |_=>none) else none:=rfl
def sw (J R i:Nat):Nat:=if i=J then R else i
def MD (J R:Nat)(a:C7):C7:=⟨a.ids.map (sw J R),a.ks.map (sw J R),a.g⟩
section
variable {J R:Nat}
theorem Qb (e:i≠R)(l:k≠R)(h:sw J R i=sw J R k):i=k:=by
 unfold sw at h;by_cases a:i=J<;>by_cases d:k=J
 ·rw[a,d]
 ·rw[if_pos a,if_neg d] at h;exact absurd h.symm l
 ·rw[if_neg a,if_pos d] at h;exact absurd h e
 rwa [if_neg a,if_neg d] at h
theorem jn {xs h:List Nat}(l:R∉xs)(o:R∉h):De (xs.map (sw J R)) (h.map (sw J R))=De xs h:=by
 unfold De;rw[LY];simp only[Nq,LL,Bn];constructor
 ·rintro⟨_,⟨i,a,rfl⟩,⟨k,d,e⟩⟩
  have:k=i:=Qb (J:=J) (R:=R) (by rintro rfl;exact o d) (by rintro rfl;exact l a) e;subst this;exact⟨k,a,d⟩
 rintro⟨i,a,d⟩;exact⟨_,⟨i,a,rfl⟩,⟨i,d,rfl⟩⟩
theorem vB {xs:List Nat}(a:J≠Df)(d:R≠Df):(xs.map (sw J R)).contains Df=xs.contains Df:=by
 rw[LY];simp only[Bn,LL];constructor
 ·rintro⟨i,l,e⟩;unfold sw at e;split at e
  ·exact absurd e d
  rwa [<-e]
 intro h;exact⟨Df,h,by unfold sw;rw[if_neg (Ne.symm a)]⟩
theorem vC {a b:C7}(e:R∉a.ids++a.ks)(d:R∉b.ids++b.ks)(h:J≠Df)(l:R≠Df):Fl (MD J R a) (MD J R b)=Fl a b:=by
 simp only[Lw,not_or] at e d;have o:De (a.ks.map (sw J R)) (b.ids.map (sw J R)++b.ks.map (sw J R))=De a.ks (b.ids++b.ks):=by
  rw[<-LX];exact jn e.2 (by simp[d.1,d.2])
 have p:=jn (J:=J) d.2 e.1;simp only[Fl,IN,FQ,MD,o,p,vB h l,List.isEmpty_map]
theorem vD {ops:Array Oper}{rs:List C7}(h:Gz ops (rs.map (MD J R))=true)(o:∀a∈rs,R∉a.ids++a.ks)(p:J≠Df)(t:R≠Df):Gz ops rs=true:=by
 simp only[Gz,SJ,Lm,LP] at h⊢;refine⟨h.1,fun j v i w=> ?_⟩;have d:=h.2 j v i w;rw[Ln,Ln] at d;cases e:rs[i]? with
 |none=>
  rw[e] at d;exact d
 |some a=>
  cases l:rs[j]? with
  |none=>
   rw[e,l] at d;exact d
  |some b=>
   rw[e,l] at d;simp only[LT,vC (o a (Ly e)) (o b (Ly l)) p t] at d;exact d
theorem YD {P:Program}{tab:Nat->TI}{ops:Array Oper}{nx0 nx:Nat}{k:List It}{Q:Ex->St->Prop}{acc:List C7}{fr:Fr}(J R:Nat)(d:J≠Df)(e:R≠Df)(h:∀a∈acc,R∉a.ids++a.ks)(l:SO ops (acc.reverse.map (MD J R))=true)(o:run P tab k Q ⟨fr,hp,nx⟩):Rd P tab ops nx0 nx k Q i [] acc fr hp:=
 ⟨vD (XL l) (fun a p=>h a (by simpa using p)) d e,o⟩
end
def A7 {K V:Type}(kv:K->Value)(ag:Bool)(enc:V->List D)(m:List (K × V)):List (Value × Bool × List D):=m.map fun p=>(kv p.1,ag,enc p.2)
theorem Qc (b:Bool)(cs:List D):Ee b (true,cs)= .d (.ag cs) b:=rfl
theorem Qd (b:Bool)(c:D):Ee b (false,[c])=CI b c:=rfl
theorem vE:Jd (.slice none 0 0)= .sl []:=rfl
theorem vF (k:IntKind)(n:Int):Jd (.int k n)= .v (.int k n):=rfl
theorem vG (x:ByteArray):Jd (.string x)= .v (.string x):=rfl
theorem vH (x:Option Addr):Jd (.pointer x)= .v (.pointer x):=rfl
@[go_sem] theorem il_ (a:α)(l b:List α):List.append (a::l) b=a::List.append l b:=rfl
@[go_sem] theorem lW_ (b:List α):List.append [] b=b:=rfl
@[go_sem] theorem YE (b:Bool)(m:List (Value × Bool × List D)):CI b (.mp m)= .d (.mp m) b:=rfl
attribute [go_sem] Ml Qc Qd vE vF vG vH
section
variable {K V:Type}[BEq K]{q:Bool × List TK}{kv:K->Value}{ag b:Bool}{enc:V->List D}
theorem HZ (a:E8 q kv)(k:K)(z:V)(ok:Bool)(m:List (K × V)):EV q (kv k) (Ee b (ag,enc z)) ok (Eo b (A7 kv ag enc m))=some (if ok then .tu [Ee b (ag,enc (qf_ k z m)),.v (.bool (Ay k m))] else Ee b (ag,enc (qf_ k z m)),[]):=by
 have e:Eo b (A7 kv ag enc m)=Aa kv (fun v=>Ee b (ag,enc v)) m:=by simp[Eo,A7,Aa]
 rw[e];exact Sz (ev:=fun v=>Ee b (ag,enc v)) a k z ok m
theorem bO (d:E8 q kv)(k:K)(z:V)(m:List (K × V))(x:AV)(h:Ay k m=true):EV q (kv k) x false (Eo b (A7 kv ag enc m))=some (Ee b (ag,enc (qf_ k z m)),[]):=by
 have e:Eo b (A7 kv ag enc m)=Aa kv (fun v=>Ee b (ag,enc v)) m:=by simp[Eo,A7,Aa]
 rw[e];have⟨o,l,p,y⟩:=Mx (ev:=fun v=>Ee b (ag,enc v)) d k m;unfold EV;rw[l];cases a:mget k m with
 |none=>simp[Ay,a] at h
 |some w=>
  have⟨i,t,A⟩:=p w a;subst t;simp[qf_,a]
theorem bP (d:E8 q kv)(k:K)(m:List (K × V))(x:AV)(h:Ay k m=false):EV q (kv k) x false (Eo b (A7 kv ag enc m))=some (x,[]):=by
 have e:Eo b (A7 kv ag enc m)=Aa kv (fun v=>Ee b (ag,enc v)) m:=by simp[Eo,A7,Aa]
 rw[e];have⟨o,l,y,p⟩:=Mx (ev:=fun v=>Ee b (ag,enc v)) d k m;unfold EV;rw[l];cases a:mget k m with
 |none=>
  have⟨t,z⟩:=p a;subst t;simp
 |some w=>simp[Ay,a] at h
end
section
variable {K α V:Type}{kv:K->Value}{B:Nat}{vs:Nat->Nat}{f:α->List D}{sz:Nat}
theorem C3.fam {b:Bool}{es:List (K × List α)}(h:hp m=some (.mo (CJ kv B vs es) dl))(E:es.length<=4294967296)(z:∀j p,es[j]? =some p->j<4294967296->hp (Cx B j)=some (.rw (p.2.map f) sz (vs j) false false)):C3 hp b (.mo m) (.mp (A7 kv false (eL f) es)):=by
 have t:∀ {j:Nat} {k:Value} {v:AV},(CJ kv B vs es)[j]? =some (k,v)->∃p,es[j]? =some p/\k=kv p.1/\v= .so (Cx B j) (vs j) 0 p.2.length:=fun{j k v} h=>by
  rw[VD,La] at h;have⟨p,e,a⟩:=h;simp only[LE] at a;exact⟨p,e,a.1.symm,a.2.symm⟩
 have w:∀ {j:Nat} {k:Value} {ag:Bool} {ds:List D} {p:K × List α},es[j]? =some p->(A7 kv false (eL f) es)[j]? =some (k,ag,ds)->k=kv p.1/\ag=false/\ds= [D.sl (p.2.map f)]:=fun{j k ag ds p} e a=>by
  simp only[A7,Ln,e,LT,Lg,LE] at a;exact⟨a.1.symm,a.2.1.symm,a.2.2.symm⟩
 refine .mo h (by simp[A7,uv]) (fun j k v A ag ds e a=> ?_) fun j k v A ag ds i x d e a o y=> ?_
 ·obtain⟨p,l,rfl,rfl⟩:=t e;obtain⟨rfl,rfl,rfl⟩:=w l a;exact⟨rfl,rfl,rfl,fun _=>rfl⟩
 obtain⟨p,l,rfl,rfl⟩:=t e;obtain⟨rfl,rfl,rfl⟩:=w l a;have F:=(Lb.1 l).1;have C:=z j p l (by omega);cases i with
 |zero=>
  simp only[HC,Nc,Lg] at o y;subst o;subst y;refine .one (b':=false) (is:=[Cx B j]) ?_ (by simp);simp only[Ci,C,if_true,LD];rw[Nu (by simp)]
 |succ i=>simp[HC] at o
theorem jo {b:Bool}{ev:V->AV}{enc:V->List D}{es:List (K × V)}(h:hp m=some (.mo (Aa kv ev es) dl))(A:∀v,∃x,ev v= .v x/\enc v= [.v x]/\Ci hp (.v x)=some (.v x,false,[])):C3 hp b (.mo m) (.mp (A7 kv false enc es)):=by
 have C:∀ {j:Nat} {k:Value} {v:AV},(Aa kv ev es)[j]? =some (k,v)->∃p,es[j]? =some p/\k=kv p.1/\v=ev p.2:=fun{j k v} h=>by
  simp only[Aa,Ln,La] at h;have⟨p,e,a⟩:=h;simp only[LE] at a;exact⟨p,e,a.1.symm,a.2.symm⟩
 have E:∀ {j:Nat} {k:Value} {ag:Bool} {ds:List D} {p:K × V},es[j]? =some p->(A7 kv false enc es)[j]? =some (k,ag,ds)->k=kv p.1/\ag=false/\ds=enc p.2:=fun{j k ag ds p} e a=>by
  simp only[A7,Ln,e,LT,Lg,LE] at a;exact⟨a.1.symm,a.2.1.symm,a.2.2.symm⟩
 refine .mo h (by simp[A7,Aa]) (fun j k v F ag ds e a=> ?_) fun j k v F ag ds i x d e a l o=> ?_
 ·obtain⟨p,t,rfl,rfl⟩:=C e;obtain⟨rfl,rfl,rfl⟩:=E t a;have⟨x,w,z,_⟩:=A p.2;rw[w,z];exact⟨rfl,rfl,rfl,fun _=>rfl⟩
 obtain⟨p,t,rfl,rfl⟩:=C e;obtain⟨rfl,rfl,rfl⟩:=E t a;have⟨y,w,z,G⟩:=A p.2;rw[w] at l;rw[z] at o;cases i with
 |zero=>
  simp only[HC,Nc,Lg] at l o;subst l;subst o;exact .one G (by simp)
 |succ i=>simp[HC] at l
end
end
end Go.Proofs.YtnmkbmefohakmaaGreat.Ab
