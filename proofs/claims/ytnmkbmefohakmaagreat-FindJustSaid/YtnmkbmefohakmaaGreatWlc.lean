/-
 Ways of several rows, as one row: slices.Concat, and what it grows.
-/
import Derived.Test.YtnmkbmefohakmaaGreatLtx
set_option linter.all false
namespace Go.Proofs.YtnmkbmefohakmaaGreat.Ab
open Go.RowKit IntKind
theorem wr {x:Int}(c: -9223372036854775808<=x)(d:x<9223372036854775808):i64.wrap x=x:=IntWalk.i64_in _ (by omega)
variable {a f k n:Nat}{s:ByteArray}{x:Au}{α:Type}{xs:List α}
theorem Jz (h:k<9223372036854775807:=by omega):i64.wrap ((k:Int)+1)=((k+1:Nat):Int):=Su (by omega)
theorem Dx {b:Nat}(h:a<b:=by omega):decide ((a:Int)<(b:Int))=true:=by simp;omega
theorem Cw {b:Nat}(h:b<=a:=by omega):decide ((a:Int)<(b:Int))=false:=by simp;omega
theorem xO (t:Int):i64.wrap (an t 255:Int)=(an t 255:Nat):=Xp _ _ (by decide)
theorem CB (h:k<xs.length):idx xs (k:Int)=some xs[k]:=by rw[Mw,Le h]
theorem C6 {c:List α}(h:xs.length+c.length<=4294967296):Cu xs c=some (xs++c):=if_pos h
theorem IZ {b:Nat}(c:a<=b)(d:b<=xs.length):Fd xs (a:Int) (b:Int)=some ((xs.take b).drop a):=by
 unfold Fd;rw[if_pos ⟨by omega,by omega,by omega⟩];rfl
theorem ck (s:ByteArray)(i:Nat):s[i]? =s.data.toList[i]? :=by
 simp[getElem?_def,ByteArray.getElem_eq_getElem_data,ByteArray.size_data]
theorem cD_ (s:ByteArray):s.data.toList.length=s.size:=by simp
theorem PU (h:k<s.size):EL s (k:Int)=some ((s.data.toList[k]'(by rw[cD_];exact h)).toNat:Int):=by
 unfold EL;rw[ifp,Li,ck,Le (by rw[cD_];exact h)];rfl
theorem Vu {b:Nat}(c:a<=b)(d:b<=s.size):IR s (a:Int) (b:Int)=some (s.extract a b):=by
 unfold IR;rw[if_pos ⟨by omega,by omega,by omega⟩];rfl
theorem cl {a b:ByteArray}(h:a.size+b.size<=maxLen):Ek a b=some (a++b):=if_pos h
theorem me {α:Type}{L:Nat->Int->Option (Unit ⊕ Int)}{xs:List α}{P:α->Option Bool}(p:α->Bool)(e:∀c i,L (c+1) i=if decide (i<(xs.length:Int)) then(idx xs i).bind fun x=>(P x).bind fun b=>if b then some (.inr i) else L c (i64.wrap (i+1)) else some (.inl ()))
  (g:∀x∈xs,P x=some (p x)) (m:xs.length<4611686018427387904):∀(c j:Nat),j<=xs.length->xs.length-j<c->∃r,L c (j:Int)=some r/\(((xs.drop j).any p=true/\∃k:Nat,r= .inr (k:Int))\/((xs.drop j).any p=false/\r= .inl ()))
 |0,_,_,h=>by omega
 |c+1,j,u,v=>by
  rw[e];by_cases d:j<xs.length
  ·rw[Dx d,if_pos rfl,CB d,LR,g _ (LN d),LR,Lj d];cases l:p xs[j] with
   |true=>exact⟨_,if_pos rfl,.inl ⟨by rw[BV,l,BO],j,rfl⟩⟩
   |false=>
    rw[if_neg (by decide),Jz];have⟨r,o,q⟩:=me p e g m c (j+1) (by omega) (by omega);exact⟨r,o,by rw[BV,l,NE];exact q⟩
  rw[Cw,if_neg (by decide),Nf (by omega)];exact⟨_,rfl,.inr ⟨rfl,rfl⟩⟩
theorem mf {α:Type}[DecidableEq α]{L:Nat->Int->Option (Unit ⊕ Bool)}{xs d:List α}{E:α->α->Bool}(l:∀x y,E x y=decide (x=y))(m:∀c i,L (c+1) i=if decide (i<(xs.length:Int)) then(idx xs i).bind fun x=>(idx d i).bind fun y=>if E x y then L c (i64.wrap (i+1)) else some (.inr false) else some (.inl ()))
  (o:xs.length=d.length) (p:xs.length<4611686018427387904):∀(c j:Nat),j<=xs.length->xs.length-j<c->L c (j:Int)=some (if xs.drop j=d.drop j then .inl () else .inr false)
 |0,_,_,h=>by omega
 |c+1,j,q,r=>by
  rw[m];by_cases g:j<xs.length
  ·rw[Dx g,if_pos rfl,CB g,LR,CB (by omega),LR,l,Lj g,Lj (show j<d.length by omega)];by_cases e:xs[j]=d[j]
   ·rw[decide_eq_true e,if_pos rfl,Jz,mf l m o p c (j+1) (by omega) (by omega)];simp only[List.cons.injEq,e,true_and]
   rw[decide_eq_false e,if_neg (by decide),if_neg fun h=>e (List.cons.inj h).1]
  rw[Cw,if_neg (by decide),Nf (by omega),Nf (by omega),if_pos rfl]
theorem mh {α:Type}(O:Lin α){L:Nat->List α × Int × Int->Option (List α)}{a b:List α}
  (v:∀c t i k,L (c+1) (t,i,k)=
   (((if decide (i<(a.length:Int)) then some (t,true) else some (t,decide (k<(b.length:Int)))):Option (List α × Bool)).bind fun q=>
   (if q.2 then
    (((if k==(b.length:Int) then some (q.1,true) else(if decide (i<(a.length:Int)) then(idx a i).bind fun x=>(idx b k).bind fun y=>some (q.1,O.lt x y) else some (q.1,false))):Option (List α × Bool)).bind fun w=>
    (if w.2 then(idx a i).bind fun x=>(Cu w.1 [x]).bind fun l=>L c (l,i64.wrap (i+1),k)
    else(if i==(a.length:Int) then(idx b k).bind fun y=>(Cu w.1 [y]).bind fun l=>L c (l,i,i64.wrap (k+1))
     else(idx b k).bind fun y=>(idx a i).bind fun x=>(if O.lt y x then(Cu w.1 [y]).bind fun l=>L c (l,i,i64.wrap (k+1)) else L c (w.1,i64.wrap (i+1),k)))))
   else some q.1)))
  :∀(c:Nat) (t:List α) (i k:Nat),i<=a.length->k<=b.length->(a.length-i)+(b.length-k)<c->t.length+(a.length-i)+(b.length-k)<=4294967296->a.length<4611686018427387904->b.length<4611686018427387904->
   L c (t,(i:Int),(k:Int))=some (t++O.mg (a.drop i) (b.drop k))
 |0,_,_,_,_,_,h,_,_,_=>by omega
 |c+1,t,i,k,z,p,B,C,g,j=>by
  have m:=mh O v c;rw[v];by_cases e:i<a.length
  ·rw[Dx e,if_pos rfl,LR,if_pos rfl];by_cases d:k<b.length
   ·have o:((k:Int)==(b.length:Int))=false:=(by simp;omega);rw[o,if_neg (by decide),if_pos rfl,CB e,LR,CB d,LR,LR];cases r:O.lt a[i] b[k] with
    |true=>
     dsimp only;rw[if_pos rfl,LR,C6 (by simp;omega),LR,Jz,m _ _ _ (by omega) p (by omega) (by simp;omega) g j,O.step_left (Le e) (.inr ⟨_,Le d,r⟩)];simp
    |false=>
     have u:((i:Int)==(a.length:Int))=false:=(by simp;omega);dsimp only;rw[if_neg (by decide),u,if_neg (by decide),LR,LR];cases A:O.lt b[k] a[i] with
     |true=>
      rw[if_pos rfl,C6 (by simp;omega),LR,Jz,m _ _ _ z (by omega) (by omega) (by simp;omega) g j,O.step_right (Le d) (.inr ⟨_,Le e,r,A⟩)];simp
     |false=>
      rw[if_neg (by decide),Jz,m _ _ _ (by omega) p (by omega) (by omega) g j,O.step_both (Le e) (Le d) r A]
   have o:((k:Int)==(b.length:Int))=true:=(by simp;omega);rw[o,if_pos rfl,LR,if_pos rfl,CB e,LR,C6 (by simp;omega),LR,Jz,m _ _ _ (by omega) p (by omega) (by simp;omega) g j,O.step_left (Le e) (.inl (by omega))];simp
  rw[Cw,if_neg (by decide),LR];by_cases d:k<b.length
  ·have o:((k:Int)==(b.length:Int))=false:=(by simp;omega);have u:((i:Int)==(a.length:Int))=true:=(by simp;omega);dsimp only;rw[Dx d,if_pos rfl,o,if_neg (by decide),if_neg (by decide),LR];dsimp only;rw[if_neg (by decide),u,if_pos rfl,CB d,LR,C6 (by simp;omega),LR,Jz,m _ _ _ z (by omega) (by omega) (by simp;omega) g j,O.step_right (Le d) (.inl (by omega))];simp
  dsimp only;rw[Cw,if_neg (by decide),Nf (by omega),Nf (by omega),O.nil_mg,Ns]
theorem I0 (O:Lin α)(l:List α):(O.ofL l).length<=l.length:=by
 have c:∀(x:α) (l:List α),(O.ins x l).length<=l.length+1:=fun x l=>by
  induction l with
  |nil=>simp[Lin.ins]
  |cons y r d=>
   simp only[Lin.ins];split
   ·simp
   split
   ·simp;omega
   simp
 induction l with
 |nil=>simp[Lin.ofL]
 |cons x r d=>
  have:=c x (O.ofL r);have e:O.ofL (x::r)=O.ins x (O.ofL r):=rfl;rw[e,Ll];omega
theorem xP (O:Lin α){l:List α}(h:l.length<2):O.ofL l=l:=by
 match l,h with
 |[],_=>rfl
 |[x],_=>rfl
theorem V3 {c:Type}{X:Option α}{F:α->Option c}{P:c->Prop}(Q:α->Prop)(h:∃q,X=some q/\Q q)(k:∀q,Q q->∃r,F q=some r/\P r):∃r,X.bind F=some r/\P r:=by
 grind
theorem cz (n:Nat)(c:Int):∃b,RF n c=some b:=by
 unfold RF;split
 ·split
  ·exact⟨_,rfl⟩
  split
  ·split
   ·exact⟨_,rfl⟩
   exact⟨_,rfl⟩
  exact⟨_,rfl⟩
 split
 ·split
  ·exact⟨_,rfl⟩
  exact⟨_,rfl⟩
 exact⟨_,rfl⟩
theorem nN {n:Nat}{s:ByteArray}(d:s.size<4611686018427387900):∀(c i:Nat),s.size-i<c->∃r,Yl n s c (i:Int)=some r
 |0,_,h=>absurd h (LZ _)
 |c+1,i,g=>by
  unfold Yl;by_cases h:i<s.size
  ·rw[if_pos DB,PU h,Zo];have⟨b,e⟩:=cz n ((s.data.toList[i]'(by rw[cD_];exact h)).toNat:Int);rw[e,Zo];cases b with
   |true=>
    rw[if_pos rfl,Ar];exact nN d c (i+1) (by omega)
   |false=>exact⟨_,rfl⟩
  rw[if_neg (by rw[decide_eq_true_eq];omega)];exact⟨_,rfl⟩
theorem xc (c:s.size<4611686018427387900)(d:s.size<n):∃b,MO n s=some b:=by
 unfold MO;have⟨r,e⟩:=nN (n:=n) c n 0 (by omega);rw[show(0:Int)=((0:Nat):Int) from rfl,e,Zo];cases r with
 |inr r=>exact⟨_,rfl⟩
 |inl u=>
  dsimp only;by_cases h:1<=(s.size:Int)
  ·rw[if_pos (decide_eq_true h)];split
   ·rw[PU (by omega),Zo];split
    ·exact⟨_,rfl⟩
    exact⟨_,rfl⟩
   exact⟨_,rfl⟩
  rw[if_neg (by rw[decide_eq_true_eq];exact h)];exact⟨_,rfl⟩
theorem nO {n:Nat}{s:ByteArray}{ch:Int}(d:s.size<4611686018427387900):∀(c i:Nat),s.size-i<c->∃r,vX_ n s ch c (i:Int)=some r
 |0,_,h=>absurd h (LZ _)
 |c+1,i,e=>by
  unfold vX_;by_cases h:i<s.size
  ·rw[if_pos DB,PU h,Zo];split
   ·exact⟨_,rfl⟩
   rw[Ar];exact nO d c (i+1) (by omega)
  rw[if_neg (by rw[decide_eq_true_eq];omega)];exact⟨_,rfl⟩
theorem nP {n:Nat}{s:ByteArray}(d:s.size<4611686018427387900):∀(c i:Nat),s.size-i<c->i<=s.size->∃r,Yj n s c (i:Int)=some r/\∃j:Nat,r=j/\i<=j/\j<=s.size
 |0,_,h,_=>absurd h (LZ _)
 |c+1,i,m,o=>by
  unfold Yj;by_cases h:i<s.size
  ·rw[if_pos DB,PU h,Zo];split
   ·rw[Ar];have⟨r,e,j,g,p,l⟩:=nP (n:=n) d c (i+1) (by omega) (by omega);exact⟨r,e,j,g,by omega,l⟩
   grind
  grind
theorem nQ {n:Nat}{s:ByteArray}(d:s.size<4611686018427387900):∀(c i:Nat),s.size-i<c->i<=s.size->∃r,Yk n s c (i:Int)=some r/\∃j:Nat,r=j/\i<=j/\j<=s.size
 |0,_,h,_=>absurd h (LZ _)
 |c+1,i,o,p=>by
  unfold Yk;by_cases h:i<s.size
  ·rw[if_pos DB,PU h,Zo];have⟨b,g⟩:=cz n ((s.data.toList[i]'(by rw[cD_];exact h)).toNat:Int);rw[g,Zo];cases b with
   |true=>
    rw[if_pos rfl,Ar];have⟨r,e,j,l,q,m⟩:=nQ (n:=n) d c (i+1) (by omega) (by omega);exact⟨r,e,j,l,by omega,m⟩
   |false=>grind
  grind
def V4 (k:Nat)(l:List C5):Prop:=l.length<=k/\∀t∈l,t.text.size<=k
theorem HH {P:α->Prop}{b:Bool}{x y:Option α}(c:b=true->∃r,x=some r/\P r)(d:b=false->∃r,y=some r/\P r):∃r,(if b=true then x else y)=some r/\P r:=by
 cases b with
 |true=>exact c rfl
 |false=>exact d rfl
theorem c8 {n:Nat}{s:ByteArray}(p:s.size<=100000)(w:s.size+20<n):∀(c i:Nat) (l:List C5),i<=s.size->l.length<=i->(∀t∈l,t.text.size<=s.size)->s.size-i<c->∃r,Vs n s c (l,(i:Int))=some r/\(match r with | .inl l=>V4 s.size l | .inr x=>x.1= [])
 |0,_,_,_,_,_,h=>absurd h (LZ _)
 |c+1,i,l,H,I,y,J=>by
  unfold Vs;refine HH (fun h=> ?_) (fun h=>⟨_,rfl,by omega,y⟩);rw[decide_eq_true_eq] at h;have z:i<s.size:=by omega
  rw[PU z,Zo];obtain⟨g,B⟩:∃g:Int,g=((s.data.toList[i]'(by rw[cD_];exact z)).toNat:Int):=⟨_,rfl⟩;rw[<-B];have C:i64.wrap ((i:Int)+1)=((i+1:Nat):Int):=Ar;rw[C];refine V3 (fun q=>match q with | .inl v=>∃j:Nat,v.1=(j:Int)/\i<j/\j<=s.size | .inr x=>x.1= []) ?_ ?_
  ·refine V3 (fun _=>True) ?_ fun b _=> ?_
   ·refine HH (fun _=>⟨_,rfl,trivial⟩) fun _=>HH (fun _=>⟨_,rfl,trivial⟩) fun _=>HH (fun _=>⟨_,rfl,trivial⟩) fun _=>⟨_,rfl,trivial⟩
   refine HH (fun _=>⟨_,rfl,i+1,rfl,by omega,by omega⟩) fun _=> ?_;refine V3 (fun _=>True) ?_ fun K _=> ?_
   ·refine HH (fun _=>HH (fun d=> ?_) fun _=>⟨_,rfl,trivial⟩) fun _=>⟨_,rfl,trivial⟩;rw[decide_eq_true_eq] at d;rw[PU (by omega),Zo];exact⟨_,rfl,trivial⟩
   refine HH (fun _=> ?_) fun _=> ?_
   ·have⟨r,e,j,m,d,o⟩:=nP (n:=n) (s:=s) (by omega) n (i+1) (by omega) (by omega);rw[e,Zo];exact⟨_,rfl,j,m,by omega,o⟩
   have⟨M,E⟩:=cz n g;rw[E,Zo];refine HH (fun _=> ?_) fun _=> ?_
   ·have⟨r,e,j,m,d,o⟩:=nQ (n:=n) (s:=s) (by omega) n (i+1) (by omega) (by omega);rw[e,Zo];exact⟨_,rfl,j,m,by omega,o⟩
   refine V3 (fun A=>A=true->i+1<s.size) ?_ fun A F=> ?_
   ·refine HH (fun _=>HH (fun d=> ?_) fun _=>⟨_,rfl,fun h=>by cases h⟩) fun _=>⟨_,rfl,fun h=>by cases h⟩;rw[decide_eq_true_eq] at d;rw[PU (by omega),Zo];exact⟨_,rfl,fun _=>by omega⟩
   refine HH (fun G=> ?_) fun _=> ?_
   ·have N:=F G;rw[Ar];exact⟨_,rfl,i+1+1,rfl,by omega,by omega⟩
   unfold Yi;have⟨r,e⟩:=nO (n:=n) (s:={ data:= #[123,125,58,59,124,35,61,43,45,38,40,41] }) (ch:=g) (by decide) n 0 (by show 12-0<n;omega);rw[show(0:Int)=((0:Nat):Int) from rfl,e,Zo];cases r with
   |inl u=>
    rw[Zo];exact⟨_,rfl,rfl⟩
   |inr u=>
    rw[Zo];exact HH (fun _=>⟨_,rfl,rfl⟩) fun _=>⟨_,rfl,i+1,rfl,by omega,by omega⟩
  rintro(⟨v,k⟩ |x) hq
  ·obtain⟨j,rfl,m,d⟩:=hq;dsimp only;refine HH (fun _=> ?_) fun _=> ?_
   ·rw[Vu (by omega) d,Zo,Cu,if_pos (by rw[Lo];omega),Zo];refine c8 p w c j _ d (by grind) (fun t O=> ?_) (by omega);grind [List.mem_singleton,ByteArray.size_extract]
   exact c8 p w c j l d (by omega) y (by omega)
  exact⟨_,rfl,hq⟩
theorem xd (s:ByteArray)(n:Nat)(d:s.size+100<=n):∃r,Vt n s=some r/\V4 100000 r.1:=by
 unfold Vt;refine HH (fun _=>⟨_,rfl,Lf _,fun t h=>by cases h⟩) fun h=> ?_;rw[decide_eq_false_iff_not] at h;refine V3 _ (c8 (n:=n) (s:=s) (by omega) (by omega) n 0 [] (by omega) (by exact Lc _) (fun t h=>by cases h) (by omega)) ?_;rintro(l |x) hq
 ·exact⟨_,rfl,Lq hq.1 (by omega),fun t c=>Lq (hq.2 t c) (by omega)⟩
 refine⟨_,rfl,?_⟩;rw[show x.1= [] from hq];exact⟨Lf _,fun t h=>by cases h⟩
def bType:ByteArray:={ data:= #[116,121,112,101] }
def tyM (x:Au):Au:=
 if x.e==0 then(match x.l[x.p]? with
  |some t=>if t.kind==1 then(if t.text.toList==bType.toList then x else xe_ x 9) else xe_ x 9
  |none=>xe_ x 9) else x
def Pd (n c f:Nat)(x:Au):Option (Au × AG):=(vJ_ n { tyM x with p:=(tyM x).p+1 }).bind fun r=>(if r.1.e==0&&isM r.1 nM then(JV n c f c { r.1 with p:=r.1.p+1 } []).map fun q=>(EE q.1 RL,q.2) else some (r.1,[])).bind fun q=>some (q.1,⟨r.2,q.2⟩)
def J0 (n c f:Nat):Nat->Au->List AG->Option (Au × List AG)
 |0,_,_=>none
 |k+1,x,d=>if EO x/\x.deep=0/\d.length<=201 then (if x.e==0&&decide (x.p<x.l.length) then(Pd n c f (if d.length=200 then xe_ x 8 else x)).bind fun r=>J0 n c f k r.1 (d++[r.2]) else some (x,d)) else none
def Pe (n c f:Nat)(s:ByteArray):Option (List AG × Int × Int):=(Vt n s).bind fun t=>if t.2.2==0 then(J0 n c f c ⟨t.1,0,(s.size:Int),0,0,0,[],0⟩ []).bind fun r=>if r.1.e==0 then some (r.2,0,0) else some ([],r.1.bad,r.1.e) else some ([],t.2.1,t.2.2)
section
variable {n:Nat}{L:List C5}(hT:∀t∈L,∃b,MO n t.text=some b)
theorem RM (w:EO x):Kp x (tyM x)/\(tyM x).p=x.p:=by
 have c:=Kp.fail w 9;have e:Kp x x:=⟨rfl,Lc _,w.2.1,w.2.2.1,rfl,id⟩;have d:(xe_ x 9).p=x.p:=(Hd x 9).2.2.2;unfold tyM;split
 ·split
  ·split
   ·split
    ·exact⟨e,rfl⟩
    exact⟨c,d⟩
   exact⟨c,d⟩
  exact⟨c,d⟩
 exact⟨e,rfl⟩
include hT in
theorem nR {c:Nat}(G:L.length+1<c)(v:20<f)(l:x.l=L)(w:EO x)(z:x.deep=0)(hp:x.p<x.l.length):∃y,Pd n c f x=some y/\Kp x y.1/\x.p<y.1.p:=by
 unfold Pd;have⟨e,A⟩:=RM w;have m:=e.w w;have o:=Kp.one m (by rw[e.l,A];exact hp);have B:=o.w m;have⟨r,C,q⟩:=TQ hT (x:={ tyM x with p:=(tyM x).p+1 }) (e.l.trans l) B;have d:=e.trans (o.trans q);have g:=d.w w;have H:x.p+1<=r.1.p:=by have:(tyM x).p+1<=r.1.p:=q.p;omega
 rw[C,Zo];split
 ·rename_i h;rw[Lm] at h;have E:=F9 h.2;have i:=Kp.one g E;have⟨y,F,j⟩:=cy hT (c:=c) (f:=f) (by omega) v c { r.1 with p:=r.1.p+1 } [] (d.l.trans l) (i.w g) (d.d.trans z) (Lf _) (by split<;>omega);have u:=Kp.want (j.w (i.w g)) RL;have I:r.1.p+1<=y.1.p:=j.p;have J:=u.p;rw[F];exact⟨_,rfl,d.trans (i.trans (j.trans u)),by show x.p<(EE y.1 RL).p;omega⟩
 exact⟨_,rfl,d,by show x.p<r.1.p;omega⟩
include hT in
theorem dA {c f:Nat}(m:L.length+1<c)(o:20<f):∀(k:Nat) (x:Au) (i:List AG),x.l=L->EO x->x.deep=0->i.length<=201->((x.e==0)=true->i.length<=200)->L.length-x.p<k->∃y,J0 n c f k x i=some y
 |0,_,_,_,_,_,_,_,h=>absurd h (LZ _)
 |k+1,x,i,j,w,l,r,u,C=>by
  unfold J0;rw[if_pos ⟨w,l,r⟩];split
  ·rename_i h;rw[Lm,decide_eq_true_eq] at h;have E:=u h.1;have v:=h.2;rw[j] at v;by_cases q:i.length=200
   ·rw[if_pos q];have z:=V2 (c:=8) h.1 rfl;have e:=Kp.fail w 8;have A:(xe_ x 8).p=x.p:=(Hd x 8).2.2.2;have⟨y,p,d,B⟩:=nR hT m o (x:=xe_ x 8) (e.l.trans j) (e.w w) (e.d.trans l) (by rw[e.l,A];exact h.2);rw[p,Zo];refine dA m o k _ _ (d.l.trans (e.l.trans j)) (d.w (e.w w)) (d.d.trans (e.d.trans l)) (by rw[Ld,Lo];omega) (fun g=> ?_) (by omega)
    have:=d.e z;rw[g] at this;cases this
   rw[if_neg q];have⟨y,p,d,B⟩:=nR hT m o (x:=x) j w l h.2;rw[p,Zo];exact dA m o k _ _ (d.l.trans j) (d.w w) (d.d.trans l) (by rw[Ld,Lo];omega) (fun _=>by rw[Ld,Lo];omega) (by omega)
  exact⟨_,rfl⟩
end
def Kc (ex:List AX):Prop:=∀x∈ex,x.kind=1\/x.kind=2\/x.kind=3\/x.kind=4\/x.kind=5
theorem Yn:Kc []:=by intro _ h;cases h
theorem V1 (x:Au)(c:Int):(xe_ x c).out=x.out:=by unfold xe_;split<;>rfl
theorem nB (x:Au)(t:ByteArray):(EE x t).out=x.out:=by
 unfold EE;split
 ·split
  ·rfl
  exact V1 _ _
 rfl
theorem Yo {r:Au × ByteArray}(h:vJ_ n x=some r):r.1.out=x.out:=by
 unfold vJ_ at h;split at h
 ·split at h
  ·split at h
   ·have⟨b,_,h⟩:=AP h;split at h
    ·cases h;rfl
    cases h;exact V1 _ _
   cases h;exact V1 _ _
  cases h;exact V1 _ _
 cases h;rfl
theorem Yp {s:AX}{a:Int}(d:Kc x.out)(e:s.kind=1\/s.kind=2\/s.kind=3\/s.kind=4\/s.kind=5):Kc (EF x s a).out:=by
 unfold EF;split
 ·split
  ·exact d
  intro y c;rcases Lw.1 c with c |c
  ·exact d y c
  grind
 exact d
def Pb (g:Au->Option Au):Prop:=∀x y,g x=some y->Kc x.out->Kc y.out
theorem Pc {ex:Au->Option Au}(e:Pb ex):Pb (FV n ex):=by
 intro x y h c;unfold FV at h;split at h;rotate_left
 ·cases h
 split at h
 ·split at h
  ·cases h;rw[V1];exact c
  have⟨z,d,h⟩:=AP h;split at h
  ·cases h;show Kc (EE z MP).out;rw[nB];exact e _ _ d c
  cases h
 have⟨r,d,h⟩:=AP h;have g:=Yo d;split at h
 ·have⟨s,i,h⟩:=AP h;have j:=Yo i;cases h;exact Yp (by grind) (.inr (.inl rfl))
 cases h;exact Yp (by rw[g];exact c) (.inl rfl)
theorem nC {n:Nat}{ex:Au->Option Au}(d:Pb ex):∀c,Pb (JT n ex c)
 |0,_,_,h,_=>by cases h
 |c+1,x,y,h,e=>by
  unfold JT at h;split at h
  ·split at h
   ·have⟨z,g,h⟩:=AP h;split at h
    ·exact nC d c _ _ h (Yp (Pc d _ _ g e) (.inr (.inr (.inr (.inr rfl)))))
    cases h
   cases h;exact e
  cases h
theorem nD {d:Au->Option Au}(e:Pb d):∀c,Pb (JU d c)
 |0,_,_,h,_=>by cases h
 |c+1,x,y,h,g=>by
  unfold JU at h;split at h
  ·split at h
   ·have⟨z,i,h⟩:=AP h;split at h
    ·refine nD e c _ _ h (Yp (e _ _ i g) ?_);grind
    cases h
   cases h;exact g
  cases h
theorem cv {n c:Nat}:∀f,Pb (Gg n c f)
 |0,_,_,h,_=>by cases h
 |f+1,x,y,h,g=>by
  have d:Pb (Hg n (Gg n c f) c):=fun a b e i=>by
   unfold Hg at e;have⟨z,j,e⟩:=AP e;exact nC (cv f) c _ _ e (Pc (cv f) _ _ j i)
  unfold Gg at h;have⟨z,l,h⟩:=AP h;exact nD d c _ _ h (d _ _ l g)
def FC (g:AZ):Prop:=g.subs.length<=51/\g.expr.length<=200/\(g.subs= []\/g.expr= [])/\(∀s∈g.subs,s.id_=ByteArray.empty)/\Kc g.expr
def Ed (l:List AG):Prop:=l.length<=201/\∀t∈l,t.rels.length<=200/\∀g∈t.rels,FC g
theorem nE {n:Nat}:∀(c:Nat) {x:Au} {ss:List AL} {y:Au × List AL},(∀s∈ss,s.id_=ByteArray.empty)->I6 n c x ss=some y->y.2.length<=51/\∀s∈y.2,s.id_=ByteArray.empty
 |0,_,_,_,_,h=>by cases h
 |c+1,x,ss,y,hi,h=>by
  have hi2:∀a b:ByteArray,∀s∈ss++[⟨a,ByteArray.empty,b⟩],s.id_=ByteArray.empty:=fun a b s hs=>by
   grind
  unfold I6 at h;split at h;rotate_left
  ·cases h
  rename_i hg;split at h
  ·have⟨r1,_,h⟩:=AP h;have⟨r2,_,h⟩:=AP h;split at h
   ·exact nE c (hi2 _ _) h
   grind
  grind
theorem RK {n c f:Nat}{x:Au}{y:Au × AZ}(h:FW n c f x=some y):FC y.2:=by
 unfold FW at h;split at h;rotate_left
 ·cases h
 obtain⟨r,_,h⟩:=AP h;split at h
 ·obtain⟨z,hz1,h⟩:=AP h;split at h
  ·rename_i hz;cases h;exact⟨Lf _,hz.2.2.1,.inl rfl,(by intro _ h;cases h),cv f _ _ hz1 Yn⟩
  cases h
 obtain⟨p,h2,rfl⟩:=La.1 h;obtain⟨q1,q2⟩:=nE c (ss:=[]) (by intro _ h;cases h) h2;exact⟨q1,Lf _,.inr rfl,q2,Yn⟩
theorem cw {n c f:Nat}:∀(k:Nat) {x:Au} {d:List AZ} {y:Au × List AZ},(∀g∈d,FC g)->JV n c f k x d=some y->y.2.length<=200/\∀g∈y.2,FC g
 |0,_,_,_,_,h=>by cases h
 |k+1,x,d,y,e,h=>by
  unfold JV at h;split at h;rotate_left
  ·cases h
  rename_i i;split at h
  ·split at h
   ·exact cw k e h
   have⟨p,j,h⟩:=AP h;refine cw k (fun g l=> ?_) h;grind [List.mem_singleton,RK]
  cases h;exact⟨i.2.2,e⟩
theorem xW {c:Nat}{y:Au × AG}(h:Pd n c f x=some y):y.2.rels.length<=200/\∀g∈y.2.rels,FC g:=by
 unfold Pd at h;have⟨r,_,h⟩:=AP h;have⟨q,d,h⟩:=AP h;cases h;split at d
 ·obtain⟨p,e,rfl⟩:=La.1 d;exact cw c (fun _ i=>by cases i) e
 grind
theorem nF {n c f:Nat}:∀(k:Nat) {x:Au} {d:List AG} {y:Au × List AG},(∀t∈d,t.rels.length<=200/\∀g∈t.rels,FC g)->J0 n c f k x d=some y->Ed y.2
 |0,_,_,_,_,h=>by cases h
 |k+1,x,d,y,e,h=>by
  unfold J0 at h;split at h;rotate_left
  ·cases h
  rename_i i;split at h
  ·have⟨p,j,h⟩:=AP h;refine nF k (fun g l=> ?_) h;grind [List.mem_singleton,xW]
  cases h;exact⟨i.2.2,e⟩
theorem xX {c:Nat}{y:List AG × Int × Int}(h:Pe n c f s=some y):Ed y.1:=by
 unfold Pe at h;have⟨t,_,h⟩:=AP h;split at h
 ·have⟨r,e,h⟩:=AP h;have g:=nF c (fun _ d=>by cases d) e;split at h
  ·cases h;exact g
  cases h;exact⟨Lf _,fun _ d=>by cases d⟩
 cases h;exact⟨Lf _,fun _ d=>by cases d⟩
def MS (n:Nat)(s:ByteArray):Option (List AG):=(Pe n n n s).map (·.1)
theorem nG (s:ByteArray)(n:Nat)(m:s.size+100200<=n):∃l,MS n s=some l/\Ed l:=by
 have⟨t,e,o,d⟩:=xd s n (by omega);have i:∃y,Pe n n n s=some y:=by
  unfold Pe;rw[e,Zo];split
  ·have⟨r,j⟩:=dA (n:=n) (L:=t.1) (fun u g=>xc (by have:=d u g;omega) (by have:=d u g;omega)) (c:=n) (f:=n) (by omega) (by omega) n ⟨t.1,0,(s.size:Int),0,0,0,[],0⟩ [] rfl ⟨by show t.1.length<_;omega,Lf _,Lf _,Lf _⟩ rfl (Lf _) (fun _=>Lf _) (by show t.1.length-0<_;omega);rw[j,Zo];split
   ·exact⟨_,rfl⟩
   exact⟨_,rfl⟩
  exact⟨_,rfl⟩
 have⟨y,h⟩:=i;exact⟨y.1,by unfold MS;rw[h];rfl,xX h⟩
structure AN where
 to:AA
 taken:Int
 deriving DecidableEq,Inhabited
abbrev AH (x:AN):List D:=[D.v (.string x.to.typ),D.v (.string x.to.rel),D.v (.int .i64 x.taken)]
theorem pi {hp:Hp}{nx:Nat}(g:k<=4294967296):AT Tryz.prog 182 [.v (.slice none 0 0),.v (.int .i64 (k:Int))] hp nx fun v i j=>nx<=j/\(k=0->v= .v (.slice none 0 0)/\i=hp)/\(0<k->∃id p,nx<=id/\id<j/\v= .so id 0 0 0/\i=upd id (some (.rw p 3 0 false false)) hp):=by
 refine zq Tryz.func182 ?_;refine Ax ?_;refine AU (AU ?_);refine ZT 1 ?_;have q:(decide ((k:Int)<0))=false:=DE;refine Z1 q ?_;refine DI (c:=false) rfl rfl ?_;refine AQ ?_;refine AU (ZT 1 ?_);have l:i64.wrap ((k:Int)-0)=(k:Int):=by rw[Int.sub_zero];exact Hl
 have m:i64.wrap (0-0)=0:=by decide
 rcases BG k with d |d
 ·have e:(decide ((0:Int)<(k:Int)))=false:=DE;refine Z1 (Y3 l m e) ?_;refine Ax ?_;refine AQ ?_;exact⟨_,_,rfl,⟨fun _=>.inr rfl⟩,by dsimp only;omega,fun _=>⟨rfl,rfl⟩,fun h=>by omega⟩
 have e:(decide ((0:Int)<(k:Int)))=true:=DB;have r:EY (.v (.int .i64 (k:Int)))=some k:=by rw[CC .i64 (by omega)];simp
 have E:(0<k)=True:=eq_true d;have F:(k<=4294967296)=True:=eq_true g;have u:EY (.v (.int .i64 0))=some 0:=rfl;have w:∀id,Gk tab id 201 3 (.v (.slice none 0 0)) (some k)=some (.so id 0 0 k,[(id,.rw (List.replicate k [.v (.string ByteArray.empty),.v (.string ByteArray.empty),.v (.int .i64 0)]) 3 0 false false)]):=fun id=>by
  have y:(tab 3).kind= .int .i64:=by simp only[go_sem]
  have z:(tab 201).kind= .slice:=by simp only[go_sem]
  have A:(tab (tab 201).elem).ok=true:=by simp only[go_sem]
  have o:(tab (tab 201).elem).size=3:=by simp only[go_sem]
  have B:(tab (tab 201).elem).bytes<=32768:=by simp only[go_sem];decide
  have C:(tab (tab 201).elem).zero.map D.v= [.v (.string ByteArray.empty),.v (.string ByteArray.empty),.v (.int .i64 0)]:=by simp only[go_sem]
  unfold Gk;rw[y];simp only;rw[if_pos ⟨z,A,by rw[o];decide,B,d,g⟩,C,o]
 refine Z1 (Y6 l m e r u w) ?_;refine Ax ?_;refine AQ ?_;exact⟨_,_,rfl,⟨fun _=>.inr rfl⟩,by dsimp only;omega,fun h=>by omega,fun _=>⟨nx+1+2+8+2+5,_,by omega,by dsimp only;omega,rfl,rfl⟩⟩
theorem fS {c:List (List α)}{i:Nat}{x:List α}(h:c[i]? =some x):(c.take (i+1)).flatten=(c.take i).flatten++x:=by
 rw[BJ,h];simp
def Me (d:Nat)(c:List (List AN)):Option (List AN):=if c.length<=1000000/\c.flatten.length<=4294967296 then some c.flatten else none
theorem zO {c:List (List AN)}{r:List AN}(h:Me n c=some r):AM Tryz.prog 167 [D.sl (c.map (eL AH))] (D.sl (r.map AH)) true:=by
 unfold Me at h;split at h;rotate_left
 ·cases h
 rename_i F;have⟨O,G⟩:=F;cases h;refine zP #[.tmp 2] Tryz.func167 ?_;refine Dg ?_;refine Dy ?_;refine Dw (α:=Unit) (fun _=>⟨upd 0 (.d (.sl (c.map (eL AH))) true) (upd 3 (.v (.int .i64 (c.flatten.length:Int))) AJ),AK,0⟩) ?_ ?_
 ·refine CV ?_;refine DV (α:={ i:Nat // i<=c.length }) (fun i=>⟨upd 0 (.d (.sl (c.map (eL AH))) true) (upd 3 (.v (.int .i64 ((c.take i.1).flatten.length:Int))) (upd 9 (.d (.sl (c.map (eL AH))) true) (upd 10 (.v (.int .i64 (c.length:Int))) (upd 11 (.v (.int .i64 (i.1:Int))) AJ)))),AK,0⟩) (fun i=>c.length-i.1) ⟨0,Lf _⟩ ?_ ?_
  ·exact ZR []
  rintro⟨i,o⟩;refine AU (ZT 1 ?_);by_cases e:i<c.length
  ·have d:(decide ((i:Int)<(c.length:Int)))=true:=DB;have g:c[i]? =some c[i]:=Le e;have l:(c.map (eL AH))[i]? =some [D.sl (c[i].map AH)]:=Cz (eL AH) g;have u:(c.take (i+1)).flatten.length=(c.take i).flatten.length+c[i].length:=(by rw[fS g,Ld]);have H:(c.take (i+1)).flatten.length<=c.flatten.length:=by
    conv=>rhs;rw[<-LK (i+1) c]
    rw[BZ,Ld];omega
   refine Ct d ?_;refine DQ ?_;have w:=Y2 l (Y5 (CC .i64 (show(0:Int)<=(i:Int) by omega)) (show((i:Int)).toNat=i from Li _) (show i64.wrap (((c.take i).flatten.length:Int)+(c[i].length:Int))=((c.take (i+1)).flatten.length:Int) by rw[FG (by omega),u]) (show decide ((((c.take (i+1)).flatten.length:Nat):Int)<0)=false from DE) (Ar (n:=i)));refine Z1 w ?_;refine ZT 1 ?_;refine Z1 (Ar (n:=i)) ?_;exact⟨⟨i+1,e⟩,ZR [],by dsimp only;omega⟩
  have d:(decide ((i:Int)<(c.length:Int)))=false:=DE;obtain rfl:i=c.length:=by omega
  rw[Bw];refine Ct d ?_;refine Z0 ?_;exact⟨(),ZR []⟩
 rintro⟨⟩;refine Ax ?_;refine CO ((pi G).mono ?_);rintro v P A ⟨I,B,C⟩;dsimp only at I B C;rcases BG c.flatten.length with m |m
 ·obtain⟨rfl,rfl⟩:=B m;have J:∀x∈c,x= []:=fun x K=>by
   have:=LV m;exact List.flatten_eq_nil_iff.1 this x K
  have M:c.flatten= []:=LV m;refine Z0 ?_;refine Dy ?_;refine Dw (α:=Nat) (fun k=>⟨upd 6 (.v (.slice none 0 0)) AJ,AK,k⟩) ?_ ?_
  ·refine CV ?_;refine DV (α:={ t:Nat × Nat // t.1<=c.length }) (fun t=>⟨upd 6 (.v (.slice none 0 0)) (upd 25 (.d (.sl (c.map (eL AH))) true) (upd 26 (.v (.int .i64 (c.length:Int))) (upd 27 (.v (.int .i64 (t.1.1:Int))) AJ))),AK,t.1.2⟩) (fun t=>c.length-t.1.1) ⟨(0,A+3),Lf _⟩ ?_ ?_
   ·exact CW
   rintro⟨⟨i,E⟩,o⟩;dsimp only at o;refine AU (ZT 1 ?_);by_cases e:i<c.length
   ·have d:(decide ((i:Int)<(c.length:Int)))=true:=DB;have g:c[i]? =some c[i]:=Le e;have l:(c.map (eL AH))[i]? =some [D.sl []]:=by
     have:=Cz (eL AH) g;rw[J _ (LN e)] at this;exact this
    refine Ct d ?_;refine DQ ?_;have w:=Y2 l (Y2 (CC .i64 (show(0:Int)<=(i:Int) by omega)) (show((i:Int)).toNat=i from Li _));refine Z1 w ?_;refine ZT 1 ?_;refine Z1 (Ar (n:=i)) ?_;exact⟨⟨(i+1,_),e⟩,CW,by dsimp only;omega⟩
   have d:(decide ((i:Int)<(c.length:Int)))=false:=DE;refine Ct d ?_;refine Z0 ?_;exact⟨_,CW⟩
  rintro N;refine Ax ?_;refine AQ ?_;rw[M];exact As
 obtain⟨id,u,Q,R,rfl,rfl⟩:=C m;refine Z0 ?_;refine Dy ?_;refine Dw (α:={ t:Nat × List (List D) × Nat // t.2.1.take c.flatten.length=c.flatten.map AH }) (fun t=>⟨upd 6 (.so id t.1.1 0 c.flatten.length) AJ,upd id (some (.rw t.1.2.1 3 t.1.1 false false)) AK,t.1.2.2⟩) ?_ ?_;rotate_left
 ·rintro⟨⟨p,q,N⟩,j⟩;dsimp only at j;refine Ax ?_;refine AQ ?_;refine IQ (v:=.so id p 0 c.flatten.length) (b:=false) (is:=[id]) (by simp -implicitDefEqProofs only[go_sem, ↓reduceIte,At]<;>rfl) ?_ rfl fun _=>rfl;simp only[toR,FJ,Ci,At,if_true,LD];rw[j]
 refine CV ?_;refine DV (α:={ t:Nat × Nat × List (List D) × Nat // t.1<=c.length/\(c.take t.1).flatten.length<=t.2.2.1.length/\t.2.2.1.take (c.take t.1).flatten.length=(c.take t.1).flatten.map AH }) (fun t=>⟨upd 6 (.so id t.1.2.1 0 (c.take t.1.1).flatten.length) (upd 25 (.d (.sl (c.map (eL AH))) true) (upd 26 (.v (.int .i64 (c.length:Int))) (upd 27 (.v (.int .i64 (t.1.1:Int))) AJ))),upd id (some (.rw t.1.2.2.1 3 t.1.2.1 false false)) AK,t.1.2.2.2⟩) (fun t=>c.length-t.1.1) ⟨(0,0,u,A+3),Lf _,Lf _,rfl⟩ ?_ ?_
 ·exact CW
 rintro⟨⟨i,p,q,E⟩,o,y,j⟩;dsimp only at o y j;refine AU (ZT 1 ?_);by_cases e:i<c.length
 ·have d:(decide ((i:Int)<(c.length:Int)))=true:=DB;have g:c[i]? =some c[i]:=Le e;have l:(c.map (eL AH))[i]? =some [D.sl (c[i].map AH)]:=Cz (eL AH) g;have z:(c.take (i+1)).flatten.length=(c.take i).flatten.length+c[i].length:=by rw[fS g,Ld]
  have H:(c.take (i+1)).flatten.length<=c.flatten.length:=by
   conv=>rhs;rw[<-LK (i+1) c]
   rw[BZ,Ld];omega
  refine Ct d ?_;refine DQ ?_;have w:=Y2 l (Y5 (CC .i64 (show(0:Int)<=(i:Int) by omega)) (show((i:Int)).toNat=i from Li _) (show((c.take i).flatten.length<=q.length)=True from eq_true y) (show((c.take (i+1)).flatten.length<=4294967296)=True from Fa) (And.intro z.symm <|And.intro (QR (f:=AH) (fun _=>rfl) c[i]) (show EZ 3 (c[i].map AH)=true by simp[EZ])));refine Z1 w ?_;refine ZT 1 ?_;refine Z1 (Ar (n:=i)) ?_;refine⟨⟨(i+1,p+1,q.take (c.take i).flatten.length++c[i].map AH,E+1+3+4+2),e,?_,?_⟩,GE (EU ..).symm DW,by dsimp only;omega⟩
  ·dsimp only;rw[z,Ld,Lx,Lt];omega
  dsimp only;rw[z,j,fS g,<-LX];exact Nu (by rw[Lt,Ld];exact Lc _)
 have d:(decide ((i:Int)<(c.length:Int)))=false:=DE;obtain rfl:i=c.length:=by omega
 rw[Bw] at y j;refine Z1 (Y2 d (show c.take c.length=c from Bw)) ?_;refine Ax ?_;exact⟨⟨(p,q,_),j⟩,CW⟩
end Go.Proofs.YtnmkbmefohakmaaGreat.Ab
