/-
 The program's structures.
-/
import Derived.Test.YtnmkbmefohakmaaGreatSk9
set_option linter.all false
namespace Go.Proofs.YtnmkbmefohakmaaGreat.Ab
open Go.RowKit IntKind
def FP {α:Type}(a b:Nat):Nat->List α->Nat->Option (List α)
 |0,c,_=>some c
 |k+1,c,i=>(c[b+i]?).bind fun x=>(c[a+i]?).bind fun y=>FP a b k ((c.set (a+i) x).set (b+i) y) (i+1)
def FQ {α:Type}(m:Nat):Nat->List α->Nat->Nat->Option (List α)
 |0,_,_,_=>none
 |f+1,b,i,j=>if i<=m then(if i=j then FP (m-i) m i b 0 else if j<i then(FP (m-i) m j b 0).bind fun c=>FQ m f c (i-j) j else(FP (m-i) (m+j-i) i b 0).bind fun c=>FQ m f c i (j-i)) else none
theorem Uq {α:Type}{a b:Nat}:∀ {k i:Nat} {c d:List α},FP a b k c i=some d->d.length=c.length
 |0,_,_,_,h=>by cases h;rfl
 |k+1,i,c,d,h=>by
  unfold FP at h;have⟨x,_,h⟩:=AL h;have⟨y,_,h⟩:=AL h;rw[Uq h];simp
theorem zX {α:Type}{xs:List α}{i j:Nat}{x y z:α}(b:xs[j]? =some x)(c:xs[i]? =some y)(h:z∈(xs.set i x).set j y):z∈xs:=by
 rcases BA h with h |h
 ·rcases BA h with h |h
  ·exact h
  rw[h];exact Lz b
 rw[h];exact Lz c
theorem aT {α:Type}{a b:Nat}{z:α}:∀ {k i:Nat} {c d:List α},FP a b k c i=some d->z∈d->z∈c
 |0,_,_,_,h=>by cases h;exact id
 |k+1,i,c,d,h=>by
  unfold FP at h;have⟨x,e,h⟩:=AL h;have⟨y,f,h⟩:=AL h;exact fun g=>zX e f (aT h g)
theorem aU {α:Type}{m:Nat}:∀ {f i j:Nat} {b c:List α},FQ m f b i j=some c->c.length=b.length
 |0,_,_,_,_,h=>by cases h
 |f+1,i,j,b,c,h=>by
  unfold FQ at h;split at h
  ·split at h
   ·exact Uq h
   split at h
   ·have⟨e,d,h⟩:=AL h;rw[aU h,Uq d]
   have⟨e,d,h⟩:=AL h;rw[aU h,Uq d]
  cases h
theorem aV {α:Type}{m:Nat}{z:α}:∀ {f i j:Nat} {b c:List α},FQ m f b i j=some c->z∈c->z∈b
 |0,_,_,_,_,h=>by cases h
 |f+1,i,j,b,c,h=>by
  unfold FQ at h;split at h
  ·split at h
   ·exact aT h
   split at h
   ·have⟨g,d,h⟩:=AL h;exact fun e=>aT d (aV h e)
   have⟨g,d,h⟩:=AL h;exact fun e=>aT d (aV h e)
  cases h
variable {a n:Nat}{hp:Hp}{r:List AJ}
theorem FR {b:Nat}(h:a+b<4611686018427387904):i64.wrap ((a:Int)+(b:Int))=((a+b:Nat):Int):=by
 rw[show(a:Int)+(b:Int)=((a+b:Nat):Int) by omega];exact JG h
theorem EA {b:Nat}(c:b<=a)(h:a<4611686018427387904):i64.wrap ((a:Int)-(b:Int))=((a-b:Nat):Int):=by
 rw[show(a:Int)-(b:Int)=((a-b:Nat):Int) by omega];exact JG
section
variable {i ver L:Nat}{br:Bool}
set_option maxRecDepth 4000 in
theorem gC {xs R:List AB}{b nx:Nat}{cmp:AV}(m:hp i=Ca xs ver br)(o:xs.length=L)(E:L<4294967296)(p:FP a b n xs 0=some R):
  AU Tryz.prog 186 [.so i ver 0 L,.v (.int .i64 (a:Int)),.v (.int .i64 (b:Int)),.v (.int .i64 (n:Int)),cmp] hp nx fun v s t=>v= .tu []/\s=upd i (Ca R ver br) hp/\nx<=t:=by
 refine zq Tryz.func186 ?_;refine Ay ?_;refine CS ?_;refine DQ (α:={ x:Nat × List AB × Nat // x.1<=n/\x.1<=L/\nx<=x.2.2/\x.2.1.length=L/\FP a b (n-x.1) x.2.1 x.1=some R })
  (fun x=>⟨upd 0 (.so i ver 0 L) (upd 1 (.v (.int .i64 (a:Int))) (upd 2 (.v (.int .i64 (b:Int))) (upd 3 (.v (.int .i64 (n:Int))) (upd 10 (.v (.int .i64 (x.1.1:Int))) AK)))),upd i (Ca x.1.2.1 ver br) hp,x.1.2.2⟩) (fun x=>n-x.1.1) ⟨(0,xs,nx+1),Lg _,Lg _,by show nx<=nx+1;omega,o,p⟩ ?_ ?_
 ·rw[Fv m];exact CT
 rintro⟨⟨k,d,f⟩,u,w,A,g,c⟩;dsimp only at w u A g c;refine AT (AT ?_);refine ZT 1 ?_;by_cases F:k<n
 ·obtain⟨q,B⟩:∃q,n-k=q+1:=⟨n-k-1,by omega⟩;rw[B] at c;unfold FP at c;have⟨x,j,c⟩:=AL c;have⟨y,l,c⟩:=AL c;have G:=(Lb.1 j).1;have H:=(Lb.1 l).1;have e:(decide ((k:Int)<(n:Int)))=true:=Cp;refine Fb e ?_;refine AT (CS ?_);refine ZT 1 ?_;obtain⟨z,C⟩:∃z:AB,((d.map AH).set (a+k) (AH x))[b+k]? =some (AH z):=by
   rw[<-NK,Lp];cases h:(d.set (a+k) x)[b+k]? with
   |none=>
    rw[OH,NZ] at h;omega
   |some z=>exact⟨z,rfl⟩
  refine Z1 (Y2 (Y6 (FR (a:=a) (b:=k) (by omega)) (FR (a:=b) (b:=k) (by omega)) (Cr AH j) (Cr AH l) C (show(a+k<L)=True from Fu)) (show(b+k<L)=True from Fu)) ?_;refine DF (by rfl) ?_;refine Z0 ?_;refine ZT 1 ?_;refine Z1 (Al (show k+1<_ by omega)) ?_;refine⟨⟨(k+1,(d.set (a+k) x).set (b+k) y,_),by show k+1<=n;omega,by show k+1<=L;omega,?_,by simpa using g,by rw[show n-(k+1)=q by omega];exact c⟩,Gd ?_ DS,by show n-(k+1)<n-k;omega⟩
  ·show nx<=f+3+24+3;omega
  rw[Em,Em];show upd i (some (.rw (((d.set (a+k) x).set (b+k) y).map AH) 3 ver br false)) hp=_;rw[NK,NK]
 have e:(decide ((k:Int)<(n:Int)))=false:=C6;rw[show n-k=0 by omega] at c;cases c;refine Fb e ?_;exact⟨_,_,rfl,⟨fun _=>.inr rfl⟩,rfl,rfl,by show nx<=f+3;omega⟩
set_option maxRecDepth 4000 in
theorem Sw {xs R:List AB}{m b f nx:Nat}{cmp:AV}(B:hp i=Ca xs ver br)(C:xs.length=L)(k:L<4294967296)(E:a<=m)(F:m<=b)(K:b<=L)(G:FQ m f xs (m-a) (b-m)=some R):
  AU Tryz.prog 176 [.so i ver 0 L,.v (.int .i64 (a:Int)),.v (.int .i64 (m:Int)),.v (.int .i64 (b:Int)),cmp] hp nx fun v j d=>v= .tu []/\j=upd i (Ca R ver br) hp/\nx<=d:=by
 refine zq Tryz.func176 ?_;refine AT (ZT 1 ?_);refine Z1 (EA E (by omega)) ?_;refine AT (ZT 1 ?_);refine Z1 (EA F (by omega)) ?_;refine AT (CS ?_);refine DQ (α:={ x:Nat × Nat × List AB × Nat × Nat // nx<=x.2.2.2.1/\x.2.2.1.length=L/\x.1<=L/\x.2.1<=L/\FQ m x.2.2.2.2 x.2.2.1 x.1 x.2.1=some R })
  (fun x=>⟨upd 0 (.so i ver 0 L) (upd 2 (.v (.int .i64 (m:Int))) (upd 4 cmp (upd 10 (.v (.int .i64 (x.1.1:Int))) (upd 11 (.v (.int .i64 (x.1.2.1:Int))) AK)))),upd i (Ca x.1.2.2.1 ver br) hp,x.1.2.2.2.1⟩) (fun x=>x.1.2.2.2.2) ⟨(m-a,b-m,xs,nx+4+4,f),by show nx<=nx+4+4;omega,C,by show m-a<=L;omega,by show b-m<=L;omega,G⟩ ?_ ?_
 ·rw[Fv B];exact CT
 rintro⟨⟨u,v,M,l,f⟩,H,e,y,z,c⟩;dsimp only at H e y z c;obtain⟨f,rfl⟩:∃I,f=I+1:=by
  cases f with |zero=>cases c |succ f=>exact⟨f,rfl⟩
 unfold FQ at c;split at c;rotate_left
 ·cases c
 rename_i o;refine AT (AT ?_);refine ZT 1 ?_;by_cases p:u=v
 ·rw[if_pos p] at c;have g:=c;subst p;have q:((u:Int) != (u:Int))=false:=by simp
  refine Fb q ?_;refine ZT 1 ?_;refine Z1 (EA o (by omega)) ?_;refine CR (AU.mono (gC (Ap ..) e k g) fun v j d h=> ?_);obtain⟨rfl,rfl,h⟩:=h;have h:l+3+8<=d:=h;refine Z0 ?_;exact⟨_,_,rfl,⟨fun _=>.inr rfl⟩,rfl,Em _ _ _ _,by show nx<=d;omega⟩
 rw[if_neg p] at c;have q:((u:Int) != (v:Int))=true:=by simp;omega
 refine Fb q ?_;refine CS ?_;refine AT (ZT 1 ?_);by_cases A:v<u
 ·rw[if_pos A] at c;have⟨s,c,g⟩:=AL c;have t:(decide ((u:Int) > (v:Int)))=true:=Cp;have w:(decide ((v:Int)<(u:Int)))=true:=Cp;refine Z1 (Y2 t w) ?_;refine ZT 1 ?_;refine Z1 (EA o (by omega)) ?_;refine CR (AU.mono (gC (Ap ..) e k c) fun J j d h=> ?_);obtain⟨rfl,rfl,h⟩:=h;have h:l+3+3+8<=d:=h;refine Z1 (EA (a:=u) (b:=v) (by omega) (by omega)) ?_;refine⟨⟨(u-v,v,s,_,f),?_,(Uq c).trans e,by show u-v<=L;omega,z,g⟩,Gd ?_ DS,Ls f⟩
  ·show nx<=d+4;omega
  exact(Em _ _ _ _).symm
 rw[if_neg A] at c;have⟨s,c,g⟩:=AL c;have t:(decide ((u:Int) > (v:Int)))=false:=C6;have w:(decide ((v:Int)<(u:Int)))=false:=C6;refine Z1 (Y2 t w) ?_;refine ZT 1 ?_;refine Z1 (Y3 (EA o (by omega)) (FR (a:=m) (b:=v) (by omega)) (EA (a:=m+v) (b:=u) (by omega) (by omega))) ?_;refine CR (AU.mono (gC (Ap ..) e k c) fun J j d h=> ?_);obtain⟨rfl,rfl,h⟩:=h;have h:l+3+3+12<=d:=h;refine Z1 (EA (a:=v) (b:=u) (by omega) (by omega)) ?_;refine⟨⟨(u,v-u,s,_,f),?_,(Uq c).trans e,y,by show v-u<=L;omega,g⟩,Gd ?_ DS,Ls f⟩
 ·show nx<=d+4;omega
 exact(Em _ _ _ _).symm
end
theorem qy {nx k:Nat}(e:k<=4294967296):AU Tryz.prog 182 [.v (.slice none 0 0),.v (.int .i64 (k:Int))] hp nx fun v f g=>nx<=g/\(k=0->v= .v (.slice none 0 0)/\f=hp)/\(0<k->∃id o,nx<=id/\id<g/\v= .so id 0 0 0/\f=upd id (some (.rw o 3 0 false false)) hp):=by
 refine zq Tryz.func182 ?_;refine Ay ?_;refine AT (AT ?_);refine ZT 1 ?_;have p:(decide ((k:Int)<0))=false:=C6;refine Z1 p ?_;refine DN (c:=false) rfl rfl ?_;refine AP ?_;refine AT (ZT 1 ?_);have j:i64.wrap ((k:Int)-0)=(k:Int):=by rw[Int.sub_zero];exact JG
 have l:i64.wrap (0-0)=0:=by decide
 rcases BL k with b |b
 ·have d:(decide ((0:Int)<(k:Int)))=false:=C6;refine Z1 (Y3 j l d) ?_;refine Ay ?_;refine AP ?_;exact⟨_,_,rfl,⟨fun _=>.inr rfl⟩,by dsimp only;omega,fun _=>⟨rfl,rfl⟩,fun h=>by omega⟩
 have d:(decide ((0:Int)<(k:Int)))=true:=Cp;have q:EI (.v (.int .i64 (k:Int)))=some k:=by rw[A8 .i64 (by omega)];simp
 have A:(0<k)=True:=eq_true b;have B:(k<=4294967296)=True:=eq_true e;have s:EI (.v (.int .i64 0))=some 0:=rfl;have t:∀id,G9 tab id 201 3 (.v (.slice none 0 0)) (some k)=some (.so id 0 0 k,[(id,.rw (List.replicate k [.v (.string ByteArray.empty),.v (.string ByteArray.empty),.v (.int .i64 0)]) 3 0 false false)]):=fun id=>by
  have u:(tab 3).kind= .int .i64:=by simp only[go_sem]
  have w:(tab 201).kind= .slice:=by simp only[go_sem]
  have x:(tab (tab 201).elem).ok=true:=by simp only[go_sem]
  have m:(tab (tab 201).elem).size=3:=by simp only[go_sem]
  have y:(tab (tab 201).elem).bytes<=32768:=by simp only[go_sem];decide
  have z:(tab (tab 201).elem).zero.map D.v= [.v (.string ByteArray.empty),.v (.string ByteArray.empty),.v (.int .i64 0)]:=by simp only[go_sem]
  unfold G9;rw[u];simp only;rw[if_pos ⟨w,x,by rw[m];decide,y,b,e⟩,z,m]
 refine Z1 (Y6 j l d q s t) ?_;refine Ay ?_;refine AP ?_;exact⟨_,_,rfl,⟨fun _=>.inr rfl⟩,by dsimp only;omega,fun h=>by omega,fun _=>⟨nx+1+2+8+2+5,_,by omega,by dsimp only;omega,rfl,rfl⟩⟩
theorem iB {α:Type}{b:List (List α)}{i:Nat}{x:List α}(h:b[i]? =some x):(b.take (i+1)).flatten=(b.take i).flatten++x:=by
 rw[Bv,h];simp
def PV (c:Nat)(b:List (List AJ)):Option (List AJ):=if b.length<=1000000/\b.flatten.length<=4294967296 then some b.flatten else none
theorem ly_ {c:List (List AJ)}(h:PV n c=some r):AI Tryz.prog 167 [D.sl (c.map (eL AF))] (D.sl (r.map AF)) true:=by
 unfold PV at h;split at h;rotate_left
 ·cases h
 rename_i C;have⟨M,E⟩:=C;cases h;refine zP #[.tmp 2] Tryz.func167 ?_;refine EE ?_;refine EZ ?_;refine D3 (α:=Unit) (fun _=>⟨upd 0 (.d (.sl (c.map (eL AF))) true) (upd 3 (.v (.int .i64 (c.flatten.length:Int))) AK),AM,0⟩) ?_ ?_
 ·refine CS ?_;refine DQ (α:={ i:Nat // i<=c.length }) (fun i=>⟨upd 0 (.d (.sl (c.map (eL AF))) true) (upd 3 (.v (.int .i64 ((c.take i.1).flatten.length:Int))) (upd 9 (.d (.sl (c.map (eL AF))) true) (upd 10 (.v (.int .i64 (c.length:Int))) (upd 11 (.v (.int .i64 (i.1:Int))) AK)))),AM,0⟩) (fun i=>c.length-i.1) ⟨0,Lg _⟩ ?_ ?_
  ·exact ZR []
  rintro⟨i,o⟩;refine AT (ZT 1 ?_);by_cases e:i<c.length
  ·have d:(decide ((i:Int)<(c.length:Int)))=true:=Cp;have g:c[i]? =some c[i]:=Le e;have l:(c.map (eL AF))[i]? =some [D.sl (c[i].map AF)]:=Cr (eL AF) g;have q:(c.take (i+1)).flatten.length=(c.take i).flatten.length+c[i].length:=(by rw[iB g,Ld]);have F:(c.take (i+1)).flatten.length<=c.flatten.length:=by
    conv=>rhs;rw[<-LK (i+1) c]
    rw[B6,Ld];omega
   refine Cw d ?_;refine Dt ?_;have w:=Y2 l (Y5 (A8 .i64 (show(0:Int)<=(i:Int) by omega)) (show((i:Int)).toNat=i from Lk _) (show i64.wrap (((c.take i).flatten.length:Int)+(c[i].length:Int))=((c.take (i+1)).flatten.length:Int) by rw[FR (by omega),q]) (show decide ((((c.take (i+1)).flatten.length:Nat):Int)<0)=false from C6) (Al (n:=i)));refine Z1 w ?_;refine ZT 1 ?_;refine Z1 (Al (n:=i)) ?_;exact⟨⟨i+1,e⟩,ZR [],by dsimp only;omega⟩
  have d:(decide ((i:Int)<(c.length:Int)))=false:=C6;obtain rfl:i=c.length:=by omega
  rw[BD];refine Cw d ?_;refine Z0 ?_;exact⟨(),ZR []⟩
 rintro⟨⟩;refine Ay ?_;refine CR ((qy E).mono ?_);rintro v N y ⟨G,z,A⟩;dsimp only at G z A;rcases BL c.flatten.length with m |m
 ·obtain⟨rfl,rfl⟩:=z m;have H:∀x∈c,x= []:=fun x I=>by
   have:=LV m;exact List.flatten_eq_nil_iff.1 this x I
  have J:c.flatten= []:=LV m;refine Z0 ?_;refine EZ ?_;refine D3 (α:=Nat) (fun k=>⟨upd 6 (.v (.slice none 0 0)) AK,AM,k⟩) ?_ ?_
  ·refine CS ?_;refine DQ (α:={ t:Nat × Nat // t.1<=c.length }) (fun t=>⟨upd 6 (.v (.slice none 0 0)) (upd 25 (.d (.sl (c.map (eL AF))) true) (upd 26 (.v (.int .i64 (c.length:Int))) (upd 27 (.v (.int .i64 (t.1.1:Int))) AK))),AM,t.1.2⟩) (fun t=>c.length-t.1.1) ⟨(0,y+3),Lg _⟩ ?_ ?_
   ·exact CT
   rintro⟨⟨i,B⟩,o⟩;dsimp only at o;refine AT (ZT 1 ?_);by_cases e:i<c.length
   ·have d:(decide ((i:Int)<(c.length:Int)))=true:=Cp;have g:c[i]? =some c[i]:=Le e;have l:(c.map (eL AF))[i]? =some [D.sl []]:=by
     have:=Cr (eL AF) g;rw[H _ (LZ e)] at this;exact this
    refine Cw d ?_;refine Dt ?_;have w:=Y2 l (Y2 (A8 .i64 (show(0:Int)<=(i:Int) by omega)) (show((i:Int)).toNat=i from Lk _));refine Z1 w ?_;refine ZT 1 ?_;refine Z1 (Al (n:=i)) ?_;exact⟨⟨(i+1,_),e⟩,CT,by dsimp only;omega⟩
   have d:(decide ((i:Int)<(c.length:Int)))=false:=C6;refine Cw d ?_;refine Z0 ?_;exact⟨_,CT⟩
  rintro K;refine Ay ?_;refine AP ?_;rw[J];exact Ax
 obtain⟨id,q,O,P,rfl,rfl⟩:=A m;refine Z0 ?_;refine EZ ?_;refine D3 (α:={ t:Nat × List (List D) × Nat // t.2.1.take c.flatten.length=c.flatten.map AF }) (fun t=>⟨upd 6 (.so id t.1.1 0 c.flatten.length) AK,upd id (some (.rw t.1.2.1 3 t.1.1 false false)) AM,t.1.2.2⟩) ?_ ?_;rotate_left
 ·rintro⟨⟨ver,p,K⟩,j⟩;dsimp only at j;refine Ay ?_;refine AP ?_;refine IU (v:=.so id ver 0 c.flatten.length) (b:=false) (is:=[id]) (by simp -implicitDefEqProofs only[go_sem, ↓reduceIte,Ap]<;>rfl) ?_ rfl fun _=>rfl;simp only[toR,Ek,Ce,Ap,if_true,LJ];rw[j]
 refine CS ?_;refine DQ (α:={ t:Nat × Nat × List (List D) × Nat // t.1<=c.length/\(c.take t.1).flatten.length<=t.2.2.1.length/\t.2.2.1.take (c.take t.1).flatten.length=(c.take t.1).flatten.map AF }) (fun t=>⟨upd 6 (.so id t.1.2.1 0 (c.take t.1.1).flatten.length) (upd 25 (.d (.sl (c.map (eL AF))) true) (upd 26 (.v (.int .i64 (c.length:Int))) (upd 27 (.v (.int .i64 (t.1.1:Int))) AK))),upd id (some (.rw t.1.2.2.1 3 t.1.2.1 false false)) AM,t.1.2.2.2⟩) (fun t=>c.length-t.1.1) ⟨(0,0,q,y+3),Lg _,Lg _,rfl⟩ ?_ ?_
 ·exact CT
 rintro⟨⟨i,ver,p,B⟩,o,s,j⟩;dsimp only at o s j;refine AT (ZT 1 ?_);by_cases e:i<c.length
 ·have d:(decide ((i:Int)<(c.length:Int)))=true:=Cp;have g:c[i]? =some c[i]:=Le e;have l:(c.map (eL AF))[i]? =some [D.sl (c[i].map AF)]:=Cr (eL AF) g;have u:(c.take (i+1)).flatten.length=(c.take i).flatten.length+c[i].length:=by rw[iB g,Ld]
  have F:(c.take (i+1)).flatten.length<=c.flatten.length:=by
   conv=>rhs;rw[<-LK (i+1) c]
   rw[B6,Ld];omega
  refine Cw d ?_;refine Dt ?_;have w:=Y2 l (Y5 (A8 .i64 (show(0:Int)<=(i:Int) by omega)) (show((i:Int)).toNat=i from Lk _) (show((c.take i).flatten.length<=p.length)=True from eq_true s) (show((c.take (i+1)).flatten.length<=4294967296)=True from Fu) (And.intro u.symm <|And.intro (T9 (f:=AF) (fun _=>rfl) c[i]) (show EX 3 (c[i].map AF)=true by simp[EX])));refine Z1 w ?_;refine ZT 1 ?_;refine Z1 (Al (n:=i)) ?_;refine⟨⟨(i+1,ver+1,p.take (c.take i).flatten.length++c[i].map AF,B+1+3+4+2),e,?_,?_⟩,Gd (Em ..).symm DS,by dsimp only;omega⟩
  ·dsimp only;rw[u,Ld,LC,LE];omega
  dsimp only;rw[u,j,iB g,<-Nc];exact ND (by rw[LE,Ld];exact Lc _)
 have d:(decide ((i:Int)<(c.length:Int)))=false:=C6;obtain rfl:i=c.length:=by omega
 rw[BD] at s j;refine Z1 (Y2 d (show c.take c.length=c from BD)) ?_;refine Ay ?_;exact⟨⟨(ver,p,_),j⟩,CT⟩
def Pc (n:Nat)(s:AC)(x:AS)(b:AW × Bool):Nat->Int->Option ((Unit) ⊕ Int)
 |0,_=>none
 |c+1,d=>(if decide (d<(b.1.subs.length:Int)) then (CD b.1.subs d).bind fun e=>(HK n s e.type_ x.b).bind fun f=>(if f.2 then (if (e.rel.toList==({ data:= #[] }:ByteArray).toList) then Pc n s x b c (i64.wrap (d+1)) else some (.inr 13)) else some (.inr 13)) else some (.inl ()))
def Qw (n:Nat)(s:AC)(c:ByteArray)(x:AS):Option Int:=(HK n s c x.a).bind fun b=>(if b.2 then (if ((b.1.subs.length:Int)==0) then some 13 else (Pc n s x b n 0:Option ((Unit) ⊕ Int)).bind fun
    | .inl _=>some 0
    | .inr r=>some r) else some 12)
theorem kt_ {s:AC}{p:ByteArray}{x:AS}{r:Int}(H:Qw n s p x=some r):AI Tryz.prog 113 [D.pt (Az s) 0,D.v (.string p),D.ag (AX x)] (D.v (.int .i64 r)) true:=by
 unfold Qw at H;refine zP #[.tmp 6] Tryz.func113 ?_;refine Ay ?_;refine AT (ZT 1 ?_);obtain⟨A,t,u⟩:=AL H;refine Z0 ?_;refine Cn (Ma t) ?_;refine Dt ?_;refine Z0 ?_;obtain⟨b,g⟩ |⟨b,g⟩:=As u;rotate_left
 ·refine Z1 b ?_;cases g;exact Ax
 refine HL b ?_;obtain⟨j,k⟩ |⟨j,k⟩:=As g
 ·refine Z1 (Y2 b j) ?_;cases k;exact Ax
 have v:=Y2 b j;refine KG v ?_;refine zi k (fun _ _ _=>⟨AK,AM,0⟩) (fun B w d=> ?_) fun _ d=> ?_
 ·refine EG w (fun f h q=>⟨kp [5,28,29] f (upd 0 (.d (.pt [.mp (Cb Value.string false eI s.types),.mp (Cb qb_ true Ah s.rels),.mp (Cb qb_ false eI s.ranks)] 0) true) (upd 30 (.v (.int .i64 q)) AK)),kh [0] h AM,1⟩) (ZR [(0,0)]) fun c q L9=> ?_
  refine AP ?_;obtain⟨l,H25⟩ |⟨l,H25⟩:=As L9
  ·obtain⟨C,E,F,y,H27⟩:=zI AR H25;obtain⟨G,z,H33⟩:=AL H27;have m:=Y2 l y;refine Z1 m ?_;refine Cn (Ma z) ?_;refine Z1 m ?_;obtain⟨e,H35⟩ |⟨e,H35⟩:=Cg m H33
   ·refine Z1 e ?_;obtain⟨o,H37⟩ |⟨o,H37⟩:=Cg e H35
    ·refine Z1 o ?_;exact⟨_,H37,ZR [(0,0)]⟩
    refine Z1 o ?_;cases H37;cases d;exact Ax
   refine Z1 e ?_;cases H35;cases d;exact Ax
  refine Z1 l ?_;cases H25;exact⟨_,rfl,ZR []⟩
 refine AP ?_;cases d;exact Ax
def qF_ (n:Nat)(b:AC)(d:AW):Nat->Int->Option ((Unit) ⊕ Int)
 |0,_=>none
 |c+1,e=>(if decide (e<(d.subs.length:Int)) then (CD d.subs e).bind fun f=>(HK n b f.type_ f.rel).bind fun g=>(if ((qf_ f.type_ 0 b.types)==0) then some (.inr 12) else (if (f.rel.toList==({ data:= #[] }:ByteArray).toList) then qF_ n b d c (i64.wrap (e+1)) else (if g.2 then qF_ n b d c (i64.wrap (e+1)) else some (.inr 12)))) else some (.inl ()))
def Qx (n:Nat)(b:AC)(_:AW)(c:Unit)(x2:AN)(k:Unit->Option ((Unit) ⊕ Int)):Option ((Unit) ⊕ Int):=
 match c with
 |_=>
  (HK n b x2.type_ x2.rel).bind fun d=>
  (if ((qf_ x2.type_ 0 b.types)==0) then
   some (.inr 12)
  else
   (if (x2.rel.toList==({ data:= #[] }:ByteArray).toList) then
    k ()
   else
    (if d.2 then
     k ()
    else
     some (.inr 12))))
def Uy (_:Nat)(_:AC)(_:AW)(b:Unit):Option ((Unit) ⊕ Int):=
 match b with
 |_=>some (.inl ())
theorem rT (n:Nat)(e:AC)(b:AW)(g:b.subs.length<4611686018427387904)(c:Nat)(f:Unit)(d:Nat)(h:d<=b.subs.length)(j:b.subs.length-d<c):qF_ n e b c (match f,(d:Int) with |_,d=>d)=Dl (Qx n e b) (Uy n e b) (b.subs.drop d) f:=
 Ka (fun c f d=>qF_ n e b c (match f,d with |_,d=>d)) b.subs (Qx n e b) (Uy n e b) (fun _ _ _=>rfl) g c f d h j
def qz_ (n:Nat)(b:AC)(d:ByteArray)(e:AW):Nat->Int->Option ((Unit) ⊕ Int)
 |0,_=>none
 |c+1,f=>(if decide (f<(e.expr.length:Int)) then (CD e.expr f).bind fun g=>(if (g.kind==2) then (Qw n b d g).bind fun h=>(if (h != 0) then some (.inr h) else qz_ n b d e c (i64.wrap (f+1))) else (HK n b d g.a).bind fun j=>(if j.2 then qz_ n b d e c (i64.wrap (f+1)) else (if (g.kind==1) then some (.inr 12) else qz_ n b d e c (i64.wrap (f+1))))) else some (.inl ()))
def Qy (n:Nat)(c:AC)(d:ByteArray)(_:AW)(f:Unit)(b:AS)(k:Unit->Option ((Unit) ⊕ Int)):Option ((Unit) ⊕ Int):=
 match f with
 |_=>
  (if (b.kind==2) then
   (Qw n c d b).bind fun e=>
   (if (e != 0) then
    some (.inr e)
   else
    k ())
  else
   (HK n c d b.a).bind fun g=>
   (if g.2 then
    k ()
   else
    (if (b.kind==1) then
     some (.inr 12)
    else
     k ())))
def Uz (_:Nat)(_:AC)(_:ByteArray)(_:AW)(b:Unit):Option ((Unit) ⊕ Int):=
 match b with
 |_=>some (.inl ())
theorem rU (n:Nat)(e:AC)(f:ByteArray)(b:AW)(h:b.expr.length<4611686018427387904)(c:Nat)(g:Unit)(d:Nat)(j:d<=b.expr.length)(k:b.expr.length-d<c):qz_ n e f b c (match g,(d:Int) with |_,d=>d)=Dl (Qy n e f b) (Uz n e f b) (b.expr.drop d) g:=
 Ka (fun c g d=>qz_ n e f b c (match g,d with |_,d=>d)) b.expr (Qy n e f b) (Uz n e f b) (fun _ _ _=>rfl) h c g d j k
def TB (n:Nat)(b:AC)(d:ByteArray)(c:AW):Option Int:=
 (
  qF_ n b c n 0:Option ((Unit) ⊕ Int)).bind fun
  | .inl _=>
   (
    qz_ n b d c n 0:Option ((Unit) ⊕ Int)).bind fun
    | .inl _=>
     some 0
    | .inr r=>some r
  | .inr r=>some r
theorem ku_ {d:AC}{u:ByteArray}{v:AW}{r:Int}(H:TB n d u v=some r):AI Tryz.prog 89 [D.pt (Az d) 0,D.v (.string u),D.ag (Ah v)] (D.v (.int .i64 r)) true:=by
 unfold TB at H;refine zP #[.tmp 6] Tryz.func89 ?_;refine KF ?_;refine zi H (fun f h _=>⟨kp [1,5] f (upd 0 (.d (.pt [.mp (Cb Value.string false eI d.types),.mp (Cb qb_ true Ah d.rels),.mp (Cb qb_ false eI d.ranks)] 0) true) AK),kh [0] h AM,1⟩) (fun M B g=> ?_) fun _ g=> ?_
 ·refine EG B (fun f h w=>⟨kp [1,5,17,18] f (upd 0 (.d (.pt [.mp (Cb Value.string false eI d.types),.mp (Cb qb_ true Ah d.rels),.mp (Cb qb_ false eI d.ranks)] 0) true) (upd 19 (.v (.int .i64 w)) AK)),kh [0] h AM,1⟩) (ZR [(0,0)]) fun c w C=> ?_
  refine AP ?_;obtain⟨m,H22⟩ |⟨m,H22⟩:=As C;rotate_left
  ·refine Z1 m ?_;cases H22;exact⟨_,rfl,ZR [(0,0)]⟩
  obtain⟨o,N,O,E,H24⟩:=zI AR H22;obtain⟨P,F,H30⟩:=AL H24;have x:=Y2 m E;refine Z1 x ?_;refine Cn (Ma F) ?_;have G:En (false,[.string]) (.string o.type_) (.v (.int .i64 0)) false (Fe true (Cb Value.string false eI d.types))=some (.v (.int .i64 (qf_ o.type_ 0 d.types)),[]):=IW (b:=true) (ag:=false) (enc:=eI) V5 o.type_ (0:Int) false d.types;have y:=Y2 x G;refine Z1 y ?_;obtain⟨j,H33⟩ |⟨j,H33⟩:=Cg y H30
  ·refine Ds j ?_;cases H33;cases g;exact Ax
  refine Z1 j ?_;obtain⟨k,H35⟩ |⟨k,H35⟩:=Cg j H33
  ·refine Ds k ?_;exact⟨_,H35,ZR [(0,0)]⟩
  refine Ds k ?_;obtain⟨p,H37⟩ |⟨p,H37⟩:=Cg k H35
  ·refine Z1 p ?_;exact⟨_,H37,ZR [(0,0)]⟩
  refine Z1 p ?_;cases H37;cases g;exact Ax
 refine EZ ?_;refine zi g (fun _ _ _=>⟨AK,AM,0⟩) (fun Q E38 H39=> ?_) fun _ H39=> ?_;rotate_left
 ·refine AP ?_;cases H39;exact Ax
 refine EG E38 (fun f _ z=>⟨kp [1,51,52] f (upd 0 (.d (.pt [.mp (Cb Value.string false eI d.types),.mp (Cb qb_ true Ah d.rels),.mp (Cb qb_ false eI d.ranks)] 0) true) (upd 53 (.v (.int .i64 z)) AK)),AM,0⟩) (ZR []) fun c z L40=> ?_
 refine AP ?_;obtain⟨q,H62⟩ |⟨q,H62⟩:=As L40;rotate_left
 ·refine Z1 q ?_;cases H62;exact⟨_,rfl,ZR []⟩
 obtain⟨R,S,T,I,H64⟩:=zI AX H62;have A:=Y2 q I;refine Z1 A ?_;obtain⟨e,H70⟩ |⟨e,H70⟩:=Cg A H64
 ·obtain⟨U,J,H72⟩:=AL H70;refine Z1 e ?_;refine Cn (kt_ J) ?_;refine Z1 e ?_;obtain⟨s,H74⟩ |⟨s,H74⟩:=Cg e H72
  ·refine Z1 s ?_;cases H74;cases H39;exact Ax
  refine Z1 s ?_;exact⟨_,H74,ZR []⟩
 obtain⟨V,K,H76⟩:=AL H70;refine Z1 e ?_;refine Cn (Ma K) ?_;refine Z1 e ?_;obtain⟨l,H78⟩ |⟨l,H78⟩:=Cg e H76
 ·refine Z1 l ?_;exact⟨_,H78,ZR []⟩
 refine Z1 l ?_;obtain⟨t,H80⟩ |⟨t,H80⟩:=Cg l H78
 ·refine Z1 t ?_;cases H80;cases H39;exact Ax
 refine Z1 t ?_;exact⟨_,H80,ZR []⟩
def U0 (n:Nat)(x:AS)(b:AW × Bool):Nat->(List AJ × Int)->Option (List AJ)
 |0,_=>none
 |c+1,(e,d)=>(if decide (d<(b.1.subs.length:Int)) then (CD b.1.subs d).bind fun f=>(DG e [(⟨(⟨f.type_,x.b⟩:AA),0⟩:AJ)]).bind fun l=>U0 n x b c (l,(i64.wrap (d+1))) else some e)
def U1 (n:Nat)(s:AC)(b:ByteArray)(x:AS):Option (List AJ):=(if (x.kind==1) then some [(⟨(⟨b,x.a⟩:AA),0⟩:AJ)] else (HK n s b x.a).bind fun c=>(U0 n x c n ([],0):Option (List AJ)).bind fun d=>some d)
theorem kU_ {s:AC}{p:ByteArray}{x:AS}(H:U1 n s p x=some r):AI Tryz.prog 165 [D.pt (Az s) 0,D.v (.string p),D.ag (AX x)] (D.sl (List.map AF r)) true:=by
 unfold U1 at H;refine zP #[.tmp 6] Tryz.func165 ?_;refine EE ?_;obtain⟨d,e⟩ |⟨d,e⟩:=As H
 ·refine Z1 d ?_;cases e;exact XW d
 refine HL d ?_;refine AT (ZT 1 ?_);obtain⟨I,v,w⟩:=AL e;refine Z1 d ?_;refine Cn (Ma v) ?_;refine KG d ?_;refine F7 w (fun _ _ j k=>⟨upd 7 (Ac 0 k (List.map AF j)) AK,upd 0 (A6 3 k false (List.map AF j)) AM,1⟩) (fun J y q=> ?_) fun j k q=> ?_
 ·refine Ej y (fun f h (b,t) g=>⟨kp [5,30,31] f (upd 7 (Ac 1 g (List.map AF b)) (upd 32 (.v (.int .i64 t)) AK)),kh [0] h (upd 1 (A6 3 g false (List.map AF b)) AM),2⟩) 0 (ZR [(0,0)]) fun c ⟨b,t⟩ g z=> ?_
  refine AP ?_;obtain⟨m,H17⟩ |⟨m,H17⟩:=As z
  ·obtain⟨A,K,M,B,H19⟩:=zI AR H17;obtain⟨l,C,H25⟩:=AL H19;obtain⟨o,u⟩:=Ee C;have o:b.length+1<=4294967296:=o;have E:List.map AF b++[[.v (.string A.type_),.v (.string x.b),.v (.int .i64 0)]]=List.map AF l:=ER AF u;have F:b.length+1=l.length:=ES u;have G:l.length<=4294967296:=(by omega);have N:0<l.length:=(by omega);refine Z1 (Y6 m B o E F G) ?_;rcases b with _ |⟨O,P⟩
   ·try simp only[Lw,CW,CZ]
    exact⟨_,0,H25,ZR [(0,0),(1,15)]⟩
   try simp only[Li,CW,CZ]
   exact⟨_,(g+1),H25,ZR [(0,0),(1,1)]⟩
  refine Z1 m ?_;cases H17;exact⟨g,ZR [(0,1)]⟩
 refine AP ?_;cases q;exact Ax
theorem iU (xs:List AJ)(h:decide (xs.length=0)=true):AI Tryz.prog 166 [.sl (List.map AF xs)] (.sl []) true:=by
 rw[LV (of_decide_eq_true h)];exact Tz Ep EN Tryz.func166 (T:=201) (B:=4) rfl (by kernel_rfl) (by kernel_rfl) (by decide) rfl (by simp only[go_sem]) (by simp only[go_sem]) (by simp only[go_sem];decide) (by simp only[go_sem];decide)
theorem iV (xs:List AJ)(c:0<xs.length)(d:xs.length<=4294967296){b:Bool}{nx:Nat}:AU Tryz.prog 166 [.d (.sl (List.map AF xs)) b] hp nx fun v g j=>v= .so (nx+3) 1 0 xs.length/\g=upd (nx+3) (some (.rw (List.map AF xs) 3 1 false false)) hp/\j=nx+7:=by
 have h:=cr (e:=AF) (k:=3) (b:=b) (hp:=hp) (nx:=nx) Ep EN Tryz.func166 (T:=201) (B:=4) rfl (by kernel_rfl) (by kernel_rfl) (by decide) rfl (by simp only[go_sem]) (by simp only[go_sem]) (by simp only[go_sem]) (by decide) (by simp only[go_sem];decide) (fun _=>rfl) xs c d;rw[T9 (f:=AF) (fun _=>rfl),BI,NH] at h;exact h
def rV (_:Nat):Nat->Unit->Option (Unit)
 |0,_=>none
 |_+1,_=>some ()
def Qz (n:Nat)(x2:AS)(e:List AJ):Nat->(List AJ × Int)->Option (List AJ)
 |0,_=>none
 |c+1,(d,b)=>(if decide (b<(e.length:Int)) then (if (x2.kind==4) then (CD d b).bind fun f=>(some (List.set d (Int.toNat b) (⟨f.to,1⟩:AJ))).bind fun g=>Qz n x2 e c (g,(i64.wrap (b+1))) else Qz n x2 e c (d,(i64.wrap (b+1)))) else some d)
def Q0 (n:Nat)(f:AC)(g:ByteArray)(d:List AS):Nat->(List (List AJ) × Int)->Option (List (List AJ))
 |0,_=>none
 |c+1,(b,e)=>(if decide (e<(d.length:Int)) then (CD d e).bind fun h=>((if (h.kind==1) then some true else some (h.kind==2)):Option (Bool)).bind fun o=>(if o then (U1 n f g h).bind fun p=>(DG b [p]).bind fun l=>Q0 n f g d c (l,(i64.wrap (e+1))) else (if decide (2<=(b.length:Int)) then (CD b (i64.wrap ((b.length:Int)-1))).bind fun j=>(if decide (j.length=0) then (rV n n ():Option (Unit)).bind fun _=>(FV b 0 (i64.wrap ((b.length:Int)-2))).bind fun q=>(CD b (i64.wrap ((b.length:Int)-2))).bind fun k=>(if decide (k.length=0) then none else DM (decide (k.length<=4294967296))<| (DG q [k]).bind fun s=>Q0 n f g d c (s,(i64.wrap (e+1)))) else DM (decide (j.length<=4294967296))<| (Qz n h j n (j,0):Option (List AJ)).bind fun t=>(FV b 0 (i64.wrap ((b.length:Int)-2))).bind fun u=>(CD b (i64.wrap ((b.length:Int)-2))).bind fun m=>(if decide (m.length=0) then none else DM (decide (m.length<=4294967296))<| (DG m t).bind fun v=>(DG u [v]).bind fun w=>Q0 n f g d c (w,(i64.wrap (e+1))))) else Q0 n f g d c (b,(i64.wrap (e+1))))) else some b)
def Xv (n:Nat)(e:AC)(f:ByteArray)(_:List AS)(g:List (List AJ))(x2:AS)(k:List (List AJ)->Option (List (List AJ))):Option (List (List AJ)):=
 match g with
 |t7=>
  (
   (if (x2.kind==1) then
    some true
   else
    some (x2.kind==2)):Option (Bool)).bind fun h=>
  (if h then
   (U1 n e f x2).bind fun j=>
   (DG t7 [j]).bind fun l=>
   k l
  else
   (if (decide (2<=(t7.length:Int))) then
    (CD t7 (i64.wrap ((t7.length:Int)-1))).bind fun b=>
    (if (decide (b.length=0)) then
     (
      rV n n ():Option (Unit)).bind fun _=>
     (FV t7 0 (i64.wrap ((t7.length:Int)-2))).bind fun m=>
     (CD t7 (i64.wrap ((t7.length:Int)-2))).bind fun c=>
     (if (decide (c.length=0)) then
      none
     else
      DM (decide (c.length<=4294967296))<|
      (DG m [c]).bind fun o=>
      k o)
    else
     DM (decide (b.length<=4294967296))<|
     (
      Qz n x2 b n (b,0):Option (List AJ)).bind fun p=>
     (FV t7 0 (i64.wrap ((t7.length:Int)-2))).bind fun q=>
     (CD t7 (i64.wrap ((t7.length:Int)-2))).bind fun d=>
     (if (decide (d.length=0)) then
      none
     else
      DM (decide (d.length<=4294967296))<|
      (DG d p).bind fun s=>
      (DG q [s]).bind fun t=>
      k t))
   else
    k t7))
def al (_:Nat)(_:AC)(_:ByteArray)(_:List AS)(b:List (List AJ)):Option (List (List AJ)):=
 match b with
 |t7=>some t7
theorem vz_ (n:Nat)(e:AC)(f:ByteArray)(b:List AS)(h:b.length<4611686018427387904)(c:Nat)(g:List (List AJ))(d:Nat)(j:d<=b.length)(k:b.length-d<c):Q0 n e f b c (match g,(d:Int) with |t7,d=>(t7,d))=Dl (Xv n e f b) (al n e f b) (b.drop d) g:=
 Ka (fun c g d=>Q0 n e f b c (match g,d with |t7,d=>(t7,d))) b (Xv n e f b) (al n e f b) (fun _ _ _=>rfl) h c g d j k
def Xw (n:Nat)(b:AC)(c:ByteArray)(d:List AS):Option (List AJ):=(Q0 n b c d n ([],0):Option (List (List AJ))).bind fun e=>(PV n e).bind fun f=>some f
set_option maxHeartbeats 8000000 in
theorem kv_ {d:AC}{t1:ByteArray}{t2:List AS}(H:Xw n d t1 t2=some r):AI Tryz.prog 141 [D.pt (Az d) 0,D.v (.string t1),D.sl (List.map AX t2)] (D.sl (List.map AF r)) true:=by
 unfold Xw at H;refine zP #[.tmp 6] Tryz.func141 ?_;refine EE ?_;refine EZ ?_;refine F7 H (fun _ _ N O=>⟨upd 7 (Ac 0 O (List.map (eL AF) N)) AK,upd 0 (A6 1 O false (List.map (eL AF) N)) AM,1⟩) (fun e_ E1 H2=> ?_) fun N O H2=> ?_;rotate_left
 ·refine ZT 1 ?_;obtain⟨eg,b7,H183⟩:=AL H2;refine Z0 ?_;refine Cn (ly_ b7) ?_;refine Z0 ?_;cases H183;exact Ax
 refine Ej E1 (fun f _ (b,ao) g=>⟨kp [1,13,14] f (upd 0 (.d (.pt [.mp (Cb Value.string false eI d.types),.mp (Cb qb_ true Ah d.rels),.mp (Cb qb_ false eI d.ranks)] 0) true) (upd 7 (Ac 0 g (List.map (eL AF) b)) (upd 15 (.v (.int .i64 ao)) AK))),upd 0 (A6 1 g false (List.map (eL AF) b)) AM,1⟩) 0 (ZR []) fun c ⟨b,ao⟩ g L3=> ?_
 refine EE ?_;obtain⟨F,H22⟩ |⟨F,H22⟩:=As L3;rotate_left
 ·refine Z1 F ?_;cases H22;exact⟨g,ZR [(0,0)]⟩
 refine PM F ?_;obtain⟨P,eh,ek,b8,H24⟩:=zI AX H22;have b9:=Y2 F b8;refine HL b9 ?_;refine CS ?_;refine AT ?_;refine F7 H24 (fun f _ ap p=>⟨kp [1,10,13,14,15] f (upd 0 (.d (.pt [.mp (Cb Value.string false eI d.types),.mp (Cb qb_ true Ah d.rels),.mp (Cb qb_ false eI d.ranks)] 0) true) (upd 7 (Ac 0 p (List.map (eL AF) b)) (upd 9 (.pt 1 0) (upd 21 (.v (.bool ap)) AK)))),upd 0 (A6 1 p false (List.map (eL AF) b)) (upd 1 (some (.bx [.v (.int .i64 P.kind),.v (.string P.a),.v (.string P.b)])) AM),2⟩) (fun el E29 H30=> ?_) fun ap p H30=> ?_
 ·refine AP ?_;obtain⟨Q,H32⟩ |⟨Q,H32⟩:=As E29
  ·refine Z1 Q ?_;cases H32;exact⟨g,ZR [(0,0),(1,4)]⟩
  refine Z1 Q ?_;cases H32;exact⟨g,ZR [(0,0),(1,4)]⟩
 obtain⟨j,H34⟩ |⟨j,H34⟩:=As H30
 ·refine ET (by rfl) j ?_;refine Z1 j ?_;refine ZT 4 ?_;obtain⟨cb,cf,H36⟩:=AL H34;refine Z1 j ?_;refine Cn (kU_ cf) ?_;obtain⟨l,ch,H38⟩:=AL H36;obtain⟨R,aq⟩:=Ee ch;have R:b.length+1<=4294967296:=R;have cp:List.map (eL AF) b++[[.sl (List.map AF cb)]]=List.map (eL AF) l:=ER (eL AF) aq;have cs:b.length+1=l.length:=ES aq;have cx:l.length<=4294967296:=by omega
  have em:0<l.length:=by omega
  refine Z1 (Y5 j R cp cs cx) ?_;rcases b with _ |⟨q0,q1⟩
  ·try simp only[Lw,CW,CZ]
   exact⟨_,0,H38,ZR [(0,8)]⟩
  try simp only[Li,CW,CZ]
  exact⟨_,(p+1),H38,ZR [(0,0)]⟩
 refine DN (by rfl) j ?_;refine HL j ?_;obtain⟨x,H46⟩ |⟨x,H46⟩:=As H34;rotate_left
 ·refine DN (by rfl) x ?_;have ar:=Y2 j x;refine Z1 ar ?_;refine ZT 4 ?_;refine Z1 ar ?_;exact⟨_,p,H46,ZR [(0,0)]⟩
 refine ET (by rfl) x ?_;have av:=Y2 j x;refine Cw av ?_;obtain⟨G,en,cN,c0,H48⟩:=zI (eL AF) H46;have c1:=EQ cN;have aE:0<b.length:=by omega
 have S:=Y5 av c0 c1 (YV (f:=(eL AF)) aE) (YO (f:=(eL AF)) aE);refine Z1 S ?_;obtain⟨y,H55⟩ |⟨y,H55⟩:=As H48
 ·have a0:=Y2 S y;refine Z1 a0 ?_;refine Cn (iU G y) ?_;refine KG a0 ?_;refine zj H55 (fun f h _=>⟨kp [1,7,10,11,13,14,15] f (upd 0 (.d (.pt [.mp (Cb Value.string false eI d.types),.mp (Cb qb_ true Ah d.rels),.mp (Cb qb_ false eI d.ranks)] 0) true) AK),kh [0] h AM,1⟩) (fun eo E56 H57=> ?_) fun _ H57=> ?_
  ·refine EG E56 (fun f h _=>⟨kp [1,7,9,10,11,13,14,15,47,48] f (upd 0 (.d (.pt [.mp (Cb Value.string false eI d.types),.mp (Cb qb_ true Ah d.rels),.mp (Cb qb_ false eI d.ranks)] 0) true) AK),kh [0,1] h AM,2⟩) (ZR [(0,0),(1,1)]) fun c _ L58=> ?_
   refine AP ?_;cases L58;exact ZR [(0,0)]
  refine ZT 4 ?_;obtain⟨q,c2,H60⟩:=AL H57;obtain⟨c3,c4,eq,a1⟩:=KB c2;have a2:0<=Int.toNat (i64.wrap ((b.length:Int)-2)):=by omega
  have a3:Int.toNat (i64.wrap ((b.length:Int)-2))<=b.length:=by omega
  have a4:Int.toNat (i64.wrap ((b.length:Int)-2))-0=q.length:=by rw[a1];simp;try omega
  have T:List.take q.length (List.map (eL AF) b)=List.map (eL AF) q:=WJ (eL AF) a1;try simp only[Lk] at a2 a3 T a4
  obtain⟨m,er,c5,c6,H70⟩:=zI (eL AF) H60;have c7:=EQ c5;have U:=Y2 (Y6 (A8 .i64 (NG c3 c4)) a2 a3 a4 T c6) c7;refine Z1 U ?_;obtain⟨z,H76⟩ |⟨z,H76⟩:=As H70
  ·refine Z1 (Y2 U z) ?_;refine EB (iU m z) ?_;cases H76
  obtain⟨c9,H78⟩:=FC H76;have a5:m.length<=4294967296:=of_decide_eq_true c9;have da:0<m.length:=by have:=of_decide_eq_false z;omega
  refine Z1 (Y2 U z) ?_;refine RR (ids':=[]) (v:=.so 19 1 0 m.length) (δ:=[(19,.rw (List.map AF m) 3 1 false false)]) (nx':=23) (fun dd _=>AU.mono (iV m da a5) fun v2 df dk e=>e) ?_;have es:m.length<=4294967296:=by omega
  obtain⟨I,dl,H86⟩:=AL H78;obtain⟨a6,a7⟩:=Ee dl;have a6:q.length+1<=4294967296:=a6;have dm:List.map (eL AF) q++[[.sl (List.map AF m)]]=List.map (eL AF) I:=ER (eL AF) a7;have dn:q.length+1=I.length:=ES a7;have dp:I.length<=4294967296:=by omega
  have et:0<I.length:=by omega
  have V:(q.length<=b.length)=True:=Fu;try simp -implicitDefEqProofs only[go_sem,LT,Nat.reduceLT,Nat.reduceEqDiff,Nat.reduceAdd,Nat.reduceLeDiff,reduceCtorEq, ↓reduceIte,T,a5,NW,LX,dm,dn,dp,V]
  refine DF (by rfl) ?_;try simp -implicitDefEqProofs only[go_sem,Nat.reduceEqDiff,Nat.reduceAdd,reduceCtorEq, ↓reduceIte]
  exact⟨_,(p+1),H86,ZR [(0,0)]⟩
 obtain⟨dq,H95⟩:=FC H55;have a8:G.length<=4294967296:=of_decide_eq_true dq;have dr:0<G.length:=by have:=of_decide_eq_false y;omega
 have a9:=Y2 S y;refine Z1 a9 ?_;refine CR (AU.mono (iV G dr a8) ?_);rintro ew ex ey ⟨rfl,rfl,rfl⟩;have ds:=Y2 a9 a8;refine KG ds ?_;refine zj H95 (fun f h o=>⟨kp [1,7,10,13,14,15] f (upd 0 (.d (.pt [.mp (Cb Value.string false eI d.types),.mp (Cb qb_ true Ah d.rels),.mp (Cb qb_ false eI d.ranks)] 0) true) (upd 11 (.so 1 1 0 (o.length)) AK)),kh [0] h (upd 1 (some (.rw (List.map AF o) 3 1 false false)) AM),2⟩) (fun ez E101 H102=> ?_) fun o H102=> ?_
 ·refine EG E101 (fun f h (s,A)=>⟨kp [1,7,9,10,13,14,15,47] f (upd 0 (.d (.pt [.mp (Cb Value.string false eI d.types),.mp (Cb qb_ true Ah d.rels),.mp (Cb qb_ false eI d.ranks)] 0) true) (upd 11 (.so 2 1 0 (s.length)) (upd 48 (.v (.int .i64 A)) AK))),kh [0,1] h (upd 2 (some (.rw (List.map AF s) 3 1 false false)) AM),3⟩) (ZR [(0,0),(1,1),(2,15)]) fun c ⟨s,A⟩ L103=> ?_
  refine AP ?_;obtain⟨B,H123⟩ |⟨B,H123⟩:=As L103
  ·refine Z1 B ?_;obtain⟨X,H125⟩ |⟨X,H125⟩:=As H123
   ·obtain⟨Y,eA,dt,dw,H127⟩:=zI AF H125;have dy:=EQ dt;obtain⟨C,dS,H133⟩:=AL H127;have ba:List.set s (Int.toNat A) (⟨Y.to,1⟩:AJ)=C:=LM dS;have bb:List.set (List.map AF s) (Int.toNat A) [.v (.string Y.to.typ),.v (.string Y.to.rel),.v (.int .i64 1)]=List.map AF C:=by rw[<-ba,NK]
    try simp only[Li,Lw] at bb
    have d0:s.length=C.length:=(by rw[<-ba,NZ]);have d1:∀w,AV.so 2 w 0 s.length=AV.so 2 w 0 C.length:=fun w=>(by rw[d0]);have d2:(Int.toNat A)<C.length:=(by omega);refine Z1 (Y2 (Y6 B X dw dy bb d1) d2) ?_;exact⟨_,H133,ZR [(0,0),(1,1),(2,2)]⟩
   refine Z1 (Y2 B X) ?_;exact⟨_,H125,ZR [(0,0),(1,1),(2,2)]⟩
  refine Z1 B ?_;cases H123;exact ZR [(0,0),(1,2)]
 refine ZT 4 ?_;obtain⟨t,d3,H140⟩:=AL H102;obtain⟨bd,be,eD,bg⟩:=KB d3;have Z:0<=Int.toNat (i64.wrap ((b.length:Int)-2)):=by omega
 have aa:Int.toNat (i64.wrap ((b.length:Int)-2))<=b.length:=by omega
 have ab:Int.toNat (i64.wrap ((b.length:Int)-2))-0=t.length:=by rw[bg];simp;try omega
 have ad:List.take t.length (List.map (eL AF) b)=List.map (eL AF) t:=WJ (eL AF) bg;try simp only[Lk] at Z aa ad ab
 obtain⟨k,d4,ea,bl,H150⟩:=zI (eL AF) H140;have bo:=EQ ea;have ag:=Y2 (Y6 (A8 .i64 (NG bd be)) Z aa ab ad bl) bo;refine Z1 ag ?_;obtain⟨u,H156⟩ |⟨u,H156⟩:=As H150
 ·refine Z1 (Y2 ag u) ?_;refine EB (iU k u) ?_;cases H156
 obtain⟨eb,H158⟩:=FC H156;have ak:k.length<=4294967296:=of_decide_eq_true eb;have ed:0<k.length:=by have:=of_decide_eq_false u;omega
 have bs:=Y2 ag u;refine Z1 bs ?_;refine RR (ids':=[]) (v:=.so 20 1 0 k.length) (δ:=[(20,.rw (List.map AF k) 3 1 false false)]) (nx':=24) (fun dd _=>AU.mono (iV k ed ak) fun v2 df dk e=>e) ?_;obtain⟨E,ee,H165⟩:=AL H158;obtain⟨J,bx⟩:=Ee ee;have J:k.length+o.length<=4294967296:=J;have b0:List.map AF k++List.map AF o=List.map AF E:=ER AF bx;have b1:k.length+o.length=E.length:=ES bx;have b2:E.length<=4294967296:=by omega
 have eF:0<E.length:=by omega
 obtain⟨K,ef,H173⟩:=AL H165;obtain⟨M,b3⟩:=Ee ef;have M:t.length+1<=4294967296:=M;have b4:List.map (eL AF) t++[[.sl (List.map AF E)]]=List.map (eL AF) K:=ER (eL AF) b3;have b5:t.length+1=K.length:=ES b3;have b6:K.length<=4294967296:=by omega
 have eH:0<K.length:=by omega
 have V:(t.length<=b.length)=True:=Fu;refine Z1 (And.intro V (Y4 (Y6 (A8 .i64 (NG bd be)) Z aa ab ad (A8 .i64 d4)) (Y6 bl bo u ak (Hk (n:=3) (f:=AF) (fun _=>rfl) o) J) (Y6 b0 b1 b2 M b4 b5) b6)) ?_;refine DF (by rfl) ?_;refine Z1 (Y2 (Y6 bs ak (Hk (n:=3) (f:=AF) (fun _=>rfl) o) J b0 b1) (Y5 b2 M b4 b5 b6)) ?_;exact⟨_,(p+1),H173,ZR [(0,0)]⟩
structure CN where
 kind:Int
 at_:Int
 text:ByteArray
 deriving DecidableEq,Inhabited
abbrev Am (x:CN):List D:=[D.v (.int .i64 x.kind),D.v (.int .i64 x.at_),D.v (.string x.text)]
end Go.Proofs.YtnmkbmefohakmaaGreat.Ab
