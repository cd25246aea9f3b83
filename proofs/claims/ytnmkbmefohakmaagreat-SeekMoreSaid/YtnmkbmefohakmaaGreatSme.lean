/-
 A schema that is made, each minus turned to a plus: its bytes are those of the same choices without a minus. No program in sight.
-/
import Derived.Test.YtnmkbmefohakmaaGreatMrb
set_option linter.all false
namespace Go.Proofs.YtnmkbmefohakmaaGreat.Ab
open Go.RowKit
structure Sb where
 a:ByteArray
 r:Option ByteArray
def Sb.T (s:Sb):List Tk:=(1,s.a)::(match s.r with |none=>[] |some r=>[(2,bt_),(1,r)])
def Sb.ok (n:Nat)(s:Sb):Prop:=Fy n s.a=some true/\∀r,s.r=some r->Fy n r=some true
def Gy:Sb->List Sb->List Tk
 |s,[]=>s.T++[(2,EN)]
 |s,t::l=>s.T++(2,E6)::Gy t l
section
variable {n c f:Nat}{L:List CE}{R:List Tk}{x y:Ae}{mn:Bool}
def Cg (L:List CE)(R:List Tk)(x:Ae):Prop:=At L R x/\x.deep=0/\x.out.length<=200
theorem Cg.w (h:Cg L R x):Dr x:=h.1.w h.2.2 (by rw[h.2.1];exact Ll _)
theorem Cg.next {k:Int}{s:ByteArray}(h:Cg L ((k,s)::R) x):Cg L R { x with p:=x.p+1 }:=⟨h.1.next.1,h.2⟩
theorem jW (s:Sb)(hs:s.ok n)(h:Cg L (s.T++R) x)(hR:Ci R bt_=false){ss:List AL}(hss:ss.length<50)(hc:Dr x):∃z g,Cg L R z/\GR n (c+1) x ss=(if Ci R E6 then GR n c { z with p:=z.p+1 } (ss++[g]) else some (DV z EN,ss++[g])):=by
 obtain⟨a,r⟩:=s;cases r with
 |none=>
  have h:Cg L ((1,a)::R) x:=h;have h1:=h.next;refine⟨_,⟨a,ByteArray.empty,ByteArray.empty⟩,h1,?_⟩;conv=>lhs;unfold GR
  rw[if_pos ⟨hc,by omega⟩,if_pos h.1.e0,ifn,h.1.name hs.1,Zo];dsimp only;rw[h1.1.is,hR,ND,if_neg (by decide),Zo];dsimp only;rw[h1.1.is,h.1.e0,NG]
 |some r=>
  have h:Cg L ((1,a)::(2,bt_)::(1,r)::R) x:=h;have h1:=h.next;have h2:=h1.next;have h3:=h2.next;refine⟨_,⟨a,ByteArray.empty,r⟩,h3,?_⟩;conv=>lhs;unfold GR
  rw[if_pos ⟨hc,by omega⟩,if_pos h.1.e0,ifn,h.1.name hs.1,Zo];dsimp only;rw[h1.1.is,show Ci ((2,bt_)::(1,r)::R) bt_=true by kernel_rfl,h.1.e0,if_pos (by decide),h2.1.name (hs.2 r rfl),Zo];dsimp only;rw[h3.1.is,h.1.e0,NG]
theorem jX:∀(l:List Sb) (s:Sb) (c:Nat) (x:Ae) (ss:List AL),s.ok n->(∀t∈l,t.ok n)->Cg L (Gy s l++R) x->ss.length+l.length<50->l.length<c->∃y r,GR n c x ss=some (y,r)/\Cg L R y
 |_,_,0,_,_,_,_,_,_,h=>absurd h (LK _)
 |[],s,c+1,x,ss,hs,_,h,hl,_=>by
  have h:Cg L ((s.T++[(2,EN)])++R) x:=h;rw[Lq] at h;obtain⟨z,g,hz,e⟩:=jW (c:=c) s hs h (by kernel_rfl) (ss:=ss) (by omega) h.w;have hz:Cg L ((2,EN)::R) z:=hz;rw[e,show Ci ([(2,EN)]++R) E6=false by kernel_rfl,if_neg (by decide),hz.1.want];exact⟨_,_,rfl,hz.next⟩
 |t::l,s,c+1,x,ss,hs,hl2,h,hl,hc=>by
  have h:Cg L ((s.T++(2,E6)::Gy t l)++R) x:=h;rw[Lq] at h;simp only[Lg] at hl hc;obtain⟨z,g,hz,e⟩:=jW (c:=c) s hs h (by kernel_rfl) (ss:=ss) (by omega) h.w;have hz:Cg L ((2,E6)::(Gy t l++R)) z:=hz;rw[e,show Ci ((2,E6)::Gy t l++R) E6=true by kernel_rfl,if_pos rfl];exact jX l t c _ _ (hl2 t Lo) (fun u hu=>hl2 u (Lh _ hu)) hz.next (by grind) (by omega)
structure Fo where
 nm:ByteArray
 T:List Tk
 dir:Bool
def Hb (n c f:Nat)(mn:Bool)(q:Fo):Prop:=∀L R x,Cg L ((1,q.nm)::(q.T++R)) x->∃y g,EJ n c f x=some (y,g)/\Cg L R y/\g.name=q.nm/\(q.dir=true->g.expr= [])/\(q.dir=false->g.subs= [])/\(mn=false->∀s∈g.expr,s.kind≠4)
theorem jY {nm:ByteArray}{s:Sb}{l:List Sb}(hn:Fy n nm=some true)(hs:s.ok n)(hl:∀t∈l,t.ok n)(h50:l.length<50)(hc:l.length<c):Hb n c f mn ⟨nm,(2,Eg)::Gy s l,true⟩:=by
 intro L R x h;have h:Cg L ((1,nm)::(2,Eg)::(Gy s l++R)) x:=h;have h1:=h.next;have h2:=h1.next;have e2:DV { x with p:=x.p+1 } Eg={ x with p:=x.p+1+1 }:=h1.1.want;obtain⟨y,r,hy,hr⟩:=jX l s c { x with p:=x.p+1+1 } [] hs hl h2 (by simpa using h50) hc;refine⟨y,⟨nm,r,[]⟩,?_,hr,rfl,fun _=>rfl,(fun e=>by cases e),fun _ s hs=>by cases hs⟩;unfold EJ;rw[if_pos h.w,h.1.name hn,Zo];dsimp only;rw[h1.1.is,show Ci ((2,Eg)::(Gy s l++R)) KY=false by kernel_rfl,ND,if_neg (by decide),e2,hy];rfl
theorem jZ {nm:ByteArray}{T:List Tk}{k:Nat}(hn:Fy n nm=some true)(hx:U4 (EZ n c f) T mn k 0)(hk:k<=200):Hb n c f mn ⟨nm,(2,KY)::(T++[(2,EN)]),false⟩:=by
 intro L R x h;have h:Cg L ((1,nm)::(2,KY)::((T++[(2,EN)])++R)) x:=h;rw[Lq] at h;have h1:=h.next;have h2:=h1.next;obtain⟨y,hy,hg⟩:=hx L ((2,EN)::R) { x with p:=x.p+1+1,out:=[] } (h2.1.of rfl rfl rfl) ⟨by kernel_rfl,by kernel_rfl,by kernel_rfl,by kernel_rfl⟩ h.2.1 (by show 0+k<=200;omega);have hlen:=hg.len;have hlen:y.out.length<=0+k:=hlen;obtain⟨g1,g2,o,g3,g4,g5⟩:=hg;have g2:y.deep=x.deep:=g2;have g3:y.out=o:=g3;have hr:Cg L ((2,EN)::R) y:=⟨g1,g2.trans h.2.1,by omega⟩;refine⟨{ y with p:=y.p+1 },⟨nm,[],y.out⟩,?_,hr.next,rfl,(fun e=>by cases e),fun _=>rfl,fun hm s hs=>g5 hm s (g3▸hs)⟩;unfold EJ;rw[if_pos h.w,h.1.name hn,Zo];dsimp only;rw[h1.1.is,show Ci ((2,KY)::(T++([(2,EN)]++R))) KY=true by kernel_rfl,h.1.e0,if_pos (by decide),hy,Zo,if_pos hr.w,hr.1.want]
def tV (mn:Bool)(q:Fo)(g:Ac):Prop:=g.name=q.nm/\(q.dir=true->g.expr= [])/\(q.dir=false->g.subs= [])/\(mn=false->∀s∈g.expr,s.kind≠4)
inductive IM (mn:Bool):List Fo->List Ac->Prop
 |nil:IM mn [] []
 |cons {q:Fo} {g:Ac} {Q:List Fo} {G:List Ac} (h:tV mn q g) (hs:IM mn Q G):IM mn (q::Q) (g::G)
def M9 (Q:List Fo):List Tk:=Q.flatMap fun q=>(1,q.nm)::q.T
theorem ja:∀(Q:List Fo) (k:Nat) (x:Ae) (rs:List Ac),(∀q∈Q,Hb n c f mn q)->Cg L (M9 Q++(2,Fq)::R) x->rs.length+Q.length<200->Q.length<k->∃y gs,G0 n c f k x rs=some (y,rs++gs)/\Cg L ((2,Fq)::R) y/\IM mn Q gs
 |_,0,_,_,_,_,_,h=>absurd h (LK _)
 |[],k+1,x,rs,_,h,hl,_=>by
  have h:Cg L ((2,Fq)::R) x:=h;refine⟨x,[],?_,h,.nil⟩;unfold G0;rw[if_pos ⟨h.w,h.2.1,by simp only[LB] at hl;omega⟩,h.1.is,show Ci ((2,Fq)::R) Fq=true by kernel_rfl,BQ,ND,if_neg (by decide),LY]
 |q::Q,k+1,x,rs,hQ,h,hl,hk=>by
  simp only[Lg] at hl hk;have h:Cg L (((1,q.nm)::q.T++M9 Q)++(2,Fq)::R) x:=h;have h:Cg L ((1,q.nm)::(q.T++(M9 Q++(2,Fq)::R))) x:=by
   rw[<-Lq];exact h
  obtain⟨y,g,hy,hr,hg⟩:=hQ q Lo L _ x h;obtain⟨z,gs,hz,hr2,hgs⟩:=ja Q k y (rs++[g]) (fun q hq=>hQ q (Lh _ hq)) hr (by grind) (by omega);refine⟨z,g::gs,?_,hr2,.cons hg hgs⟩;unfold G0;rw[if_pos ⟨h.w,h.2.1,by omega⟩,h.1.is,show Ci ((1,q.nm)::(q.T++(M9 Q++(2,Fq)::R))) Fq=false from rfl,h.1.e0,OJ,Ov,if_pos rfl,ifn,hy,Zo,hz,Lq];rfl
structure Gg where
 nm:ByteArray
 Q:Option (List Fo)
def Gg.T (t:Gg):List Tk:=(1,bType)::(1,t.nm)::(match t.Q with |none=>[] |some Q=>(2,Qr)::(M9 Q++[(2,Fq)]))
def jb (mn:Bool)(t:Gg)(g:AT):Prop:=g.name=t.nm/\match t.Q with |none=>g.rels= [] |some Q=>IM mn Q g.rels
inductive Gi (mn:Bool):List Gg->List AT->Prop
 |nil:Gi mn [] []
 |cons {q:Gg} {g:AT} {Q:List Gg} {G:List AT} (h:jb mn q g) (hs:Gi mn Q G):Gi mn (q::Q) (g::G)
def ML (n c f:Nat)(mn:Bool)(t:Gg):Prop:=Fy n t.nm=some true/\∀Q,t.Q=some Q->Q.length<200/\Q.length<c/\∀q∈Q,Hb n c f mn q
theorem tW {t:Gg}(ht:ML n c f mn t)(h:Cg L (t.T++R) x)(hR:Ci R Qr=false):∃y g,J7 n c f x=some (y,g)/\Cg L R y/\jb mn t g:=by
 obtain⟨nm,Q⟩:=t;have e0:∀R2:List Tk,Cg L ((1,bType)::R2) x->tyM x=x:=fun R2 h=>by
  obtain⟨_,_,u,h1,h2,h3⟩:=h.1.next;simp_all [tyM,if_pos]
 cases Q with
 |none=>
  have h:Cg L ((1,bType)::(1,nm)::R) x:=h;have h1:=h.next;have h2:=h1.next;refine⟨_,⟨nm,[]⟩,?_,h2,rfl,rfl⟩;unfold J7;rw[e0 _ h,h1.1.name ht.1,Zo];dsimp only;rw[h2.1.is,hR,ND,if_neg (by decide),Zo]
 |some Q=>
  obtain⟨q1,q2,q3⟩:=ht.2 Q rfl;have h:Cg L ((1,bType)::(1,nm)::(2,Qr)::((M9 Q++[(2,Fq)])++R)) x:=h;rw[Lq] at h;have h1:=h.next;have h2:=h1.next;have h3:=h2.next;obtain⟨y,gs,hy,hr,hg⟩:=ja Q c _ [] q3 h3 (by simpa using q1) q2;refine⟨_,⟨nm,gs⟩,?_,hr.next,rfl,hg⟩;unfold J7;rw[e0 _ h,h1.1.name ht.1,Zo];dsimp only;rw[h2.1.is,show Ci ((2,Qr)::(M9 Q++([(2,Fq)]++R))) Qr=true by kernel_rfl,h.1.e0,if_pos (by decide)];rw[show G0 n c f c _ []=_ from hy];rw[LO,Zo];dsimp only;rw[hr.1.want];rfl
def U5 (Q:List Gg):List Tk:=Q.flatMap Gg.T
theorem jc:∀(Q:List Gg) (k:Nat) (x:Ae) (ts:List AT),(∀q∈Q,ML n c f mn q)->Cg L (U5 Q) x->ts.length+Q.length<200->Q.length<k->∃y gs,Hi n c f k x ts=some (y,ts++gs)/\y.e=0/\Gi mn Q gs
 |_,0,_,_,_,_,_,h=>absurd h (LK _)
 |[],k+1,x,ts,_,h,hl,_=>by
  have h:Cg L [] x:=h;refine⟨x,[],?_,h.1.e,.nil⟩;have hp:¬x.p<x.l.length:=fun hp=>by
   have:=h.1.r;rw[h.1.l] at hp;rw[Ly hp] at this;cases this
  unfold Hi;rw[if_pos ⟨h.w,h.2.1,by simp only[LB] at hl;omega⟩,decide_eq_false hp,ND,if_neg (by decide),LY]
 |q::Q,k+1,x,ts,hQ,h,hl,hk=>by
  simp only[Lg] at hl hk;have h:Cg L (q.T++U5 Q) x:=h;have hne:x.p<x.l.length:=by
   have h:Cg L ((1,bType)::_) x:=h;exact h.1.next.2.1
  obtain⟨y,g,hy,hr,hg⟩:=tW (hQ q Lo) h (by cases Q<;>rfl);obtain⟨z,gs,hz,hr2,hgs⟩:=jc Q k y (ts++[g]) (fun q hq=>hQ q (Lh _ hq)) hr (by grind) (by omega);refine⟨z,g::gs,?_,hr2,.cons hg hgs⟩;unfold Hi;rw[if_pos ⟨h.w,h.2.1,by omega⟩,h.1.e0,decide_eq_true hne,Ov,if_pos rfl,ifn,hy,Zo,hz,Lq];rfl
theorem tX {s:ByteArray}(hs:s.size<=100000)(hn:s.size+20<n){Q:List Gg}(hx:Lx s.data.toList (U5 Q))(hQ:∀q∈Q,ML n c f mn q)(h2:Q.length<200)(hc:Q.length<c):∃gs,J8 n c f s=some (gs,0,0)/\Gi mn Q gs:=by
 obtain⟨l,h1,h3⟩:=jS hs hn hx;obtain⟨r,h4,h5⟩:=kM s (s.size+100+n) (by omega);have hlen:l.length<=100000:=by
  obtain⟨l2,h6,h7⟩:=jS (n:=s.size+100+n) hs (by omega) hx;rw[h4] at h6
  have:=congrArg List.length (h3.trans h7.symm);rw[LC,LC] at this;cases h6;rw[this];exact h5.1
 obtain⟨y,gs,hy,he,hg⟩:=jc (L:=l) (mn:=mn) Q c ⟨l,0,(s.size:Int),0,0,0,[],0⟩ [] hQ ⟨⟨rfl,rfl,Ll _,h3,by omega⟩,rfl,Ll _⟩ (by simpa using h2) hc;simp_all [J8,Zo,if_pos]
end
abbrev bA (s:ByteArray):List UInt8:=s.data.toList
def GF (w:List UInt8):Prop:=∀x,w.head? =some x->GE x=false
theorem FF {b:UInt8}{w:List UInt8}(h:GE b=false):GF (b::w):=fun x e=>by cases e;exact h
def JE:List ByteArray:=[{ data:= #[114] },{ data:= #[115] },{ data:= #[114] },{ data:= #[115] },{ data:= #[115,45,62,114] },{ data:= #[115,45,62,112] },{ data:= #[112] },{ data:= #[113] }]
def IN:List ByteArray:=[{ data:= #[117] },{ data:= #[117] },{ data:= #[97,35,114] },{ data:= #[98,35,114] },{ data:= #[97,35,115] },{ data:= #[98,35,112] },{ data:= #[97] },{ data:= #[98] },{ data:= #[117] },{ data:= #[97,35,113] }]
def Qe:List ByteArray:=[{ data:= #[97] },{ data:= #[98] },{ data:= #[97,32,124,32,98] },{ data:= #[117,32,124,32,97] }]
def D5 (ed:Bool)(o:UInt8):UInt8:=if ed&&o==45 then 43 else o
def IP:List UInt8:=[43,38,45]
theorem Lx.sg' (b:UInt8){w:List UInt8}{T:List Tk}(hb:b∈Ha)(h45:b≠45)(h:Lx w T):Lx (b::w) ((2,⟨#[b]⟩)::T):=.sg b hb (fun e=>absurd e h45) h
theorem Lx.op (b:UInt8){w:List UInt8}{T:List Tk}(hb:b∈IP)(h:Lx w T):Lx (32::b::32::w) ((2,⟨#[b]⟩)::T):=
 .sp _ (.inl rfl) (.sg b (by revert b;decide) (fun _ e=>by cases e) (.sp _ (.inl rfl) h))
theorem Lx.w1 (u:UInt8){w:List UInt8}{T:List Tk}(hu:GE u=true)(hw:GF w)(h:Lx w T):Lx (u::w) ((1,⟨#[u]⟩)::T):=.wd u [] hu (fun x hx=>by cases hx) hw h
theorem Xd {ed:Bool}{o:UInt8}(h:o∈IP):D5 ed o∈IP:=by revert o;cases ed<;>decide
theorem bC {ed:Bool}{o:UInt8}(h:o∈IP):(⟨#[D5 ed o]⟩:ByteArray)=D2\/(⟨#[D5 ed o]⟩:ByteArray)=J0\/(⟨#[D5 ed o]⟩:ByteArray)=C9:=by
 have:=Xd (ed:=ed) h;generalize D5 ed o=q at this;simp only[IP,Lm,LT,or_false] at this;rcases this with rfl |rfl |rfl
 ·exact .inr (.inl rfl)
 ·exact .inl rfl
 exact .inr (.inr rfl)
theorem bD {ed:Bool}{o:UInt8}(h:o∈IP)(e:(⟨#[D5 ed o]⟩:ByteArray)=C9):(!ed)=true:=by
 have e2: #[D5 ed o]= #[45]:=congrArg ByteArray.data e;cases ed with
 |false=>rfl
 |true=>
  exfalso;simp only[IP,Lm,LT,or_false] at h;rcases h with rfl |rfl |rfl<;>revert e2<;>decide
def nT (a:ByteArray):List Tk:=match a.data.toList with
 |[s,_,_,p]=>[(1,⟨#[s]⟩),(2,IR),(1,⟨#[p]⟩)]
 |_=>[(1,a)]
theorem ok1 (m:Nat):∀x∈([{ data:= #[114] },{ data:= #[115] },{ data:= #[112] },{ data:= #[113] },{ data:= #[117] },{ data:= #[97] },{ data:= #[98] }]:List ByteArray),Fy (m+10) x=some true:=by
 intro x hx;simp only[Lm,LT,or_false] at hx;rcases hx with rfl |rfl |rfl |rfl |rfl |rfl |rfl<;>kernel_rfl
theorem U6 {a:ByteArray}(h:a∈JE){w:List UInt8}{T:List Tk}(hw:GF w)(hx:Lx w T):Lx (bA a++w) (nT a++T):=by
 simp only[JE,Lm,LT,or_false] at h;rcases h with rfl |rfl |rfl |rfl |rfl |rfl |rfl |rfl
 ·exact .w1 114 rfl hw hx
 ·exact .w1 115 rfl hw hx
 ·exact .w1 114 rfl hw hx
 ·exact .w1 115 rfl hw hx
 ·exact .w1 115 rfl (FF rfl) (.ar (.w1 114 rfl hw hx))
 ·exact .w1 115 rfl (FF rfl) (.ar (.w1 112 rfl hw hx))
 ·exact .w1 112 rfl hw hx
 exact .w1 113 rfl hw hx
theorem U7 {a:ByteArray}(h:a∈JE){m d:Nat}{ex:Ae->Option Ae}{mn:Bool}(hd:d<=20):Fm (m+10) ex (nT a) mn 1 d:=by
 have k:=ok1 m;simp only[JE,Lm,LT,or_false] at h;rcases h with rfl |rfl |rfl |rfl |rfl |rfl |rfl |rfl
 ·exact Sm hd (k _ (by simp))
 ·exact Sm hd (k _ (by simp))
 ·exact Sm hd (k _ (by simp))
 ·exact Sm hd (k _ (by simp))
 ·exact jT hd (k { data:= #[115] } (by simp)) (k { data:= #[114] } (by simp))
 ·exact jT hd (k { data:= #[115] } (by simp)) (k { data:= #[112] } (by simp))
 ·exact Sm hd (k _ (by simp))
 exact Sm hd (k _ (by simp))
inductive Tl where
 |no
 |one (o:UInt8) (a:ByteArray)
 |par (a b:ByteArray)
structure GG where
 a:ByteArray
 o:UInt8
 b:ByteArray
 t:Tl
def Tl.ok:Tl->Prop
 |no=>True
 |one o a=>o∈IP/\a∈JE
 |par a b=>a∈JE/\b∈JE
def GG.ok (e:GG):Prop:=e.a∈JE/\e.o∈IP/\e.b∈JE/\e.t.ok
def Tl.B (ed:Bool):Tl->List UInt8
 |no=>[]
 |one o a=>32::D5 ed o::32::bA a
 |par a b=>32::D5 ed 45::32::40::(bA a++(32::38::32::(bA b++[41])))
def GG.B (ed:Bool)(e:GG):List UInt8:=bA e.a++(32::D5 ed e.o::32::(bA e.b++e.t.B ed))
def Tl.S (ed:Bool):Tl->List Fa
 |no=>[]
 |one o a=>[⟨⟨#[D5 ed o]⟩,nT a,1⟩]
 |par a b=>[⟨⟨#[D5 ed 45]⟩,(2,KX)::((nT a++EY [⟨D2,nT b,1⟩])++[(2,Gz)]),3⟩]
def GG.T (ed:Bool)(e:GG):List Tk:=nT e.a++EY (⟨⟨#[D5 ed e.o]⟩,nT e.b,1⟩::e.t.S ed)
theorem jd (f:Fa)(S:List Fa):EY (f::S)=(2,f.op)::(f.T++EY S):=rfl
theorem Qf {v w:List UInt8}(hv:v= []\/v.head? =some 32)(hw:GF w):GF (v++w):=by
 rcases hv with rfl |hv
 ·exact hw
 cases v with
 |nil=>cases hv
 |cons b v=>cases hv;exact FF rfl
theorem U8 (ed:Bool)(t:Tl):t.B ed= []\/(t.B ed).head? =some 32:=by
 cases t with
 |no=>exact .inl rfl
 |one o a=>exact .inr rfl
 |par a b=>exact .inr rfl
theorem U9 {ed:Bool}{t:Tl}(h:t.ok){w:List UInt8}{T:List Tk}(hw:GF w)(hx:Lx w T):Lx (t.B ed++w) (EY (t.S ed)++T):=by
 cases t with
 |no=>exact hx
 |one o a=>
  have:=Lx.op (D5 ed o) (Xd h.1) (U6 h.2 hw hx);have e:EY (Tl.S ed (.one o a))++T=(2,⟨#[D5 ed o]⟩)::(nT a++T):=by
   show EY [_]++T=_;rw[jd];simp[EY]
  rw[e];exact this
 |par a b=>
  have h1:Lx (41::w) ((2,Gz)::T):=.sg' 41 (by decide) (by decide) hx;have h2:=Lx.op 38 (by decide) (U6 h.2 (FF rfl) h1);have h3:=U6 h.1 (FF rfl) h2;have h4:Lx (40::_) ((2,KX)::_):=.sg' 40 (by decide) (by decide) h3;have h5:=Lx.op (D5 ed 45) (Xd (by decide)) h4;have e1:Tl.B ed (.par a b)++w=32::D5 ed 45::32::40::(bA a++32::38::32::(bA b++41::w)):=by
   simp[Tl.B]
  have e2:EY (Tl.S ed (.par a b))++T=(2,⟨#[D5 ed 45]⟩)::(2,KX)::(nT a++(2,⟨#[38]⟩)::(nT b++(2,Gz)::T)):=by
   simp[Tl.S,EY,D2]
  rw[e1,e2];exact h5
theorem PB {ed:Bool}{e:GG}(h:e.ok){w:List UInt8}{T:List Tk}(hw:GF w)(hx:Lx w T):Lx (e.B ed++w) (e.T ed++T):=by
 have h1:=U6 h.2.2.1 (Qf (U8 ed e.t) hw) (U9 (ed:=ed) h.2.2.2 hw hx);have h2:=U6 h.1 (FF rfl) (Lx.op (D5 ed e.o) (Xd h.2.1) h1);have e1:e.B ed++w=bA e.a++32::D5 ed e.o::32::(bA e.b++(e.t.B ed++w)):=by simp[GG.B]
 grind [nT,D5,EY,GG.T,jd]
theorem je {ed:Bool}{e:GG}(h:e.ok){m c f:Nat}(hc:10<c):U4 (EZ (m+10) c (f+2)) (e.T ed) (!ed) 20 0:=by
 have h1:Fm (m+10) (EZ (m+10) c (f+1)) (nT e.b) (!ed) 1 0:=U7 h.2.2.1 (by decide);have key:∀g∈(⟨⟨#[D5 ed e.o]⟩,nT e.b,1⟩::e.t.S ed:List Fa),Fm (m+10) (EZ (m+10) c (f+1)) g.T (!ed) g.k 0/\(g.op=D2\/g.op=J0\/g.op=C9)/\(g.op=C9->(!ed)=true):=by
  intro g hg;rcases Lm.1 hg with rfl |hg
  ·exact⟨h1,bC h.2.1,bD h.2.1⟩
  have ht:=h.2.2.2;revert hg ht;cases e.t with
  |no=>intro hg;cases hg
  |one o a=>
   intro hg ht;rw[Ln.1 hg];exact⟨U7 ht.2 (by decide),bC ht.1,bD ht.1⟩
  |par a b=>
   intro hg ht;rw[Ln.1 hg];refine⟨?_,bC (by decide),bD (by decide)⟩;have hx:U4 (EZ (m+10) c (f+1)) (nT a++EY [⟨D2,nT b,1⟩]) (!ed) (1+Da [⟨D2,nT b,1⟩]) 1:=jV (by decide) (U7 ht.1 (by decide)) (fun g hg=>by
    rw[Ln.1 hg];exact⟨U7 ht.2 (by decide),.inl rfl,fun e=>absurd (show D2=C9 from e) (by decide)⟩) (by show 1<c;omega)
   exact tT (by decide) hx
 have hlen:(⟨⟨#[D5 ed e.o]⟩,nT e.b,1⟩::e.t.S ed:List Fa).length<=2/\Da (⟨⟨#[D5 ed e.o]⟩,nT e.b,1⟩::e.t.S ed:List Fa)<=19:=by
  cases e.t<;>exact⟨by simp[Tl.S],by simp[Da,Tl.S]⟩
 have:=jV (c:=c) (f:=f+1) (k:=1) (d:=0) (by decide) (U7 h.1 (by decide)) key (by omega);intro L R x q1 q2 q3 q4;obtain⟨y,hy,hg⟩:=this L R x q1 q2 q3 (by omega);exact⟨y,hy,hg.mono (by omega)⟩
def MN (ex:List AY):Prop:=∀x∈ex,x.kind=1\/x.kind=2\/x.kind=3\/x.kind=4\/x.kind=5
theorem bN:MN []:=by intro _ h;cases h
theorem VI (x:Ae)(c:Int):(jw_ x c).out=x.out:=by unfold jw_;split<;>rfl
theorem jy (x:Ae)(t:ByteArray):(DV x t).out=x.out:=by
 unfold DV;split
 ·split
  ·rfl
  exact VI _ _
 rfl
theorem Xn {n:Nat}{x:Ae}{r:Ae × ByteArray}(h:xL_ n x=some r):r.1.out=x.out:=by
 unfold xL_ at h;split at h
 ·split at h
  ·split at h
   ·obtain⟨b,_,h⟩:=AJ h;split at h
    ·cases h;rfl
    cases h;exact VI _ _
   cases h;exact VI _ _
  cases h;exact VI _ _
 cases h;rfl
theorem Xo {x:Ae}{s:AY}{a:Int}(hx:MN x.out)(hs:s.kind=1\/s.kind=2\/s.kind=3\/s.kind=4\/s.kind=5):MN (C5 x s a).out:=by
 unfold C5;split
 ·split
  ·exact hx
  intro y hy;rcases Ls.1 hy with hy |hy
  ·exact hx y hy
  grind
 exact hx
def PJ (g:Ae->Option Ae):Prop:=∀x y,g x=some y->MN x.out->MN y.out
theorem PK {n:Nat}{ex:Ae->Option Ae}(hex:PJ ex):PJ (EB n ex):=by
 intro x y h hx;unfold EB at h;split at h;rotate_left
 ·cases h
 split at h
 ·split at h
  ·cases h;rw[VI];exact hx
  obtain⟨z,h1,h⟩:=AJ h;split at h
  ·cases h;show MN (DV z Gz).out;rw[jy];exact hex _ _ h1 hx
  cases h
 obtain⟨r,h1,h⟩:=AJ h;have e1:=Xn h1;split at h
 ·obtain⟨s,h2,h⟩:=AJ h;have e2:=Xn h2;cases h;exact Xo (by grind) (.inr (.inl rfl))
 cases h;exact Xo (by rw[e1];exact hx) (.inl rfl)
theorem jz {n:Nat}{ex:Ae->Option Ae}(hex:PJ ex):∀c,PJ (GQ n ex c)
 |0,_,_,h,_=>by cases h
 |c+1,x,y,h,hx=>by
  unfold GQ at h;split at h
  ·split at h
   ·obtain⟨z,h1,h⟩:=AJ h;split at h
    ·exact jz hex c _ _ h (Xo (PK hex _ _ h1 hx) (.inr (.inr (.inr (.inr rfl)))))
    cases h
   cases h;exact hx
  cases h
theorem kA {trm:Ae->Option Ae}(ht:PJ trm):∀c,PJ (Fd trm c)
 |0,_,_,h,_=>by cases h
 |c+1,x,y,h,hx=>by
  unfold Fd at h;split at h
  ·split at h
   ·obtain⟨z,h1,h⟩:=AJ h;split at h
    ·refine kA ht c _ _ h (Xo (ht _ _ h1 hx) ?_);grind
    cases h
   cases h;exact hx
  cases h
theorem bO {n c:Nat}:∀f,PJ (EZ n c f)
 |0,_,_,h,_=>by cases h
 |f+1,x,y,h,hx=>by
  have ht:PJ (FQ n (EZ n c f) c):=fun a b e ha=>by
   unfold FQ at e;obtain⟨z,e1,e⟩:=AJ e;exact jz (bO f) c _ _ e (PK (bO f) _ _ e1 ha)
  unfold EZ at h;obtain⟨z,h1,h⟩:=AJ h;exact kA ht c _ _ h (ht _ _ h1 hx)
def FR (g:Ac):Prop:=g.subs.length<=51/\g.expr.length<=200/\(g.subs= []\/g.expr= [])/\(∀s∈g.subs,s.id_=ByteArray.empty)/\MN g.expr
def JG (l:List AT):Prop:=l.length<=201/\∀t∈l,t.rels.length<=200/\∀g∈t.rels,FR g
theorem kB {n:Nat}:∀(c:Nat) {x:Ae} {ss:List AL} {y:Ae × List AL},(∀s∈ss,s.id_=ByteArray.empty)->GR n c x ss=some y->y.2.length<=51/\∀s∈y.2,s.id_=ByteArray.empty
 |0,_,_,_,_,h=>by cases h
 |c+1,x,ss,y,hi,h=>by
  have hi2:∀a b:ByteArray,∀s∈ss++[⟨a,ByteArray.empty,b⟩],s.id_=ByteArray.empty:=fun a b s hs=>by
   grind
  unfold GR at h;split at h;rotate_left
  ·cases h
  rename_i hg;split at h
  ·obtain⟨r1,_,h⟩:=AJ h;obtain⟨r2,_,h⟩:=AJ h;split at h
   ·exact kB c (hi2 _ _) h
   grind
  grind
theorem Qq {n c f:Nat}{x:Ae}{y:Ae × Ac}(h:EJ n c f x=some y):FR y.2:=by
 unfold EJ at h;split at h;rotate_left
 ·cases h
 obtain⟨r,_,h⟩:=AJ h;split at h
 ·obtain⟨z,hz1,h⟩:=AJ h;split at h
  ·rename_i hz;cases h;exact⟨Ll _,hz.2.2.1,.inl rfl,(by intro _ h;cases h),bO f _ _ hz1 bN⟩
  cases h
 obtain⟨p,h2,rfl⟩:=La.1 h;obtain⟨q1,q2⟩:=kB c (ss:=[]) (by intro _ h;cases h) h2;exact⟨q1,Ll _,.inr rfl,q2,bN⟩
theorem bP {n c f:Nat}:∀(k:Nat) {x:Ae} {rs:List Ac} {y:Ae × List Ac},(∀g∈rs,FR g)->G0 n c f k x rs=some y->y.2.length<=200/\∀g∈y.2,FR g
 |0,_,_,_,_,h=>by cases h
 |k+1,x,rs,y,hr,h=>by
  unfold G0 at h;split at h;rotate_left
  ·cases h
  rename_i hg;split at h
  ·split at h
   ·exact bP k hr h
   obtain⟨p,h1,h⟩:=AJ h;refine bP k (fun g hm=> ?_) h;grind [List.mem_singleton,Qq]
  cases h;exact⟨hg.2.2,hr⟩
theorem tz {n c f:Nat}{x:Ae}{y:Ae × AT}(h:J7 n c f x=some y):y.2.rels.length<=200/\∀g∈y.2.rels,FR g:=by
 unfold J7 at h;obtain⟨r,_,h⟩:=AJ h;obtain⟨q,h1,h⟩:=AJ h;cases h;split at h1
 ·obtain⟨p,h2,rfl⟩:=La.1 h1;exact bP c (fun _ hm=>by cases hm) h2
 grind
theorem kC {n c f:Nat}:∀(k:Nat) {x:Ae} {ts:List AT} {y:Ae × List AT},(∀t∈ts,t.rels.length<=200/\∀g∈t.rels,FR g)->Hi n c f k x ts=some y->JG y.2
 |0,_,_,_,_,h=>by cases h
 |k+1,x,ts,y,hr,h=>by
  unfold Hi at h;split at h;rotate_left
  ·cases h
  rename_i hg;split at h
  ·obtain⟨p,h1,h⟩:=AJ h;refine kC k (fun g hm=> ?_) h;grind [List.mem_singleton,tz]
  cases h;exact⟨hg.2.2,hr⟩
theorem uA {n c f:Nat}{s:ByteArray}{y:List AT × Int × Int}(h:J8 n c f s=some y):JG y.1:=by
 unfold J8 at h;obtain⟨t,_,h⟩:=AJ h;split at h
 ·obtain⟨r,h1,h⟩:=AJ h;have hb:=kC c (fun _ hm=>by cases hm) h1;split at h
  ·cases h;exact hb
  cases h;exact⟨Ll _,fun _ hm=>by cases hm⟩
 cases h;exact⟨Ll _,fun _ hm=>by cases hm⟩
def MO (n:Nat)(s:ByteArray):Option (List AT):=(J8 n n n s).map (·.1)
theorem uB (s:ByteArray)(n:Nat)(hn:s.size+100200<=n):∃l,MO n s=some l/\JG l:=by
 obtain⟨t,e,h1,h2⟩:=kM s n (by omega);have hp:∃y,J8 n n n s=some y:=by
  unfold J8;rw[e,Zo];split
  ·obtain⟨r,e2⟩:=bS (n:=n) (L:=t.1) (fun u hu=>uG (by have:=h2 u hu;omega) (by have:=h2 u hu;omega)) (c:=n) (f:=n) (by omega) (by omega) n ⟨t.1,0,(s.size:Int),0,0,0,[],0⟩ [] rfl ⟨by show t.1.length<_;omega,Ll _,Ll _,Ll _⟩ rfl (Ll _) (fun _=>Ll _) (by show t.1.length-0<_;omega);rw[e2,Zo];split
   ·exact⟨_,rfl⟩
   exact⟨_,rfl⟩
  exact⟨_,rfl⟩
 obtain⟨y,hy⟩:=hp;exact⟨y.1,by unfold MO;rw[hy];rfl,uA hy⟩
def HB (v:ByteArray):Sb:=match v.data.toList with
 |[a,_,r]=>⟨⟨#[a]⟩,some ⟨#[r]⟩⟩
 |_=>⟨v,none⟩
theorem Jw {v:ByteArray}(h:v∈IN){w:List UInt8}{T:List Tk}(hw:GF w)(hx:Lx w T):Lx (bA v++w) ((HB v).T++T):=by
 simp only[IN,Lm,LT,or_false] at h;have two:∀a r:UInt8,GE a=true->GE r=true->Lx (a::35::r::w) ((1,⟨#[a]⟩)::(2,bt_)::(1,⟨#[r]⟩)::T):=fun a r ha hr=>.w1 a ha (FF rfl) (.sg' 35 (by decide) (by decide) (.w1 r hr hw hx));rcases h with rfl |rfl |rfl |rfl |rfl |rfl |rfl |rfl |rfl |rfl
 ·exact .w1 117 rfl hw hx
 ·exact .w1 117 rfl hw hx
 ·exact two 97 114 rfl rfl
 ·exact two 98 114 rfl rfl
 ·exact two 97 115 rfl rfl
 ·exact two 98 112 rfl rfl
 ·exact .w1 97 rfl hw hx
 ·exact .w1 98 rfl hw hx
 ·exact .w1 117 rfl hw hx
 exact two 97 113 rfl rfl
theorem PC {v:ByteArray}(h:v∈IN)(m:Nat):(HB v).ok (m+10):=by
 have k:=ok1 m;simp only[IN,Lm,LT,or_false] at h;rcases h with rfl |rfl |rfl |rfl |rfl |rfl |rfl |rfl |rfl |rfl<;>exact⟨k _ (by simp[HB]),fun r e=>by first |(cases e;exact k _ (by simp)) |cases e⟩
def IQ (v:ByteArray):Sb × List Sb:=match v.data.toList with
 |[a,_,_,_,b]=>(⟨⟨#[a]⟩,none⟩,[⟨⟨#[b]⟩,none⟩])
 |_=>(⟨v,none⟩,[])
theorem VA {v:ByteArray}(h:v∈Qe){w:List UInt8}{T:List Tk}(hx:Lx w T):Lx (bA v++59::w) (Gy (IQ v).1 (IQ v).2++T):=by
 simp only[Qe,Lm,LT,or_false] at h;have h1:Lx (59::w) ((2,EN)::T):=.sg' 59 (by decide) (by decide) hx;have two:∀a b:UInt8,GE a=true->GE b=true->Lx (a::32::124::32::b::59::w) ((1,⟨#[a]⟩)::(2,E6)::(1,⟨#[b]⟩)::(2,EN)::T):=fun a b ha hb=>.w1 a ha (FF rfl) (.sp _ (.inl rfl) (.sg' 124 (by decide) (by decide) (.sp _ (.inl rfl) (.w1 b hb (FF rfl) h1))));rcases h with rfl |rfl |rfl |rfl
 ·exact .w1 97 rfl (FF rfl) h1
 ·exact .w1 98 rfl (FF rfl) h1
 ·exact two 97 98 rfl rfl
 exact two 117 97 rfl rfl
theorem VB {v:ByteArray}(h:v∈Qe)(m:Nat):(IQ v).1.ok (m+10)/\(∀t∈(IQ v).2,t.ok (m+10))/\(IQ v).2.length<=1:=by
 have k:=ok1 m;simp only[Qe,Lm,LT,or_false] at h;rcases h with rfl |rfl |rfl |rfl
 ·exact⟨⟨k _ (by simp[IQ]),fun r e=>by cases e⟩,(fun t ht=>by cases ht),by decide⟩
 ·exact⟨⟨k _ (by simp[IQ]),fun r e=>by cases e⟩,(fun t ht=>by cases ht),by decide⟩
 ·exact⟨⟨k _ (by simp[IQ]),fun r e=>by cases e⟩,(fun t ht=>by rw[Ln.1 ht];exact⟨k _ (by simp),fun r e=>by cases e⟩),by decide⟩
 exact⟨⟨k _ (by simp[IQ]),fun r e=>by cases e⟩,(fun t ht=>by rw[Ln.1 ht];exact⟨k _ (by simp),fun r e=>by cases e⟩),by decide⟩
structure FP where
 s1:ByteArray
 s2:Option ByteArray
 sp:ByteArray
 p:GG
 q:GG
def FP.ok (t:FP):Prop:=t.s1∈IN/\(∀v,t.s2=some v->v∈IN)/\t.sp∈Qe/\t.p.ok/\t.q.ok
def Jx:Option ByteArray->List UInt8
 |none=>[]
 |some v=>32::124::32::bA v
def FP.B (t:FP)(nm:UInt8)(ed:Bool):List UInt8:=116::121::112::101::32::nm::32::123::32::114::58::32::(bA t.s1++(Jx t.s2++(59::32::115::58::32::(bA t.sp++(59::32::112::32::61::32::(t.p.B ed++(59::32::113::32::61::32::(t.q.B ed++[59,32,125,10]))))))))
def Qg:Option ByteArray->List Sb
 |none=>[]
 |some v=>[HB v]
def FP.Q (t:FP)(ed:Bool):List Fo:=[⟨⟨#[114]⟩,(2,Eg)::Gy (HB t.s1) (Qg t.s2),true⟩,⟨⟨#[115]⟩,(2,Eg)::Gy (IQ t.sp).1 (IQ t.sp).2,true⟩,⟨⟨#[112]⟩,(2,KY)::(t.p.T ed++[(2,EN)]),false⟩,⟨⟨#[113]⟩,(2,KY)::(t.q.T ed++[(2,EN)]),false⟩]
def FP.T (t:FP)(nm:UInt8)(ed:Bool):Gg:=⟨⟨#[nm]⟩,some (t.Q ed)⟩
theorem jf {w:List UInt8}{T:List Tk}(hw:GF w)(hx:Lx w T):Lx (116::121::112::101::w) ((1,bType)::T):=
 .wd 116 [121,112,101] rfl (by decide) hw hx
theorem bE {v:ByteArray}(h1:v∈IN){o:Option ByteArray}(h2:∀v,o=some v->v∈IN){w:List UInt8}{T:List Tk}(hx:Lx w T):Lx (bA v++(Jx o++59::w)) (Gy (HB v) (Qg o)++T):=by
 have h3:Lx (59::w) ((2,EN)::T):=.sg' 59 (by decide) (by decide) hx;cases o with
 |none=>
  have e:Gy (HB v) (Qg none)++T=(HB v).T++(2,EN)::T:=by
   show((HB v).T++[(2,EN)])++T=_;rw[Lq];rfl
  rw[e];exact Jw h1 (FF rfl) h3
 |some u=>
  have e:Gy (HB v) (Qg (some u))++T=(HB v).T++(2,E6)::((HB u).T++(2,EN)::T):=by
   show((HB v).T++(2,E6)::((HB u).T++[(2,EN)]))++T=_;simp only[Lq,LJ,LE]
  rw[e];exact Jw h1 (FF rfl) (.sp 32 (.inl rfl) (.sg' 124 (by decide) (by decide) (.sp 32 (.inl rfl) (Jw (h2 u rfl) (FF rfl) h3))))
theorem PD {t:FP}(h:t.ok){nm:UInt8}(hn:GE nm=true){ed:Bool}{w:List UInt8}{T:List Tk}(hx:Lx w T):Lx (t.B nm ed++w) ((t.T nm ed).T++T):=by
 obtain⟨h1,h2,h3,h4,h5⟩:=h;have a1:Lx (59::32::125::10::w) ((2,EN)::(2,Fq)::T):=.sg' 59 (by decide) (by decide) (.sp _ (.inl rfl) (.sg' 125 (by decide) (by decide) (.sp _ (.inr rfl) hx)));have a2:=PB (ed:=ed) h5 (FF rfl) a1;have a3:=Lx.sg' 59 (by decide) (by decide) (.sp 32 (.inl rfl) (.w1 113 rfl (FF rfl) (.sp 32 (.inl rfl) (.sg' 61 (by decide) (by decide) (.sp 32 (.inl rfl) a2)))));have a4:=PB (ed:=ed) h4 (FF rfl) a3;have a5:=Lx.sp 32 (.inl rfl) (.w1 112 rfl (FF rfl) (.sp 32 (.inl rfl) (.sg' 61 (by decide) (by decide) (.sp 32 (.inl rfl) a4))));have a6:=VA h3 a5;have a7:=Lx.sp 32 (.inl rfl) (.w1 115 rfl (FF rfl) (.sg' 58 (by decide) (by decide) (.sp 32 (.inl rfl) a6)));have a8:=bE h1 h2 a7;have a9:=jf (FF rfl) (.sp 32 (.inl rfl) (.w1 nm hn (FF rfl) (.sp 32 (.inl rfl) (.sg' 123 (by decide) (by decide) (.sp 32 (.inl rfl) (.w1 114 rfl (FF rfl) (.sg' 58 (by decide) (by decide) (.sp 32 (.inl rfl) a8))))))));have e1:t.B nm ed++w=116::121::112::101::32::nm::32::123::32::114::58::32::(bA t.s1++(Jx t.s2++59::32::115::58::32::(bA t.sp++59::32::112::32::61::32::(t.p.B ed++59::32::113::32::61::32::(t.q.B ed++59::32::125::10::w))))):=by
  simp only[FP.B,LJ,Lq,LE]
 rw[e1];have e2:(t.T nm ed).T++T=(1,bType)::(1,⟨#[nm]⟩)::(2,⟨#[123]⟩)::(1,⟨#[114]⟩)::(2,⟨#[58]⟩)::(Gy (HB t.s1) (Qg t.s2)++((1,⟨#[115]⟩)::(2,⟨#[58]⟩)::(Gy (IQ t.sp).1 (IQ t.sp).2++((1,⟨#[112]⟩)::(2,⟨#[61]⟩)::(t.p.T ed++((2,⟨#[59]⟩)::(1,⟨#[113]⟩)::(2,⟨#[61]⟩)::(t.q.T ed++((2,EN)::(2,Fq)::T)))))))):=by
  simp only[FP.T,Gg.T,FP.Q,M9,If,In,LJ,Lq,LE,LY];rfl
 rw[e2];exact a9
theorem PE {t:FP}(h:t.ok){nm:UInt8}{ed:Bool}{m c f:Nat}(hn:Fy (m+10) ⟨#[nm]⟩=some true)(hc:10<c):ML (m+10) c (f+2) (!ed) (t.T nm ed):=by
 obtain⟨h1,h2,h3,h4,h5⟩:=h;have k:=ok1 m;refine⟨hn,fun Q e=> ?_⟩;cases e;refine⟨by show 4<200;decide,by show 4<c;omega,fun q hq=> ?_⟩;simp only[FP.Q,Lm,LT,or_false] at hq;rcases hq with rfl |rfl |rfl |rfl
 ·refine jY (k _ (by simp)) (PC h1 m) (fun u hu=> ?_) ?_ ?_
  ·cases e:t.s2 with |none=>rw[e] at hu;cases hu |some v=>rw[e] at hu;rw[Ln.1 hu];exact PC (h2 v e) m
  ·cases t.s2<;>simp[Qg]
  cases t.s2<;>simp only[Qg,LB,Lr]<;>omega
 ·obtain⟨q1,q2,q3⟩:=VB h3 m;exact jY (k _ (by simp)) q1 q2 (by omega) (by omega)
 ·exact jZ (k _ (by simp)) (je h4 hc) (by decide)
 exact jZ (k _ (by simp)) (je h5 hc) (by decide)
def Q3 (A B:FP)(ed:Bool):List Gg:=[⟨{ data:= #[117] },none⟩,A.T 97 ed,B.T 98 ed]
def B3 (A B:FP)(ed:Bool):List UInt8:=[116,121,112,101,32,117,10]++(A.B 97 ed++B.B 98 ed)
theorem tY {A B:FP}(hA:A.ok)(hB:B.ok){ed:Bool}{s:ByteArray}{m:Nat}(hb:bA s=B3 A B ed)(hs:s.size<=100000)(hn:s.size+40<m):∃gs,MO (m+10) s=some gs/\Gi (!ed) (Q3 A B ed) gs:=by
 have hx:Lx s.data.toList (U5 (Q3 A B ed)):=by
  rw[show s.data.toList=B3 A B ed from hb];have b1:=PD (nm:=98) (ed:=ed) hB rfl .nil;rw[LY] at b1;have b2:=PD (nm:=97) (ed:=ed) hA rfl b1;have b3:=jf (FF rfl) (.sp 32 (.inl rfl) (.w1 117 rfl (FF rfl) (.sp 10 (.inr rfl) b2)));have e:U5 (Q3 A B ed)=(1,bType)::(1,⟨#[117]⟩)::((A.T 97 ed).T++((B.T 98 ed).T++[])):=rfl;rw[e];exact b3
 obtain⟨gs,h1,h2⟩:=tX (n:=m+10) (c:=m+10) (f:=m+8+2) (mn:= !ed) hs (by omega) hx (fun q hq=>by
  simp only[Q3,Lm,LT,or_false] at hq;rcases hq with rfl |rfl |rfl
  ·exact⟨ok1 m _ (by simp),fun Q e=>by cases e⟩
  ·exact PE hA (ok1 m _ (by simp)) (by omega)
  exact PE hB (ok1 m _ (by simp)) (by omega)) (by show 3<200;decide) (by show 3<m+10;omega)
 grind [MO,J8]
theorem Eo {a b c:ByteArray}(h:EH a b=some c):bA c=bA a++bA b:=by
 obtain⟨_,rfl⟩:=Ew h;simp[bA,ByteArray.data_append]
theorem Xe {α:Type}{xs:List α}{i:Int}{x:α}(h:C4 xs i=some x):x∈xs:=Lt (Je h).2
theorem jg {n:Nat}{v:Int}{s:ByteArray}(h:MH n v=some s):s∈IN:=by
 unfold MH at h;obtain⟨x,h1,h2⟩:=AJ h;cases h2;exact Xe h1
theorem Xf {n:Nat}{v:Int}{s:ByteArray}(h:KS n v=some s):s∈JE:=by
 unfold KS at h;obtain⟨x,h1,h2⟩:=AJ h;cases h2;exact Xe h1
theorem Qh {x:ByteArray}(h:x∈([{ data:= #[32,43,32] },{ data:= #[32,38,32] },{ data:= #[32,45,32] },{ data:= #[32,43,32] }]:List ByteArray)):∃o∈IP,bA x= [32,o,32]:=by
 simp only[Lm,LT,or_false] at h;rcases h with rfl |rfl |rfl |rfl
 ·exact⟨43,by decide,rfl⟩
 ·exact⟨38,by decide,rfl⟩
 ·exact⟨45,by decide,rfl⟩
 exact⟨43,by decide,rfl⟩
theorem jh {n c j:Nat}{t0:List Int}{t7:Int}{t68 r:ByteArray}(hj:j<2)(h:IL n t0 t7 (c+1) (t68,(j:Int))=some r):∃(s2:ByteArray) (E:GG),E.ok/\bA s2=bA t68++(32::(if j=0 then 112 else 113)::32::61::32::(E.B false++[59]))/\IL n t0 t7 c (s2,((j+1:Nat):Int))=some r:=by
 have ew:IntKind.i64.wrap ((j:Int)+1)=((j+1:Nat):Int):=As;unfold IL at h;rw[if_pos Cb,ew] at h;obtain⟨t674,_,h⟩:=AJ h;obtain⟨s62,b2,h⟩:=AJ h;obtain⟨x11,b3,h⟩:=AJ h;obtain⟨s63,b4,h⟩:=AJ h;obtain⟨s64,b5,h⟩:=AJ h;obtain⟨na,b6,h⟩:=AJ h;obtain⟨s65,b7,h⟩:=AJ h;obtain⟨x12,b8,h⟩:=AJ h;obtain⟨s66,b9,h⟩:=AJ h;obtain⟨nb,b10,h⟩:=AJ h;obtain⟨s67,b11,h⟩:=AJ h;have h11:bA x11= [if j=0 then 112 else 113]:=by
  obtain⟨_,h3⟩:=Je b3;rw[Lv] at h3;rcases Nf 0 j with hj0 |hj0
  ·grind
  grind
 obtain⟨o,ho,h12⟩:=Qh (Xe b8);have e67:bA s67=bA t68++(32::(if j=0 then 112 else 113)::32::61::32::(bA na++(32::o::32::bA nb))):=by
  rw[Eo b11,Eo b9,Eo b7,Eo b5,Eo b4,Eo b2,h11,h12];simp[bA]
 have hab:=Xf b6;have hbb:=Xf b10;rcases CM h with⟨_,h⟩ |⟨_,h⟩;rotate_left
 ·obtain⟨s75,b13,h⟩:=AJ h;refine⟨s75,⟨na,o,nb,.no⟩,⟨hab,ho,hbb,trivial⟩,?_,h⟩;rw[Eo b13,e67];simp[bA,GG.B,Tl.B,D5]
 obtain⟨x13,b13,h⟩:=AJ h;obtain⟨s68,b14,h⟩:=AJ h;obtain⟨nc,b15,h⟩:=AJ h;obtain⟨s69,b16,h⟩:=AJ h;have hcb:=Xf b15;have hx:=Je b13;rcases CM h with⟨c3,h⟩ |⟨c3,h⟩
 ·obtain⟨s70,b17,h⟩:=AJ h;obtain⟨nd,b18,h⟩:=AJ h;obtain⟨s71,b19,h⟩:=AJ h;obtain⟨s72,b20,h⟩:=AJ h;obtain⟨s73,b21,h⟩:=AJ h;rw[eq_of_beq c3] at hx;have h13:x13={ data:= #[32,45,32,40] }:=by have:=hx.2;cases this;rfl
  refine⟨s73,⟨na,o,nb,.par nc nd⟩,⟨hab,ho,hbb,hcb,Xf b18⟩,?_,h⟩;rw[Eo b21,Eo b20,Eo b19,Eo b17,Eo b16,Eo b14,e67,h13];simp[bA,GG.B,Tl.B,D5]
 obtain⟨s74,b17,h⟩:=AJ h;have h13:∃o2∈IP,bA x13= [32,o2,32]:=by
  have hne:an (sh t674 13) 3≠3:=fun e=>by
   rw[SP _ 3 (by decide),e] at c3;cases c3
  have hle:an (sh t674 13) 3<=3:=UD _ 3;have h3:=hx.2;rw[SP _ 3 (by decide),Lv] at h3;generalize an (sh t674 13) 3=z at hne hle h3;rcases z with _ |_ |_ |z
  ·cases h3;exact⟨43,by decide,rfl⟩
  ·cases h3;exact⟨38,by decide,rfl⟩
  ·cases h3;exact⟨45,by decide,rfl⟩
  omega
 obtain⟨o2,ho2,h13⟩:=h13;refine⟨s74,⟨na,o,nb,.one o2 nc⟩,⟨hab,ho,hbb,ho2,hcb⟩,?_,h⟩;rw[Eo b17,Eo b16,Eo b14,e67,h13];simp[bA,GG.B,Tl.B,D5]
theorem Qi {n c:Nat}{t0:List Int}{t7:Int}{s r:ByteArray}(h:IL n t0 t7 (c+3) (s,0)=some r):∃p q:GG,p.ok/\q.ok/\bA r=bA s++(32::112::32::61::32::(p.B false++(59::32::113::32::61::32::(q.B false++[59])))):=by
 obtain⟨s1,p,hp,e1,h⟩:=jh (j:=0) (by decide) h;obtain⟨s2,q,hq,e2,h⟩:=jh (j:=1) (by decide) h;unfold IL at h;grind
theorem ji {m c j:Nat}{t0:List Int}{t65 r:ByteArray}{t7:Int}(hj:j<2)(h:KT (m+3) t0 (c+1) (t65,t7,(j:Int))=some r):∃(s2:ByteArray) (A:FP) (t7':Int),A.ok/\bA s2=bA t65++A.B (if j=0 then 97 else 98) false/\KT (m+3) t0 c (s2,t7',((j+1:Nat):Int))=some r:=by
 have ew:IntKind.i64.wrap ((j:Int)+1)=((j+1:Nat):Int):=As;unfold KT at h;rw[if_pos Cb,ew] at h;obtain⟨s39,b1,h⟩:=AJ h;obtain⟨x7,b2,h⟩:=AJ h;obtain⟨s40,b3,h⟩:=AJ h;obtain⟨s41,b4,h⟩:=AJ h;obtain⟨t272,_,h⟩:=AJ h;obtain⟨v1,b5,h⟩:=AJ h;obtain⟨s42,b6,h⟩:=AJ h;obtain⟨t322,_,h⟩:=AJ h;obtain⟨t66,b7,h⟩:=AJ h;obtain⟨s45,b8,h⟩:=AJ h;obtain⟨t502,_,h⟩:=AJ h;obtain⟨x8,b9,h⟩:=AJ h;obtain⟨s46,b10,h⟩:=AJ h;obtain⟨s47,b11,h⟩:=AJ h;obtain⟨t610,b12,h⟩:=AJ h;obtain⟨s76,b13,h⟩:=AJ h;have h7:bA x7= [if j=0 then 97 else 98]:=by
  obtain⟨_,h3⟩:=Je b2;rw[Lv] at h3;rcases Nf 0 j with hj0 |hj0
  ·grind
  grind
 have h66:∃o:Option ByteArray,(∀v,o=some v->v∈IN)/\bA t66=bA s42++Jx o:=by
  rcases CM b7 with⟨_,b7⟩ |⟨_,b7⟩
  ·obtain⟨s43,d1,b7⟩:=AJ b7;obtain⟨t412,_,b7⟩:=AJ b7;obtain⟨v2,d2,b7⟩:=AJ b7;obtain⟨s44,d3,b7⟩:=AJ b7;cases b7;refine⟨some v2,fun v e=>by cases e;exact jg d2,?_⟩;rw[Eo d3,Eo d1];simp[bA,Jx]
  cases b7;exact⟨none,(fun v e=>by cases e),by simp[Jx]⟩
 obtain⟨o,ho,h66⟩:=h66;obtain⟨p,q,hp,hq,e12⟩:=Qi b12;refine⟨s76,⟨v1,o,x8,p,q⟩,_,⟨jg b5,ho,Xe b9,hp,hq⟩,?_,h⟩;rw[Eo b13,e12,Eo b11,Eo b10,Eo b8,h66,Eo b6,Eo b4,Eo b3,Eo b1,h7];simp[bA,FP.B]
theorem tZ {m:Nat}{l:List Int}{s:ByteArray}(h:M6 (m+3) l=some s):∃A B:FP,A.ok/\B.ok/\bA s=B3 A B false:=by
 unfold M6 at h;obtain⟨r,h,e⟩:=AJ h;cases e;obtain⟨s1,A,t7,hA,e1,h⟩:=ji (j:=0) (by decide) h;obtain⟨s2,B,t8,hB,e2,h⟩:=ji (j:=1) (by decide) h;unfold KT at h;rw[if_neg (by decide)] at h;cases h;refine⟨A,B,hA,hB,?_⟩;rw[e2,e1];simp[B3,bA]
def DI:List UInt8->List UInt8
 |[]=>[]
 |a::r=>(if a==45&&r.head? ==some 32 then 43 else a)::DI r
def RI (v:List UInt8):Bool:=match v with
 |[]=>true
 |[a]=> !(a==45)
 |a::b::r=>(!(a==45)|| !(b==32))&&RI (b::r)
theorem F0:∀(v r:List UInt8),RI v=true->DI (v++r)=v++DI r
 |[],_,_=>rfl
 |[a],r,h=>by
  have h:(a==45)=false:=by simpa [RI] using h
  show(if a==45&&_ then(43:UInt8) else a)::DI r=_;rw[h];rfl
 |a::b::v,r,h=>by
  have h:((!(a==45)|| !(b==32))&&RI (b::v))=true:=h;rw[Li] at h;have ih:=F0 (b::v) r h.2;show(if a==45&&(b::v++r).head? ==some 32 then(43:UInt8) else a)::DI (b::v++r)=_;rw[ih];have e:(a==45&&(b::v++r).head? ==some 32)=false:=by
   have h1:=h.1;show(a==45&&(some b==some 32))=false;have e2:(some b==some (32:UInt8))=(b==32):=rfl;rw[e2];generalize (a==45)=p at h1⊢;generalize (b==32)=q at h1⊢;cases p<;>cases q<;>first |rfl |cases h1
  rw[e];rfl
theorem YE {a:UInt8}{r:List UInt8}(h:(a==45)=false):DI (a::r)=a::DI r:=by
 show(if a==45&&_ then(43:UInt8) else a)::DI r=_;rw[h];rfl
theorem cP {o:UInt8}(h:o∈IP)(r:List UInt8):DI (D5 false o::32::r)=D5 true o::32::DI r:=by
 simp only[IP,Lm,LT,or_false] at h;rcases h with rfl |rfl |rfl<;>rfl
theorem VZ {v:ByteArray}(h:v∈JE):RI (bA v)=true:=by
 simp only[JE,Lm,LT,or_false] at h;rcases h with rfl |rfl |rfl |rfl |rfl |rfl |rfl |rfl<;>rfl
theorem mF {v:ByteArray}(h:v∈IN):RI (bA v)=true:=by
 simp only[IN,Lm,LT,or_false] at h;rcases h with rfl |rfl |rfl |rfl |rfl |rfl |rfl |rfl |rfl |rfl<;>rfl
theorem RJ {v:ByteArray}(h:v∈Qe):RI (bA v)=true:=by
 simp only[Qe,Lm,LT,or_false] at h;rcases h with rfl |rfl |rfl |rfl<;>rfl
theorem Va {t:Tl}(h:t.ok)(r:List UInt8):DI (t.B false++r)=t.B true++DI r:=by
 cases t with
 |no=>rfl
 |one o a=>
  obtain⟨h1,h2⟩:=h;show DI (32::(D5 false o::32::(bA a++r)))=32::D5 true o::32::(bA a++DI r);rw[YE rfl,cP h1,F0 _ _ (VZ h2)]
 |par a b=>
  obtain⟨h1,h2⟩:=h;have e:Tl.B false (.par a b)++r=32::(D5 false 45::32::([40]++(bA a++([32,38,32]++(bA b++([41]++r)))))):=by
   simp[Tl.B]
  have e2:Tl.B true (.par a b)++DI r=32::(D5 true 45::32::([40]++(bA a++([32,38,32]++(bA b++([41]++DI r)))))):=by
   simp[Tl.B]
  rw[e,e2,YE rfl,cP (by decide),F0 _ _ rfl,F0 _ _ (VZ h1),F0 _ _ rfl,F0 _ _ (VZ h2),F0 _ _ rfl]
theorem PU {e:GG}(h:e.ok)(r:List UInt8):DI (e.B false++r)=e.B true++DI r:=by
 obtain⟨h1,h2,h3,h4⟩:=h;have e1:∀d:Bool,∀r:List UInt8,e.B d++r=bA e.a++(32::(D5 d e.o::32::(bA e.b++(e.t.B d++r)))):=fun d r=>by simp[GG.B]
 rw[e1,e1,F0 _ _ (VZ h1),YE rfl,cP h2,F0 _ _ (VZ h3),Va h4]
theorem Vb {o:Option ByteArray}(h:∀v,o=some v->v∈IN)(r:List UInt8):DI (Jx o++r)=Jx o++DI r:=by
 cases o with
 |none=>rfl
 |some v=>
  have e:∀r:List UInt8,Jx (some v)++r= [32,124,32]++(bA v++r):=fun r=>by simp[Jx]
  rw[e,e,F0 _ _ rfl,F0 _ _ (mF (h v rfl))]
theorem PV {t:FP}(h:t.ok){nm:UInt8}(hn:(nm==45)=false)(r:List UInt8):DI (t.B nm false++r)=t.B nm true++DI r:=by
 obtain⟨h1,h2,h3,h4,h5⟩:=h;have e1:∀d:Bool,∀r:List UInt8,t.B nm d++r= [116,121,112,101,32]++(nm::([32,123,32,114,58,32]++(bA t.s1++(Jx t.s2++([59,32,115,58,32]++(bA t.sp++([59,32,112,32,61,32]++(t.p.B d++([59,32,113,32,61,32]++(t.q.B d++([59,32,125,10]++r))))))))))):=fun d r=>by simp[FP.B]
 rw[e1,e1,F0 _ _ rfl,YE hn,F0 _ _ rfl,F0 _ _ (mF h1),Vb h2,F0 _ _ rfl,F0 _ _ (RJ h3),F0 _ _ rfl,PU h4,F0 _ _ rfl,PU h5,F0 _ _ rfl]
theorem Vc {A B:FP}(hA:A.ok)(hB:B.ok):DI (B3 A B false)=B3 A B true:=by
 have e:B3 A B false= [116,121,112,101,32,117,10]++(A.B 97 false++(B.B 98 false++[])):=by simp[B3]
 have e2:B3 A B true= [116,121,112,101,32,117,10]++(A.B 97 true++(B.B 98 true++DI [])):=by simp[B3,DI]
 rw[e,e2,F0 _ _ rfl,PV hA rfl,PV hB rfl]
theorem KG:∀v:List UInt8,(DI v).length=v.length
 |[]=>rfl
 |a::r=>by
  show(DI r).length+1=r.length+1;rw[KG r]
end Go.Proofs.YtnmkbmefohakmaaGreat.Ab
