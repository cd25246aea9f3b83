/-
 The answers bear each other out: each relation of each object says just what its own words say of the others' answers, for every schema that holds together, tuples and subject of numbers. No condition.
-/
import Derived.Test.YtnmkbmefohakmaaGreatMrc
import Derived.Test.YtnmkbmefohakmaaGreatCm
set_option linter.all false
namespace Go.Proofs.YtnmkbmefohakmaaGreat.Ab
open Go.RowKit
abbrev bA (s:ByteArray):List UInt8:=s.data.toList
def Gx (w:List UInt8):Prop:=∀x,w.head? =some x->Gv x=false
theorem Fw {b:UInt8}{w:List UInt8}(h:Gv b=false):Gx (b::w):=fun x e=>by cases e;exact h
def MP:List ByteArray:=[{ data:= #[114] },{ data:= #[115] },{ data:= #[114] },{ data:= #[115] },{ data:= #[115,45,62,114] },{ data:= #[115,45,62,112] },{ data:= #[112] },{ data:= #[113] }]
def MQ:List ByteArray:=[{ data:= #[117] },{ data:= #[117] },{ data:= #[97,35,114] },{ data:= #[98,35,114] },{ data:= #[97,35,115] },{ data:= #[98,35,112] },{ data:= #[97] },{ data:= #[98] },{ data:= #[117] },{ data:= #[97,35,113] }]
def Wz:List ByteArray:=[{ data:= #[97] },{ data:= #[98] },{ data:= #[97,32,124,32,98] },{ data:= #[117,32,124,32,97] }]
def FM (ed:Bool)(o:UInt8):UInt8:=if ed&&o==45 then 43 else o
def Kv:List UInt8:=[43,38,45]
theorem Lx.sg' (b:UInt8){w:List UInt8}{T:List Tk}(c:b∈I4)(d:b≠45)(h:Lx w T):Lx (b::w) ((2,⟨#[b]⟩)::T):=.sg b c (fun e=>absurd e d) h
theorem Lx.op (b:UInt8){w:List UInt8}{T:List Tk}(c:b∈Kv)(h:Lx w T):Lx (32::b::32::w) ((2,⟨#[b]⟩)::T):=
 .sp _ (.inl rfl) (.sg b (by revert b;decide) (fun _ e=>by cases e) (.sp _ (.inl rfl) h))
theorem Lx.w1 (u:UInt8){w:List UInt8}{T:List Tk}(b:Gv u=true)(c:Gx w)(h:Lx w T):Lx (u::w) ((1,⟨#[u]⟩)::T):=.wd u [] b (fun x d=>by cases d) c h
variable {a r s:ByteArray}{ed:Bool}{m n:Nat}{o:UInt8}{t0:List Int}{t7:Int}
theorem Zs (h:o∈Kv):FM ed o∈Kv:=by revert o;cases ed<;>decide
theorem fC (h:o∈Kv):(⟨#[FM ed o]⟩:ByteArray)=EM\/(⟨#[FM ed o]⟩:ByteArray)=Ky\/(⟨#[FM ed o]⟩:ByteArray)=DW:=by
 have:=Zs (ed:=ed) h;generalize FM ed o=q at this;simp only[Kv,Lr,L8,or_false] at this;rcases this with rfl |rfl |rfl
 ·exact .inr (.inl rfl)
 ·exact .inl rfl
 exact .inr (.inr rfl)
theorem fD (h:o∈Kv)(e:(⟨#[FM ed o]⟩:ByteArray)=DW):(!ed)=true:=by
 have b: #[FM ed o]= #[45]:=congrArg ByteArray.data e;cases ed with
 |false=>rfl
 |true=>
  exfalso;simp only[Kv,Lr,L8,or_false] at h;rcases h with rfl |rfl |rfl<;>revert b<;>decide
def nT (a:ByteArray):List Tk:=match a.data.toList with
 |[s,_,_,p]=>[(1,⟨#[s]⟩),(2,Jo),(1,⟨#[p]⟩)]
 |_=>[(1,a)]
theorem SK (m:Nat):∀x∈([{ data:= #[114] },{ data:= #[115] },{ data:= #[112] },{ data:= #[113] },{ data:= #[117] },{ data:= #[97] },{ data:= #[98] }]:List ByteArray),Gc (m+10) x=some true:=by
 intro x b;simp only[Lr,L8,or_false] at b;rcases b with rfl |rfl |rfl |rfl |rfl |rfl |rfl<;>kernel_rfl
theorem W1 (h:a∈MP){w:List UInt8}{T:List Tk}(b:Gx w)(c:Lx w T):Lx (bA a++w) (nT a++T):=by
 simp only[MP,Lr,L8,or_false] at h;rcases h with rfl |rfl |rfl |rfl |rfl |rfl |rfl |rfl
 ·exact .w1 114 rfl b c
 ·exact .w1 115 rfl b c
 ·exact .w1 114 rfl b c
 ·exact .w1 115 rfl b c
 ·exact .w1 115 rfl (Fw rfl) (.ar (.w1 114 rfl b c))
 ·exact .w1 115 rfl (Fw rfl) (.ar (.w1 112 rfl b c))
 ·exact .w1 112 rfl b c
 exact .w1 113 rfl b c
theorem W3 (h:a∈MP){d:Nat}{ex:Aj->Option Aj}{mn:Bool}(b:d<=20):GQ (m+10) ex (nT a) mn 1 d:=by
 have k:=SK m;simp only[MP,Lr,L8,or_false] at h;rcases h with rfl |rfl |rfl |rfl |rfl |rfl |rfl |rfl
 ·exact UW b (k _ (by simp))
 ·exact UW b (k _ (by simp))
 ·exact UW b (k _ (by simp))
 ·exact UW b (k _ (by simp))
 ·exact nf b (k { data:= #[115] } (by simp)) (k { data:= #[114] } (by simp))
 ·exact nf b (k { data:= #[115] } (by simp)) (k { data:= #[112] } (by simp))
 ·exact UW b (k _ (by simp))
 exact UW b (k _ (by simp))
inductive Tl where
 |no
 |one (o:UInt8) (a:ByteArray)
 |par (a b:ByteArray)
structure HH where
 a:ByteArray
 o:UInt8
 b:ByteArray
 t:Tl
def Tl.ok:Tl->Prop
 |no=>True
 |one o a=>o∈Kv/\a∈MP
 |par a b=>a∈MP/\b∈MP
def HH.ok (e:HH):Prop:=e.a∈MP/\e.o∈Kv/\e.b∈MP/\e.t.ok
def Tl.B (ed:Bool):Tl->List UInt8
 |no=>[]
 |one o a=>32::FM ed o::32::bA a
 |par a b=>32::FM ed 45::32::40::(bA a++(32::38::32::(bA b++[41])))
def HH.B (ed:Bool)(e:HH):List UInt8:=bA e.a++(32::FM ed e.o::32::(bA e.b++e.t.B ed))
def Tl.S (ed:Bool):Tl->List Fa
 |no=>[]
 |one o a=>[⟨⟨#[FM ed o]⟩,nT a,1⟩]
 |par a b=>[⟨⟨#[FM ed 45]⟩,(2,MV)::((nT a++E6 [⟨EM,nT b,1⟩])++[(2,Ha)]),3⟩]
def HH.T (ed:Bool)(e:HH):List Tk:=nT e.a++E6 (⟨⟨#[FM ed e.o]⟩,nT e.b,1⟩::e.t.S ed)
theorem nu (f:Fa)(S:List Fa):E6 (f::S)=(2,f.op)::(f.T++E6 S):=rfl
theorem SL {v w:List UInt8}(c:v= []\/v.head? =some 32)(d:Gx w):Gx (v++w):=by
 rcases c with rfl |c
 ·exact d
 cases v with
 |nil=>cases c
 |cons b v=>cases c;exact Fw rfl
theorem W4 (ed:Bool)(t:Tl):t.B ed= []\/(t.B ed).head? =some 32:=by
 cases t with
 |no=>exact .inl rfl
 |one o a=>exact .inr rfl
 |par a b=>exact .inr rfl
theorem W5 {t:Tl}(h:t.ok){w:List UInt8}{T:List Tk}(d:Gx w)(c:Lx w T):Lx (t.B ed++w) (E6 (t.S ed)++T):=by
 cases t with
 |no=>exact c
 |one o a=>
  have:=Lx.op (FM ed o) (Zs h.1) (W1 h.2 d c);have e:E6 (Tl.S ed (.one o a))++T=(2,⟨#[FM ed o]⟩)::(nT a++T):=by
   show E6 [_]++T=_;rw[nu];simp[E6]
  rw[e];exact this
 |par a b=>
  have f:Lx (41::w) ((2,Ha)::T):=.sg' 41 (by decide) (by decide) c;have g:=Lx.op 38 (by decide) (W1 h.2 (Fw rfl) f);have i:=W1 h.1 (Fw rfl) g;have j:Lx (40::_) ((2,MV)::_):=.sg' 40 (by decide) (by decide) i;have k:=Lx.op (FM ed 45) (Zs (by decide)) j;have l:Tl.B ed (.par a b)++w=32::FM ed 45::32::40::(bA a++32::38::32::(bA b++41::w)):=by
   simp[Tl.B]
  have p:E6 (Tl.S ed (.par a b))++T=(2,⟨#[FM ed 45]⟩)::(2,MV)::(nT a++(2,⟨#[38]⟩)::(nT b++(2,Ha)::T)):=by
   simp[Tl.S,E6,EM]
  rw[l,p];exact k
theorem QT {e:HH}(h:e.ok){w:List UInt8}{T:List Tk}(b:Gx w)(c:Lx w T):Lx (e.B ed++w) (e.T ed++T):=by
 have d:=W1 h.2.2.1 (SL (W4 ed e.t) b) (W5 (ed:=ed) h.2.2.2 b c);have f:=W1 h.1 (Fw rfl) (Lx.op (FM ed e.o) (Zs h.2.1) d);have g:e.B ed++w=bA e.a++32::FM ed e.o::32::(bA e.b++(e.t.B ed++w)):=by simp[HH.B]
 grind [nT,FM,E6,HH.T,nu]
theorem nv {e:HH}(h:e.ok){c f:Nat}(B:10<c):Wx (E8 (m+10) c (f+2)) (e.T ed) (!ed) 20 0:=by
 have l:GQ (m+10) (E8 (m+10) c (f+1)) (nT e.b) (!ed) 1 0:=W3 h.2.2.1 (by decide);have p:∀g∈(⟨⟨#[FM ed e.o]⟩,nT e.b,1⟩::e.t.S ed:List Fa),GQ (m+10) (E8 (m+10) c (f+1)) g.T (!ed) g.k 0/\(g.op=EM\/g.op=Ky\/g.op=DW)/\(g.op=DW->(!ed)=true):=by
  intro g i;rcases Lr.1 i with rfl |i
  ·exact⟨l,fC h.2.1,fD h.2.1⟩
  have j:=h.2.2.2;revert i j;cases e.t with
  |no=>intro i;cases i
  |one o a=>
   intro i j;rw[Lt.1 i];exact⟨W3 j.2 (by decide),fC j.1,fD j.1⟩
  |par a b=>
   intro i j;rw[Lt.1 i];refine⟨?_,fC (by decide),fD (by decide)⟩;have q:Wx (E8 (m+10) c (f+1)) (nT a++E6 [⟨EM,nT b,1⟩]) (!ed) (1+Dr [⟨EM,nT b,1⟩]) 1:=nh (by decide) (W3 j.1 (by decide)) (fun g i=>by
    rw[Lt.1 i];exact⟨W3 j.2 (by decide),.inl rfl,fun e=>absurd (show EM=DW from e) (by decide)⟩) (by show 1<c;omega)
   exact xo (by decide) q
 have C:(⟨⟨#[FM ed e.o]⟩,nT e.b,1⟩::e.t.S ed:List Fa).length<=2/\Dr (⟨⟨#[FM ed e.o]⟩,nT e.b,1⟩::e.t.S ed:List Fa)<=19:=by
  cases e.t<;>exact⟨by simp[Tl.S],by simp[Dr,Tl.S]⟩
 have:=nh (c:=c) (f:=f+1) (k:=1) (d:=0) (by decide) (W3 h.1 (by decide)) p (by omega);intro L R x u v w E;have⟨y,z,i⟩:=this L R x u v w (by omega);exact⟨y,z,i.mono (by omega)⟩
def Ht (v:ByteArray):Sb:=match v.data.toList with
 |[a,_,r]=>⟨⟨#[a]⟩,some ⟨#[r]⟩⟩
 |_=>⟨v,none⟩
theorem Kw {v:ByteArray}(h:v∈MQ){w:List UInt8}{T:List Tk}(b:Gx w)(c:Lx w T):Lx (bA v++w) ((Ht v).T++T):=by
 simp only[MQ,Lr,L8,or_false] at h;have d:∀a r:UInt8,Gv a=true->Gv r=true->Lx (a::35::r::w) ((1,⟨#[a]⟩)::(2,dY_)::(1,⟨#[r]⟩)::T):=fun a r e f=>.w1 a e (Fw rfl) (.sg' 35 (by decide) (by decide) (.w1 r f b c));rcases h with rfl |rfl |rfl |rfl |rfl |rfl |rfl |rfl |rfl |rfl
 ·exact .w1 117 rfl b c
 ·exact .w1 117 rfl b c
 ·exact d 97 114 rfl rfl
 ·exact d 98 114 rfl rfl
 ·exact d 97 115 rfl rfl
 ·exact d 98 112 rfl rfl
 ·exact .w1 97 rfl b c
 ·exact .w1 98 rfl b c
 ·exact .w1 117 rfl b c
 exact d 97 113 rfl rfl
theorem QU {v:ByteArray}(h:v∈MQ)(m:Nat):(Ht v).ok (m+10):=by
 have k:=SK m;simp only[MQ,Lr,L8,or_false] at h;rcases h with rfl |rfl |rfl |rfl |rfl |rfl |rfl |rfl |rfl |rfl<;>exact⟨k _ (by simp[Ht]),fun r e=>by first |(cases e;exact k _ (by simp)) |cases e⟩
def Jm (v:ByteArray):Sb × List Sb:=match v.data.toList with
 |[a,_,_,_,b]=>(⟨⟨#[a]⟩,none⟩,[⟨⟨#[b]⟩,none⟩])
 |_=>(⟨v,none⟩,[])
theorem W6 {v:ByteArray}(h:v∈Wz){w:List UInt8}{T:List Tk}(e:Lx w T):Lx (bA v++59::w) (HZ (Jm v).1 (Jm v).2++T):=by
 simp only[Wz,Lr,L8,or_false] at h;have c:Lx (59::w) ((2,Eo)::T):=.sg' 59 (by decide) (by decide) e;have d:∀a b:UInt8,Gv a=true->Gv b=true->Lx (a::32::124::32::b::59::w) ((1,⟨#[a]⟩)::(2,Fm)::(1,⟨#[b]⟩)::(2,Eo)::T):=fun a b f g=>.w1 a f (Fw rfl) (.sp _ (.inl rfl) (.sg' 124 (by decide) (by decide) (.sp _ (.inl rfl) (.w1 b g (Fw rfl) c))));rcases h with rfl |rfl |rfl |rfl
 ·exact .w1 97 rfl (Fw rfl) c
 ·exact .w1 98 rfl (Fw rfl) c
 ·exact d 97 98 rfl rfl
 exact d 117 97 rfl rfl
theorem W7 {v:ByteArray}(h:v∈Wz)(m:Nat):(Jm v).1.ok (m+10)/\(∀t∈(Jm v).2,t.ok (m+10))/\(Jm v).2.length<=1:=by
 have k:=SK m;simp only[Wz,Lr,L8,or_false] at h;rcases h with rfl |rfl |rfl |rfl
 ·exact⟨⟨k _ (by simp[Jm]),fun r e=>by cases e⟩,(fun t b=>by cases b),by decide⟩
 ·exact⟨⟨k _ (by simp[Jm]),fun r e=>by cases e⟩,(fun t b=>by cases b),by decide⟩
 ·exact⟨⟨k _ (by simp[Jm]),fun r e=>by cases e⟩,(fun t b=>by rw[Lt.1 b];exact⟨k _ (by simp),fun r e=>by cases e⟩),by decide⟩
 exact⟨⟨k _ (by simp[Jm]),fun r e=>by cases e⟩,(fun t b=>by rw[Lt.1 b];exact⟨k _ (by simp),fun r e=>by cases e⟩),by decide⟩
structure GG where
 s1:ByteArray
 s2:Option ByteArray
 sp:ByteArray
 p:HH
 q:HH
def GG.ok (t:GG):Prop:=t.s1∈MQ/\(∀v,t.s2=some v->v∈MQ)/\t.sp∈Wz/\t.p.ok/\t.q.ok
def UY:Option ByteArray->List UInt8
 |none=>[]
 |some v=>32::124::32::bA v
def GG.B (t:GG)(nm:UInt8)(ed:Bool):List UInt8:=116::121::112::101::32::nm::32::123::32::114::58::32::(bA t.s1++(UY t.s2++(59::32::115::58::32::(bA t.sp++(59::32::112::32::61::32::(t.p.B ed++(59::32::113::32::61::32::(t.q.B ed++[59,32,125,10]))))))))
def SM:Option ByteArray->List Sb
 |none=>[]
 |some v=>[Ht v]
def GG.Q (t:GG)(ed:Bool):List Gw:=[⟨⟨#[114]⟩,(2,FN)::HZ (Ht t.s1) (SM t.s2),true⟩,⟨⟨#[115]⟩,(2,FN)::HZ (Jm t.sp).1 (Jm t.sp).2,true⟩,⟨⟨#[112]⟩,(2,MW)::(t.p.T ed++[(2,Eo)]),false⟩,⟨⟨#[113]⟩,(2,MW)::(t.q.T ed++[(2,Eo)]),false⟩]
def GG.T (t:GG)(nm:UInt8)(ed:Bool):Hs:=⟨⟨#[nm]⟩,some (t.Q ed)⟩
theorem nz {w:List UInt8}{T:List Tk}(b:Gx w)(c:Lx w T):Lx (116::121::112::101::w) ((1,bType)::T):=
 .wd 116 [121,112,101] rfl (by decide) b c
theorem fE {v:ByteArray}(b:v∈MQ){o:Option ByteArray}(d:∀v,o=some v->v∈MQ){w:List UInt8}{T:List Tk}(f:Lx w T):Lx (bA v++(UY o++59::w)) (HZ (Ht v) (SM o)++T):=by
 have c:Lx (59::w) ((2,Eo)::T):=.sg' 59 (by decide) (by decide) f;cases o with
 |none=>
  have e:HZ (Ht v) (SM none)++T=(Ht v).T++(2,Eo)::T:=by
   show((Ht v).T++[(2,Eo)])++T=_;rw[Lq];rfl
  rw[e];exact Kw b (Fw rfl) c
 |some u=>
  have e:HZ (Ht v) (SM (some u))++T=(Ht v).T++(2,Fm)::((Ht u).T++(2,Eo)::T):=by
   show((Ht v).T++(2,Fm)::((Ht u).T++[(2,Eo)]))++T=_;simp only[Lq,LL,LA]
  rw[e];exact Kw b (Fw rfl) (.sp 32 (.inl rfl) (.sg' 124 (by decide) (by decide) (.sp 32 (.inl rfl) (Kw (d u rfl) (Fw rfl) c))))
theorem QV {t:GG}(h:t.ok){nm:UInt8}(b:Gv nm=true){w:List UInt8}{T:List Tk}(c:Lx w T):Lx (t.B nm ed++w) ((t.T nm ed).T++T):=by
 have⟨d,e,f,g,i⟩:=h;have j:Lx (59::32::125::10::w) ((2,Eo)::(2,GS)::T):=.sg' 59 (by decide) (by decide) (.sp _ (.inl rfl) (.sg' 125 (by decide) (by decide) (.sp _ (.inr rfl) c)));have k:=QT (ed:=ed) i (Fw rfl) j;have l:=Lx.sg' 59 (by decide) (by decide) (.sp 32 (.inl rfl) (.w1 113 rfl (Fw rfl) (.sp 32 (.inl rfl) (.sg' 61 (by decide) (by decide) (.sp 32 (.inl rfl) k)))));have p:=QT (ed:=ed) g (Fw rfl) l;have q:=Lx.sp 32 (.inl rfl) (.w1 112 rfl (Fw rfl) (.sp 32 (.inl rfl) (.sg' 61 (by decide) (by decide) (.sp 32 (.inl rfl) p))));have u:=W6 f q;have v:=Lx.sp 32 (.inl rfl) (.w1 115 rfl (Fw rfl) (.sg' 58 (by decide) (by decide) (.sp 32 (.inl rfl) u)));have x:=fE d e v;have y:=nz (Fw rfl) (.sp 32 (.inl rfl) (.w1 nm b (Fw rfl) (.sp 32 (.inl rfl) (.sg' 123 (by decide) (by decide) (.sp 32 (.inl rfl) (.w1 114 rfl (Fw rfl) (.sg' 58 (by decide) (by decide) (.sp 32 (.inl rfl) x))))))));have z:t.B nm ed++w=116::121::112::101::32::nm::32::123::32::114::58::32::(bA t.s1++(UY t.s2++59::32::115::58::32::(bA t.sp++59::32::112::32::61::32::(t.p.B ed++59::32::113::32::61::32::(t.q.B ed++59::32::125::10::w))))):=by
  simp only[GG.B,LL,Lq,LA]
 rw[z];have B:(t.T nm ed).T++T=(1,bType)::(1,⟨#[nm]⟩)::(2,⟨#[123]⟩)::(1,⟨#[114]⟩)::(2,⟨#[58]⟩)::(HZ (Ht t.s1) (SM t.s2)++((1,⟨#[115]⟩)::(2,⟨#[58]⟩)::(HZ (Jm t.sp).1 (Jm t.sp).2++((1,⟨#[112]⟩)::(2,⟨#[61]⟩)::(t.p.T ed++((2,⟨#[59]⟩)::(1,⟨#[113]⟩)::(2,⟨#[61]⟩)::(t.q.T ed++((2,Eo)::(2,GS)::T)))))))):=by
  simp only[GG.T,Hs.T,GG.Q,QS,IA,IF,LL,Lq,LA,LX];rfl
 rw[B];exact y
theorem QX {t:GG}(h:t.ok){nm:UInt8}{c f:Nat}(i:Gc (m+10) ⟨#[nm]⟩=some true)(d:10<c):PH (m+10) c (f+2) (!ed) (t.T nm ed):=by
 have⟨j,l,p,w,x⟩:=h;have k:=SK m;refine⟨i,fun Q e=> ?_⟩;cases e;refine⟨by show 4<200;decide,by show 4<c;omega,fun q g=> ?_⟩;simp only[GG.Q,Lr,L8,or_false] at g;rcases g with rfl |rfl |rfl |rfl
 ·refine nk (k _ (by simp)) (QU j m) (fun u b=> ?_) ?_ ?_
  ·cases e:t.s2 with |none=>rw[e] at b;cases b |some v=>rw[e] at b;rw[Lt.1 b];exact QU (l v e) m
  ·cases t.s2<;>simp[SM]
  cases t.s2<;>simp only[SM,Lu,Ll]<;>omega
 ·have⟨y,z,B⟩:=W7 p m;exact nk (k _ (by simp)) y z (by omega) (by omega)
 ·exact np (k _ (by simp)) (nv w d) (by decide)
 exact np (k _ (by simp)) (nv x d) (by decide)
def Q3 (A B:GG)(ed:Bool):List Hs:=[⟨{ data:= #[117] },none⟩,A.T 97 ed,B.T 98 ed]
def B3 (A B:GG)(ed:Bool):List UInt8:=[116,121,112,101,32,117,10]++(A.B 97 ed++B.B 98 ed)
theorem xu {A B:GG}(d:A.ok)(hB:B.ok)(i:bA s=B3 A B ed)(j:s.size<=100000)(u:s.size+40<m):∃b,MY (m+10) s=some b/\Jl (!ed) (Q3 A B ed) b:=by
 have k:Lx s.data.toList (Wy (Q3 A B ed)):=by
  rw[show s.data.toList=B3 A B ed from i];have g:=QV (nm:=98) (ed:=ed) hB rfl .nil;rw[LX] at g;have l:=QV (nm:=97) (ed:=ed) d rfl g;have p:=nz (Fw rfl) (.sp 32 (.inl rfl) (.w1 117 rfl (Fw rfl) (.sp 10 (.inr rfl) l)));have e:Wy (Q3 A B ed)=(1,bType)::(1,⟨#[117]⟩)::((A.T 97 ed).T++((B.T 98 ed).T++[])):=rfl;rw[e];exact p
 have⟨b,v,w⟩:=xt (n:=m+10) (c:=m+10) (f:=m+8+2) (mn:= !ed) j (by omega) k (fun q h=>by
  simp only[Q3,Lr,L8,or_false] at h;rcases h with rfl |rfl |rfl
  ·exact⟨SK m _ (by simp),fun Q e=>by cases e⟩
  ·exact QX d (SK m _ (by simp)) (by omega)
  exact QX hB (SK m _ (by simp)) (by omega)) (by show 3<200;decide) (by show 3<m+10;omega)
 grind [MY,K0]
theorem FY {b c:ByteArray}(h:Ed a b=some c):bA c=bA a++bA b:=by
 obtain⟨_,rfl⟩:=Fi h;simp[bA,ByteArray.data_append]
theorem Zt {α:Type}{xs:List α}{i:Int}{x:α}(h:CD xs i=some x):x∈xs:=Lz (FW h).2
theorem n7 {v:Int}(h:PB n v=some s):s∈MQ:=by
 unfold PB at h;have⟨x,b,c⟩:=AL h;cases c;exact Zt b
theorem Zu {v:Int}(h:MM n v=some s):s∈MP:=by
 unfold MM at h;have⟨x,b,c⟩:=AL h;cases c;exact Zt b
theorem SN {x:ByteArray}(h:x∈([{ data:= #[32,43,32] },{ data:= #[32,38,32] },{ data:= #[32,45,32] },{ data:= #[32,43,32] }]:List ByteArray)):∃o∈Kv,bA x= [32,o,32]:=by
 simp only[Lr,L8,or_false] at h;rcases h with rfl |rfl |rfl |rfl
 ·exact⟨43,by decide,rfl⟩
 ·exact⟨38,by decide,rfl⟩
 ·exact⟨45,by decide,rfl⟩
 exact⟨43,by decide,rfl⟩
theorem n8 {c j:Nat}{k:ByteArray}(hj:j<2)(h:Jj n t0 t7 (c+1) (k,(j:Int))=some r):∃(C:ByteArray) (E:HH),E.ok/\bA C=bA k++(32::(if j=0 then 112 else 113)::32::61::32::(E.B false++[59]))/\Jj n t0 t7 c (C,((j+1:Nat):Int))=some r:=by
 have L:IntKind.i64.wrap ((j:Int)+1)=((j+1:Nat):Int):=Al;unfold Jj at h;rw[if_pos Cp,L] at h;have⟨l,_,h⟩:=AL h;have⟨a4,M,h⟩:=AL h;have⟨N,O,h⟩:=AL h;have⟨a5,Q,h⟩:=AL h;have⟨a6,R,h⟩:=AL h;have⟨f,T,h⟩:=AL h;have⟨a7,U,h⟩:=AL h;have⟨a8,V,h⟩:=AL h;have⟨a9,X,h⟩:=AL h;have⟨g,Y,h⟩:=AL h;have⟨Z,aa,h⟩:=AL h;have ab:bA N= [if j=0 then 112 else 113]:=by
  have⟨_,b⟩:=FW O;rw[Lk] at b;rcases LY 0 j with ad |ad
  ·grind
  grind
 have⟨o,p,ag⟩:=SN (Zt V);have q:bA Z=bA k++(32::(if j=0 then 112 else 113)::32::61::32::(bA f++(32::o::32::bA g))):=by
  rw[FY aa,FY X,FY U,FY R,FY Q,FY M,ab,ag];simp[bA]
 have u:=Zu T;have v:=Zu Y;rcases As h with⟨_,h⟩ |⟨_,h⟩;rotate_left
 ·have⟨ak,w,h⟩:=AL h;refine⟨ak,⟨f,o,g,.no⟩,⟨u,p,v,trivial⟩,?_,h⟩;rw[FY w,q];simp[bA,HH.B,Tl.B,FM]
 have⟨F,w,h⟩:=AL h;have⟨ba,G,h⟩:=AL h;have⟨I,ao,h⟩:=AL h;have⟨bb,J,h⟩:=AL h;have K:=Zu ao;have x:=FW w;rcases As h with⟨i,h⟩ |⟨i,h⟩
 ·have⟨bd,y,h⟩:=AL h;have⟨nd,ap,h⟩:=AL h;have⟨be,aq,h⟩:=AL h;have⟨bg,ar,h⟩:=AL h;have⟨av,aE,h⟩:=AL h;rw[eq_of_beq i] at x;have d:F={ data:= #[32,45,32,40] }:=by have:=x.2;cases this;rfl
  refine⟨av,⟨f,o,g,.par I nd⟩,⟨u,p,v,K,Zu ap⟩,?_,h⟩;rw[FY aE,FY ar,FY aq,FY y,FY J,FY G,q,d];simp[bA,HH.B,Tl.B,FM]
 have⟨a0,y,h⟩:=AL h;have d:∃B∈Kv,bA F= [32,B,32]:=by
  have a1:an (sh l 13) 3≠3:=fun e=>by
   rw[T5 _ 3 (by decide),e] at i;cases i
  have a2:an (sh l 13) 3<=3:=Vr _ 3;have b:=x.2;rw[T5 _ 3 (by decide),Lk] at b;generalize an (sh l 13) 3=z at a1 a2 b;rcases z with _ |_ |_ |z
  ·cases b;exact⟨43,by decide,rfl⟩
  ·cases b;exact⟨38,by decide,rfl⟩
  ·cases b;exact⟨45,by decide,rfl⟩
  omega
 have⟨B,a3,d⟩:=d;refine⟨a0,⟨f,o,g,.one B I⟩,⟨u,p,v,a3,K⟩,?_,h⟩;rw[FY y,FY J,FY G,q,d];simp[bA,HH.B,Tl.B,FM]
theorem SO {c:Nat}(h:Jj n t0 t7 (c+3) (s,0)=some r):∃p q:HH,p.ok/\q.ok/\bA r=bA s++(32::112::32::61::32::(p.B false++(59::32::113::32::61::32::(q.B false++[59])))):=by
 have⟨b,p,d,e,h⟩:=n8 (j:=0) (by decide) h;have⟨f,q,g,i,h⟩:=n8 (j:=1) (by decide) h;unfold Jj at h;grind
theorem n9 {c j:Nat}{f:ByteArray}(hj:j<2)(h:MN (m+3) t0 (c+1) (f,t7,(j:Int))=some r):∃(g:ByteArray) (A:GG) (i:Int),A.ok/\bA g=bA f++A.B (if j=0 then 97 else 98) false/\MN (m+3) t0 c (g,i,((j+1:Nat):Int))=some r:=by
 have k:IntKind.i64.wrap ((j:Int)+1)=((j+1:Nat):Int):=Al;unfold MN at h;rw[if_pos Cp,k] at h;have⟨ab,l,h⟩:=AL h;have⟨u,w,h⟩:=AL h;have⟨ad,x,h⟩:=AL h;have⟨ag,y,h⟩:=AL h;have⟨ak,_,h⟩:=AL h;have⟨z,B,h⟩:=AL h;have⟨C,E,h⟩:=AL h;have⟨ao,_,h⟩:=AL h;have⟨F,b,h⟩:=AL h;have⟨ap,G,h⟩:=AL h;have⟨aq,_,h⟩:=AL h;have⟨I,J,h⟩:=AL h;have⟨ar,K,h⟩:=AL h;have⟨av,L,h⟩:=AL h;have⟨aE,M,h⟩:=AL h;have⟨N,O,h⟩:=AL h;have Q:bA u= [if j=0 then 97 else 98]:=by
  have⟨_,R⟩:=FW w;rw[Lk] at R;rcases LY 0 j with T |T
  ·grind
  grind
 have d:∃o:Option ByteArray,(∀v,o=some v->v∈MQ)/\bA F=bA C++UY o:=by
  rcases As b with⟨_,b⟩ |⟨_,b⟩
  ·have⟨a0,U,b⟩:=AL b;have⟨a1,_,b⟩:=AL b;have⟨V,X,b⟩:=AL b;have⟨a2,Y,b⟩:=AL b;cases b;refine⟨some V,fun v e=>by cases e;exact n7 X,?_⟩;rw[FY Y,FY U];simp[bA,UY]
  cases b;exact⟨none,(fun v e=>by cases e),by simp[UY]⟩
 have⟨o,Z,d⟩:=d;have⟨p,q,hp,hq,aa⟩:=SO M;refine⟨N,⟨z,o,I,p,q⟩,_,⟨n7 B,Z,Zt J,hp,hq⟩,?_,h⟩;rw[FY O,aa,FY L,FY K,FY G,d,FY E,FY y,FY x,FY l,Q];simp[bA,GG.B]
theorem xv {l:List Int}(h:QN (m+3) l=some s):∃A B:GG,A.ok/\B.ok/\bA s=B3 A B false:=by
 unfold QN at h;have⟨r,h,e⟩:=AL h;cases e;have⟨f,A,t7,b,c,h⟩:=n9 (j:=0) (by decide) h;have⟨g,B,i,hB,d,h⟩:=n9 (j:=1) (by decide) h;unfold MN at h;rw[if_neg (by decide)] at h;cases h;refine⟨A,B,b,hB,?_⟩;rw[d,c];simp[B3,bA]
theorem Ut {l:List AD}{o:Ak}{rel:ByteArray}{u:AN}:u∈FA l o rel↔(⟨o,rel,u⟩:AD)∈l:=by
 unfold FA;rw[LO];constructor
 ·rintro⟨t,c,rfl⟩;have⟨d,b⟩:=Nb.1 c;have b:(⟨o,rel⟩:AB)=kR t:=eq_of_beq b;cases b;exact d
 intro h;exact⟨_,Nb.2 ⟨h,beq_self_eq_true _⟩,rfl⟩
section
variable {ts:List AG}{S:AC}(hW:EC ts S)(hB:Ew ts){rows:List AD}{A:AB->Bool}{sub:AN}{o:Ak}
include hW hB in
theorem zu {x:AS}(f:x.kind=2):((FA rows o x.a).any fun u=>Eg ts ⟨o,x.a,u⟩&&A ⟨⟨u.type_,u.id_⟩,x.b⟩)=(EY (rows.filter (DU S)) o x).any A:=by
 unfold EY;rw[f,if_neg (by decide),if_pos (by rfl)];unfold R8;rw[Ni,Nh,Nh];constructor
 ·rintro⟨u,c,h⟩;have⟨b,e⟩:=O9.1 h;rw[dR hW hB] at b;exact⟨_,LH (Ut.2 (tO.mem_ofL.2 (Nb.2 ⟨Ut.1 c,b⟩))),e⟩
 rintro⟨d,g,h⟩;obtain⟨u,c,rfl⟩:=LO.1 g;have⟨b,e⟩:=Nb.1 (tO.mem_ofL.1 (Ut.1 c));exact⟨u,Ut.2 b,O9.2 ⟨by rw[dR hW hB];exact e,h⟩⟩
include hW hB in
theorem qP {rel:ByteArray}(i:(qf_ (⟨o.type_,rel⟩:AA) CX S.rels).expr= []):nwB S (rows.filter (DU S)) sub A ⟨o,rel⟩=rows.any (GY A ts o sub rel):=by
 unfold nwB;rw[if_pos i];unfold EL;rw[if_pos i,Ni,LR,decide_eq_true_eq,Nh,Nh];have e:∀u,u∈FA (tO.ofL (rows.filter (DU S))) o rel↔(⟨o,rel,u⟩:AD)∈rows/\Eg ts ⟨o,rel,u⟩=true:=fun u=>by
  rw[Ut,tO.mem_ofL,Nb,dR hW hB]
 constructor
 ·rintro(h |⟨d,j,h⟩)
  ·have⟨f,b⟩:=(e _).1 h;exact⟨_,f,by unfold GY IK;rw[b];simp⟩
  obtain⟨u,c,k,rfl⟩:=Zg.1 j;have⟨f,b⟩:=(e _).1 c;have h:A ⟨⟨u.type_,u.id_⟩,u.rel⟩=true:=h;exact⟨_,f,by unfold GY IK;rw[b];simp[h,k]⟩
 rintro⟨⟨q,v,u⟩,l,h⟩;unfold GY IK at h;simp only[Ln,LR,decide_eq_true_eq,NF,decide_eq_false_iff_not] at h;obtain⟨⟨rfl,b⟩,rfl,g⟩:=h;have c:=(e u).2 ⟨l,b⟩;rcases g with rfl |⟨g,p⟩
 ·exact .inl c
 exact .inr ⟨_,Zg.2 ⟨u,c,g,rfl⟩,p⟩
end
/-! ### the schema that is made -/
structure Xg (S:AC) (ts:List AG) (a:ByteArray):Prop where
 r:Av (⟨a,{ data:= #[114] }⟩:AA) S.rels=true/\(qf_ (⟨a,{ data:= #[114] }⟩:AA) CX S.rels).expr= []
 s:Av (⟨a,{ data:= #[115] }⟩:AA) S.rels=true/\(qf_ (⟨a,{ data:= #[115] }⟩:AA) CX S.rels).expr= []
 pq:∀nm∈([{ data:= #[112] },{ data:= #[113] }]:List ByteArray),Av (⟨a,nm⟩:AA) S.rels=true/\∃t,GI t/\(qf_ (⟨a,nm⟩:AA) CX S.rels).expr=post t
theorem qQ {ts:List AG}{S:AC}(hW:EC ts S)(B:PK ts){q:GG}{nm:UInt8}{g:AG}{mn:Bool}(v:g∈ts)(h:fB mn (q.T nm ed) g):Xg S ts ⟨#[nm]⟩:=by
 have⟨e,b⟩:=h;have e:g.name=⟨#[nm]⟩:=e;have b:Jk mn (q.Q ed) g.rels:=b;unfold GG.Q at b;have d:∀x∈g.rels,Av (⟨⟨#[nm]⟩,x.name⟩:AA) S.rels=true/\qf_ (⟨⟨#[nm]⟩,x.name⟩:AA) CX S.rels=x:=fun x c=>by
  have:=Xu hW.rels hW.keys v c;rw[e] at this;unfold Av qf_;rw[this];exact⟨rfl,rfl⟩
 generalize w:g.rels=G at b;rcases b with _ |⟨C,b⟩;rcases b with _ |⟨E,b⟩;rcases b with _ |⟨F,b⟩;rcases b with _ |⟨I,b⟩;rcases b with _ |_;rw[w] at d;rename_i y z f i;have⟨J,K,_⟩:=C;have⟨L,M,_⟩:=E;have⟨N,_,O,_⟩:=F;have⟨Q,_,R,_⟩:=I;have j:=d y (by simp);have k:=d z (by simp);have l:=d f (by simp);have p:=d i (by simp);have u:∀x∈g.rels,x.subs= []->∃t,GI t/\x.expr=post t:=fun x c T=>by
  rcases B g v x c with⟨_,h⟩ |⟨_,h⟩
  ·exact absurd T h
  exact h
 rw[w] at u;rw[J] at j;rw[L] at k;rw[N] at l;rw[Q] at p;refine⟨⟨j.1,by rw[show qf_ (⟨⟨#[nm]⟩,{ data:= #[114] }⟩:AA) CX S.rels=y from j.2];exact K rfl⟩,⟨k.1,by rw[show qf_ (⟨⟨#[nm]⟩,{ data:= #[115] }⟩:AA) CX S.rels=z from k.2];exact M rfl⟩,fun x c=> ?_⟩;simp only[Lr,L8,or_false] at c;rcases c with rfl |rfl
 ·exact⟨l.1,by rw[show qf_ (⟨⟨#[nm]⟩,{ data:= #[112] }⟩:AA) CX S.rels=f from l.2];exact u f (by simp) (O rfl)⟩
 exact⟨p.1,by rw[show qf_ (⟨⟨#[nm]⟩,{ data:= #[113] }⟩:AA) CX S.rels=i from p.2];exact u i (by simp) (R rfl)⟩
theorem zv {l:List Int}{ts:List AG}{S:AC}(h:QN (m+10) l=some s)(d:MY (m+10) s=some ts)(u:s.size<=1000)(v:2000<m)(hW:EC ts S):∀a∈([{ data:= #[97] },{ data:= #[98] }]:List ByteArray),Xg S ts a:=by
 have⟨P,Q,i,j,k⟩:=xv (m:=m+7) h;have⟨w,e,b⟩:=xu i j k (by omega) (show s.size+40<m by omega);rw[d] at e;cases e;have f:=o7 d;unfold Q3 at b;generalize c:ts=G at b;rcases b with _ |⟨_,b⟩;rcases b with _ |⟨p,b⟩;rcases b with _ |⟨q,b⟩;rcases b with _ |_;intro a g;simp only[Lr,L8,or_false] at g;rcases g with rfl |rfl
 ·exact c▸qQ hW f (by rw[c];simp) p
 exact c▸qQ hW f (by rw[c];simp) q
/-! ### the law -/
theorem Qr {n:Nat}{ts:List AG}{rows l:List AD}{h:Ak × ByteArray × AN}{e f:ByteArray}{A:AB->Bool}(C:2000<n)
  (p:∀(o:Ak) (rel:ByteArray),IZ n o rel ts rows (⟨h.2.2.type_,h.2.2.id_,h.2.2.rel⟩:AN)=some (A ⟨o,rel⟩))
  (u:∀a,Sf n rows (⟨e,f⟩:Ak) a=some (FA rows ⟨e,f⟩ a)) (v:∀x:AS,x.kind=2->ML n ts rows h e f x (FA rows ⟨e,f⟩ x.a) n (false,0)=some ((EY l ⟨e,f⟩ x).any A))
  (w:∀nm∈([{ data:= #[112] },{ data:= #[113] }]:List ByteArray),∃g t,Hr n ts e nm=some (g,true)/\GI t/\g.expr=post t/\g.expr.length<=1000/\A ⟨⟨e,f⟩,nm⟩=IJ A l ⟨e,f⟩ t):∀(d i c:Nat),d=2-i->i<=2->d<c->UN n ts rows h e f c (i:Int)=some (.inl ())
 |0,i,c,F,G,I=>by
  obtain⟨c,rfl⟩:=sx c;unfold UN;rw[C6,if_neg (by decide)]
 |d+1,i,c,F,G,I=>by
  obtain⟨c,rfl⟩:=sx c;have J:=Qr C p u v w d (i+1) c (by omega) (by omega) (by omega);have y:i<([{ data:= #[112] },{ data:= #[113] }]:List ByteArray).length:=by show i<2;omega
  have⟨g,t,K,L,q,B,M⟩:=w _ (LZ y);have⟨nm,j,E⟩:=g;dsimp only at q B;have k:=MA (b:=true) (nm:=nm) (us:=j) p B u v t 0 (n-(post t).length) [] [] L (by rw[LJ,LX];exact q) (Lc _);rw[<-q,Nat.sub_add_cancel (by omega),LA] at k;have k:Gt n ts rows h e f (⟨nm,j,E⟩,true) n ([],0)=_:=k;obtain⟨z,N⟩:∃z,n-E.length=z+1:=⟨n-E.length-1,by omega⟩;have O:Gt n ts rows h e f (⟨nm,j,E⟩,true) (n-E.length) ([IJ A l ⟨e,f⟩ t],((0+E.length:Nat):Int))=some [IJ A l ⟨e,f⟩ t]:=by
   rw[N];unfold Gt;dsimp only;rw[DC,if_neg (by decide)]
  unfold UN;rw[Cp,if_pos rfl,CL y,Zo,K,Zo,Al,J];dsimp only;rw[if_pos rfl,k,O,Zo,if_neg (by simp),p,Zo,M];show(if (IJ A l ⟨e,f⟩ t==IJ A l ⟨e,f⟩ t)=true then _ else _)=_;rw[if_pos (beq_self_eq_true _)]
theorem sh1:∀i:Nat,i<16->∃x,CD ([{ data:= #[97] },{ data:= #[98] },{ data:= #[99] },{ data:= #[100] },{ data:= #[97,98] },{ data:= #[98,45,49] },{ data:= #[120,46,121] },{ data:= #[48] }]:List ByteArray) (sh (i:Int) 1)=some x:=by
 intro i b;have e:sh (i:Int) 1=((i / 2:Nat):Int):=by
  unfold sh;rw[show(2:Int)^(min 1 64)=2 from rfl,OG _ (by decide)];omega
 rw[e];exact⟨_,CL (by show i / 2<8;omega)⟩
theorem Qs {n:Nat}{ts:List AG}{rows:List AD}{e:Ak × ByteArray × AN}{A:AB->Bool}(p:2000<n)
  (f:∀(o:Ak) (rel:ByteArray),IZ n o rel ts rows (⟨e.2.2.type_,e.2.2.id_,e.2.2.rel⟩:AN)=some (A ⟨o,rel⟩))
  (g:rows.length<=100) (h:∀t∈rows,Kt n ts t=some (Eg ts t))
  (j:∀a∈([{ data:= #[97] },{ data:= #[98] }]:List ByteArray),∀b,(∀nm∈([{ data:= #[114] },{ data:= #[115] }]:List ByteArray),A ⟨⟨a,b⟩,nm⟩=rows.any (GY A ts ⟨a,b⟩ e.2.2 nm))/\UN n ts rows e a b n 0=some (.inl ())):
  ∀(d i c:Nat),d=16-i->i<=16->d<c->UO n ts rows e c (i:Int)=some (.inl ())
 |0,i,c,q,u,v=>by
  obtain⟨c,rfl⟩:=sx c;unfold UO;rw[C6,if_neg (by decide)]
 |d+1,i,c,q,u,v=>by
  obtain⟨c,rfl⟩:=sx c;have w:=Qs p f g h j d (i+1) c (by omega) (by omega) (by omega);have⟨a,x,y⟩:=PD { data:= #[97] } { data:= #[98] } (i:Int);have⟨b,z⟩:=sh1 i (by omega);have⟨k,B⟩:=j a y b;have l:Hn n ts rows e a b n (false,false,0)=_:=Qp f h g _ 0 n false false rfl (Lg _) (by omega);rw[LJ,Be,Be,<-k _ (by simp),<-k _ (by simp)] at l;unfold UO;rw[Cp,if_pos rfl,x,Zo,z,Zo,l,Zo,Al,w];dsimp only;rw[f,Zo,if_pos (beq_self_eq_true _),f,Zo];rw[show(A ⟨⟨a,b⟩,{ data:= #[115] }⟩==A ⟨⟨a,b⟩,{ data:= #[115] }⟩)=true from beq_self_eq_true _,Zo,if_neg (by decide),B,Zo]
theorem law_seekFixed (t0 i:List Int)(G:Int):∃n,Zc n t0 i G=some true:=by
 refine⟨3000000000,?_⟩;generalize T:(3000000000:Nat)=n;have hn:2000200000<n:=by omega
 clear T;obtain⟨m,rfl⟩:∃m,n=m+10:=⟨n-10,by omega⟩;have⟨s,I,U⟩:=xh (n:=m+10) (by omega) t0;have⟨ts,q,hB⟩:=yJ s (m+10) (by omega);have V:=o7 q;have⟨l,v,hl⟩:=xY i 20;have v:FV i 0 (if 20<(i.length:Int) then 20 else(i.length:Int))=some l:=v;have⟨d,X,_,hr,Y⟩:=xi (n:=m+10) l (by omega);have⟨c,Z,w⟩:=xj (m+10) G;have aa:c.2.2.rel={ data:= #[] }:=w.2.2.2.2;have J:Qf (m+10) d=some (tO.ofL d):=du d.length d (m+10) (Lc _) (by omega) (by omega);have ab:=SR tO d;have K:tO.Rises (tO.ofL d):=tO.rises_ofL d;have y:∀t∈tO.ofL d,SE (m+10) t=some true/\MB (m+10) t=some true:=fun t g=>xk (by omega) (Y t (tO.mem_ofL.1 g));generalize tO.ofL d=rows at J ab K y;unfold Zc;rw[I,Zo,q,Zo,v,Zo,X,Zo,J,Zo,Z,Zo];have⟨e,c1,c2⟩:=xP hB V (n:=m+10) (by omega);rw[c1,Zo];by_cases z:e=0;rotate_left
 ·rw[if_pos (by simpa using z)];rfl
 have⟨S,w1,hW⟩:=c2 z;subst z;have L:=UP hW hB;have ad:=zv I q U (by omega) hW;have M:rows.length<=100:=by omega
 have hf:(rows.filter (DU S)).length<=rows.length:=NU _ _;have B:∀(o:Ak) (f:ByteArray),IZ (m+10) o f ts rows (⟨c.2.2.type_,c.2.2.id_,c.2.2.rel⟩:AN)=some (PT (m+10) S rows c.2.2 ⟨o,f⟩):=fun o f=>by
  have h:=zk (o:=o) (rel:=f) (s:=c.2.2) w1 L (by omega) (by omega) fun t g=>(y t g).2;have h:Uv (m+10) ts rows o f (⟨c.2.2.type_,c.2.2.id_,c.2.2.rel⟩:AN)=_:=h;unfold IZ;rw[h];unfold eG PT FX;rw[if_pos aa];dsimp only;cases j:Av (⟨o.type_,f⟩:AA) S.rels with
  |false=>
   rw[if_neg (by decide)];rfl
  |true=>
   have⟨b,N⟩:=xU hW hB (r0:=[]) (o:=o) (rel:=f) (s:=c.2.2) (l:=rows.filter (DU S)) (n:=m+10) (by omega) (by omega) (fun t g=>of_decide_eq_true (Nb.1 g).2) j;rw[if_pos rfl,N];cases b<;>rfl
 have O:∀t∈rows,Kt (m+10) ts t=some (Eg ts t):=fun t g=>ww hB (by omega) (y t g).1;have C:∀r:AB,Av (FX r) S.rels=true->PT (m+10) S rows c.2.2 r=nwB S (rows.filter (DU S)) c.2.2 (PT (m+10) S rows c.2.2) r:=fun r j=>zn hW hB (by omega) M c.2.2 j;have hL:UO (m+10) ts rows c (m+10) 0=some (.inl ()):=by
  refine Qs (A:=PT (m+10) S rows c.2.2) (by omega) B M O (fun a w b=> ?_) _ 0 (m+10) rfl (Lg _) (by omega);have k:=ad a w;refine⟨fun nm p=> ?_,?_⟩
  ·simp only[Lr,L8,or_false] at p;rcases p with rfl |rfl
   ·rw[C ⟨⟨a,b⟩,_⟩ k.r.1,qP hW hB k.r.2]
   rw[C ⟨⟨a,b⟩,_⟩ k.s.1,qP hW hB k.s.2]
  refine Qr (l:=rows.filter (DU S)) (by omega) B (fun x=>xO K (by omega) (by omega) ⟨a,b⟩ x) (fun x j=> ?_) (fun nm p=> ?_) _ 0 (m+10) rfl (Lg _) (by omega)
  ·have ag:(FA rows ⟨a,b⟩ x.a).length<=rows.length:=aO _ _ _;have Q:ML (m+10) ts rows c a b x (FA rows ⟨a,b⟩ x.a) (m+10) (false,0)=_:=Qq B (x:=x) (subs:=FA rows ⟨a,b⟩ x.a) (fun u hu=>O _ (Ut.1 hu)) (by omega) _ 0 (m+10) false rfl (Lg _) (by omega);rw[LJ,Be,zu hW hB j] at Q;exact Q
  have⟨E,t,R,F⟩:=k.pq nm p;have N:=(JS L ⟨a,nm⟩).2.1;refine⟨qf_ (⟨a,nm⟩:AA) CX S.rels,t,?_,R,F,by omega,?_⟩
  ·rw[QM hB (by omega),mz hW];unfold qf_;unfold Av at E;rw[E]
  rw[C ⟨⟨a,b⟩,nm⟩ E];unfold nwB;have p4:(qf_ (⟨a,nm⟩:AA) CX S.rels).expr≠[]:=by rw[F];exact B9 (QK t)
  rw[if_neg (show ¬(qf_ (⟨(⟨⟨a,b⟩,nm⟩:AB).obj.type_,(⟨⟨a,b⟩,nm⟩:AB).rel⟩:AA) CX S.rels).expr= [] from p4)];show Gb _ _ _ (qf_ (⟨a,nm⟩:AA) CX S.rels).expr []=_;rw[F,zo R]
 rw[if_neg (by decide),hL,Zo];rfl
end Go.Proofs.YtnmkbmefohakmaaGreat.Ab
namespace Go.Proofs.YtnmkbmefohakmaaGreat.Ab
open Go.ChangeShapes Go.WideShapes Go.ChangeAt Go.RowKit
abbrev Hu (W:World):Nat->Prop:=fun k=>k<W.heap.size/\¬False
variable {t:TypeId}
section
variable {H:Type}{enc:TypeId × Value->H}{P:Program}{W:World}
def Opens {H:Type}(enc:TypeId × Value->H)(P:Program)(W:World)(t:TypeId){α:Type}(e:α->List D)(ok:α->Prop):Prop:=∀(c:Nat) (b:List Value) (x:DataW H × List MemPlace),DataW.trod enc P W 0 (fun _=>true) true c t b=some x->∃a:α,ok a/\b.length=(e a).length/\∀(j:Nat) (d:D),(e a)[j]? =some d->∃u,b[j]? =some u/\RC W (Hu W) d u
theorem fF {d:D}{u:Value}(h:RC W (Hu W) d u):∀(j:Nat) (b:D),[d][j]? =some b->∃c,[u][j]? =some c/\RC W (Hu W) b c:=fun j b e=>by
 cases j with
 |zero=>cases e;exact⟨u,rfl,h⟩
 |succ j=>simp at e
theorem Opens.int {k:IntKind}(b:P.underlying t=some (.int k)):Opens enc P W t (fun n:Int=>[.v (.int k n)]) fun n=>(Lit.int k n).wf=true:=fun d e x h=>by
 obtain⟨n,rfl,_,c⟩:=DataW.trod_int b h;exact⟨n,c,rfl,fF (.v _ rfl)⟩
theorem xw {w:World}{p:Addr}{x:Value}(h:w.cell? p=some x):p.block<w.heap.size:=by
 rcases LY p.block w.heap.size with b |b
 ·exact b
 have:w.heap[p.block]? =none:=Bc b;simp[World.cell?,this] at h
theorem Zv {b o i:Nat}:(⟨b,o,none⟩:Addr).add i=⟨b,o+i,none⟩:=by
 unfold Addr.add;split<;>simp_all
theorem Opens.slice {e:TypeId}{k:Nat}(ht:P.underlying t=some (.slice e))(hk:P.cellsOf e=k)(h0:0<k){α:Type}{en:α->List D}{ok:α->Prop}(hl:∀a,(en a).length=k)(he:Opens enc P W e en ok):
  Opens enc P W t (fun l:List α=>[.sl (List.map en l)]) fun l=>l.length<=maxLen/\∀a∈l,ok a:=fun fuel cs x h=>by
 subst hk;rcases DataW.trod_slice ht h with⟨rfl,_⟩ |⟨a,len,cap,elems,rest,n,_,rfl,_,_,hlc,hm,hel,hat,_,_⟩
 ·exact⟨[],⟨Lg _,by simp⟩,rfl,fF (.nl _ _)⟩
 have each:∀i:Fin len,∃(y:α) (us:List Value),ok y/\us.length=P.cellsOf e/\(∀j,j<P.cellsOf e->W.cell? ((a.add (i.1*P.cellsOf e)).add j)=us[j]?)/\∀(j:Nat) (d:D),(en y)[j]? =some d->∃u,us[j]? =some u/\RC W (Hu W) d u:=fun i=>by
  have h1:=hat i.1 i.2;rw[Le (by rw[hel];exact i.2)] at h1;obtain⟨us,h2,h3⟩:=Od.1 h1;obtain⟨_,h5,h6⟩:=World.cells?_some h2;obtain⟨y,k1,k2,k3⟩:=he _ _ _ h3;exact⟨y,us,k1,h5,h6,k3⟩
 have ch:∃(f:Fin len->α) (g:Fin len->List Value),∀i,ok (f i)/\(g i).length=P.cellsOf e/\(∀j,j<P.cellsOf e->W.cell? ((a.add (i.1*P.cellsOf e)).add j)=(g i)[j]?)/\∀(j:Nat) (d:D),(en (f i))[j]? =some d->∃u,(g i)[j]? =some u/\RC W (Hu W) d u:=
  ⟨fun i=>(each i).choose,fun i=>(each i).choose_spec.choose,fun i=>(each i).choose_spec.choose_spec⟩
 obtain⟨f,g,hfg⟩:=ch;refine⟨List.ofFn f,⟨by simp;omega,fun y hy=> ?_⟩,rfl,fF ?_⟩
 ·obtain⟨i,rfl⟩:=List.mem_ofFn.1 hy;exact(hfg i).1
 cases len with
 |zero=>exact .nl _ _
 |succ m=>
  have hc0:=(hfg ⟨0,by omega⟩).2.2.1 0 h0;have hl0:0<(g ⟨0,by omega⟩).length:=by rw[(hfg ⟨0,by omega⟩).2.1];exact h0
  rw[Le hl0] at hc0;obtain⟨b,o,s⟩:=a;have hspot:s=none:=by
   have:=World.cell?_spot hc0;simpa [Addr.add] using this
  subst hspot;have hlen:(List.map en (List.ofFn f)).length=m+1:=by simp
  have at':∀(i:Nat) (cs:List D),(List.map en (List.ofFn f))[i]? =some cs->∃hi:i<m+1,cs=en (f ⟨i,hi⟩):=fun i cs hi=>by
   have h1:i<m+1:=by
    have:=(Lb.1 hi).1;rwa [hlen] at this
   refine⟨h1,?_⟩;rw[Lp,Le (by rw[List.length_ofFn];exact h1),List.getElem_ofFn] at hi;exact(LM hi).symm
  have key:=RC.sl (w:=W) (I:=Hu W) (List.map en (List.ofFn f)) b o cap (P.cellsOf e) (fun i j=>(W.cell? ⟨b,o+i*P.cellsOf e+j,none⟩).getD (.bool true)) ⟨?_,fun h=>h⟩ (by rw[hlen];exact hlc) ?_ ?_ ?_
  ·rw[hlen] at key;exact key
  ·have:=xw hc0;simpa [Addr.add] using this
  ·intro i cs hi;obtain⟨h1,rfl⟩:=at' i cs hi;exact hl _
  ·intro i j cs d hi hj;obtain⟨h1,rfl⟩:=at' i cs hi;obtain⟨u,k1,k2⟩:=(hfg ⟨i,h1⟩).2.2.2 j d hj;have hjk:j<P.cellsOf e:=(by have:=(Lb.1 hj).1;rwa [hl] at this);have k3:=(hfg ⟨i,h1⟩).2.2.1 j hjk;rw[Zv,Zv,k1] at k3;simp only[k3,Nw]
  intro i j cs d hi hj;obtain⟨h1,rfl⟩:=at' i cs hi;obtain⟨u,k1,k2⟩:=(hfg ⟨i,h1⟩).2.2.2 j d hj;have hjk:j<P.cellsOf e:=by have:=(Lb.1 hj).1;rwa [hl] at this
  have k3:=(hfg ⟨i,h1⟩).2.2.1 j hjk;rw[Zv,Zv,k1] at k3;simp only[k3,Nw];exact k2
theorem Opens.one {α:Type}{e:α->D}{ok:α->Prop}(h:Opens enc P W t (fun a=>[e a]) ok){v:Value}(c:v.cells= #[v]){d:DataW H}{p:List MemPlace}(f:DataW.Trod enc P W 0 (fun _=>true) true t v d p):∃a,ok a/\RC W (Hu W) (e a) v:=by
 have⟨l,g⟩:=f;have⟨a,i,_,b⟩:=h _ _ _ g;rw[c] at b;have⟨u,j,k⟩:=b 0 (e a) rfl;cases j;exact⟨a,i,k⟩
end
theorem rows_nil {W:World}:∀(j:Nat) (d:D),([]:List D)[j]? =some d->∃u,([]:List Value)[j]? =some u/\Dj W (Hu W) d u:=fun j d h=>by simp at h
theorem rows_cons {W:World}{d:D}{v:Value}{ds:List D}{vs:List Value}(h:Dj W (Hu W) d v)(e:∀(j:Nat) (d:D),ds[j]? =some d->∃u,vs[j]? =some u/\Dj W (Hu W) d u):∀(j:Nat) (b:D),(d::ds)[j]? =some b->∃u,(v::vs)[j]? =some u/\Dj W (Hu W) b u:=fun j b c=>by
 cases j with
 |zero=>cases c;exact⟨v,rfl,h⟩
 |succ j=>exact e j b (by simpa using c)
theorem law_pure {P:Program}{f:FuncId}{fr:Bool}{ds:List D}(h:AI P f ds (.v (.bool true)) fr)(W:World)(vs:List Value)(c:vs.length=ds.length)(g:∀(j:Nat) (d:D),ds[j]? =some d->∃u,vs[j]? =some u/\Dj W (Hu W) d u):Calls P f vs.toArray W fun e b=>e= .returned (.bool true)/\Below W.heap.size W b:=by
 refine(h.2 W (fun _=>False) vs.toArray (fun _ h=>h.elim) (by simpa using c) fun j x i=> ?_).mono fun e b ⟨u,k,⟨l,_⟩,p⟩=> ?_
 ·have⟨u,q,v⟩:=g j x i;exact⟨u,by simpa using q,v⟩
 cases(show RC b _ (.v (.bool true)) u from p);exact⟨k,l⟩
end Go.Proofs.YtnmkbmefohakmaaGreat.Ab
namespace Go.Proofs.YtnmkbmefohakmaaGreat
open Go.ChangeShapes Go.WideShapes Go.ChangeAt Go.RowKit
namespace Ab
end Ab
namespace SxzF
open Ab
set_option maxRecDepth 100000 in
theorem S3 (os:Os)(i:os.Started)(H:Type)(enc:TypeId × Value->H):
  ReturnsInHanded {} Tryz.checked os 5 .any (Rows.seekFixedSpec.pre6 enc Tryz.prog Tryz.f5 Rows.seekFixedRow.domain false) (Rows.seekFixedSpec.post enc Tryz.prog Tryz.f5 false true false false):=by
 refine returnsInHanded_of_change (C:=Tryz.checked) (by kernel_rfl) i (by kernel_rfl) Tryz.func5
  (ChangeSpec.witness6 (enc:=enc) (C:=Tryz.checked) false ⟨#[], #[.slice none 0 0,.slice none 0 0,.int .i64 0],[]⟩ 8 (by kernel_rfl) (by kernel_rfl) (by kernel_rfl) (by kernel_rfl)) ?_
 intro W u b f w x z hW _ _;have c:∀(j:Nat) t v,Tryz.f5.params[j]? =some t->b[j]? =some v->Value.okWide Tryz.prog W .any u t v:=z;have g:DataW.Whole enc Tryz.prog Tryz.f5.params.toList Rows.seekFixedSpec.vars false W b.toList f w x:=hW;have Y:=g;obtain⟨p,q,B,hV,rfl,_,_⟩:=hW;have h:DataW.TrodAll enc Tryz.prog W 0 (fun _=>true) true Tryz.f5.params.toList b.toList f p:=B;rw[Tryz.params5] at h c;have⟨E⟩:=b;have⟨F,Z,d0,aa,p0,q0,d,G,_,I,J⟩:=trodAll_cons h;have⟨K,ab,d1,ad,p1,q1,L,M,_,N,O⟩:=trodAll_cons J;have⟨Q,ag,d2,ak,p2,q2,R,T,_,U,V⟩:=trodAll_cons O;have⟨X,cN,_⟩:=trodAll_nil V;subst X;subst cN;subst R;subst T;subst L;subst M;have d:E=_:=d;subst d;subst G;obtain⟨x0,y0,z0,rfl⟩:=okWide_slice Tryz.underlying22 (c 0 22 F rfl rfl);have⟨a0,k0,r0⟩:=Ab.Opens.one (e:=(fun l:List Int=>D.sl (List.map eI l))) (ok:=(fun l:List Int=>l.length<=maxLen/\∀y∈l,(Lit.int .i64 y).wf=true)) (Ab.Opens.slice (k:=1) (ok:=(fun n:Int=>(Lit.int .i64 n).wf=true)) Tryz.underlying22 (by kernel_rfl) (by decide) (by intro _;rfl) (Ab.Opens.int Tryz.underlying2)) rfl I;obtain⟨x1,y1,z1,rfl⟩:=okWide_slice Tryz.underlying22 (c 1 22 K rfl rfl);have⟨a1,k1,r1⟩:=Ab.Opens.one (e:=(fun l:List Int=>D.sl (List.map eI l))) (ok:=(fun l:List Int=>l.length<=maxLen/\∀y∈l,(Lit.int .i64 y).wf=true)) (Ab.Opens.slice (k:=1) (ok:=(fun n:Int=>(Lit.int .i64 n).wf=true)) Tryz.underlying22 (by kernel_rfl) (by decide) (by intro _;rfl) (Ab.Opens.int Tryz.underlying2)) rfl N;obtain⟨x2,rfl⟩:=okWide_int Tryz.underlying2 (c 2 2 Q rfl rfl);have⟨a2,k2,r2⟩:=Ab.Opens.one (e:=(fun n:Int=>D.v (.int .i64 n))) (ok:=(fun n:Int=>(Lit.int .i64 n).wf=true)) (Ab.Opens.int Tryz.underlying2) rfl U;have⟨n,hn⟩:=Ab.law_seekFixed a0 a1 a2;exact(Ab.law_pure (Ab.law9_SeekFixed_ok hn) W [.slice x0 y0 z0,.slice x1 y1 z1,.int .i64 x2] rfl (Ab.rows_cons r0 (Ab.rows_cons r1 (Ab.rows_cons r2 Ab.rows_nil)))).mono fun e W' ⟨he,hb⟩=>⟨_,he,Cm.law_post (by kernel_rfl) (by kernel_rfl) rfl (tb:=4) (by kernel_rfl) Tryz.underlying4 rfl rfl rfl g hb⟩

theorem said:Rows.SeekFixedSaid:=
 OpenClaim.holds_of_wide 5 Tryz.f5 rfl rfl rfl rfl rfl rfl rfl ⟨rfl,rfl,rfl,rfl,rfl⟩ rfl rfl rfl rfl rfl (by kernel_rfl) Tryz.func5 (by kernel_rfl)
  (of_decide_eq_true (by kernel_rfl)) (by unfold Func.isWrapper;first |(rw[if_pos (by decide+kernel)];kernel_rfl) |(rw[if_neg (by decide+kernel)];exact⟨rfl,rfl⟩))
  (fun b c H enc _=>S3 b c H enc)
#print axioms said
end SxzF
end Go.Proofs.YtnmkbmefohakmaaGreat
