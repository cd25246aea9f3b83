/-
 A row that is made of so many zeros.
-/
import Derived.Test.YtnmkbmefohakmaaGreatAbS
import Derived.Ground.SlsfProg
set_option linter.all false
namespace Go.Proofs
open Go.Shelf Go.RowKit Go.Sort
def Tryz.sortFuncTuple_ren:Go.Shelf.Ren:=⟨fun |6=>119 |15=>104 |14=>144 |28=>136 |29=>137 |20=>168 |21=>169 |22=>170 |23=>171 |24=>172 |25=>173 |26=>174 |27=>175 |46=>183 |47=>151 |48=>152 |49=>184 |50=>185 |57=>188 |n=>n,fun |22=>26 |24=>35 |25=>207 |3=>3 |39=>48 |0=>0 |53=>223 |55=>225 |4=>4 |46=>216 |45=>215 |50=>220 |5=>5 |9=>9 |66=>232 |70=>236 |76=>252 |77=>94 |n=>n,fun |n=>n⟩
theorem Tryz.sortFuncTuple:Go.Proofs.SlLaysF0.n6 Tryz.prog Tryz.sortFuncTuple_ren:={
 mixed:=by kernel_rfl
 f6:=⟨Tryz.f119.name,by decide,Tryz.func119.trans (congrArg some (by kernel_rfl))⟩
 f14:=⟨Tryz.f144.name,by decide,Tryz.func144.trans (congrArg some (by kernel_rfl))⟩
 f15:=Tryz.func104.trans (congrArg some (by kernel_rfl))
 f20:=⟨Tryz.f168.name,by decide,Tryz.func168.trans (congrArg some (by kernel_rfl))⟩
 f21:=⟨Tryz.f169.name,by decide,Tryz.func169.trans (congrArg some (by kernel_rfl))⟩
 f22:=⟨Tryz.f170.name,by decide,Tryz.func170.trans (congrArg some (by kernel_rfl))⟩
 f23:=⟨Tryz.f171.name,by decide,Tryz.func171.trans (congrArg some (by kernel_rfl))⟩
 f24:=⟨Tryz.f172.name,by decide,Tryz.func172.trans (congrArg some (by kernel_rfl))⟩
 f25:=⟨Tryz.f173.name,by decide,Tryz.func173.trans (congrArg some (by kernel_rfl))⟩
 f26:=⟨Tryz.f174.name,by decide,Tryz.func174.trans (congrArg some (by kernel_rfl))⟩
 f27:=⟨Tryz.f175.name,by decide,Tryz.func175.trans (congrArg some (by kernel_rfl))⟩
 f28:=Tryz.func136.trans (congrArg some (by kernel_rfl))
 f29:=Tryz.func137.trans (congrArg some (by kernel_rfl))
 f46:=⟨Tryz.f183.name,by decide,Tryz.func183.trans (congrArg some (by kernel_rfl))⟩
 f47:=Tryz.func151.trans (congrArg some (by kernel_rfl))
 f48:=Tryz.func152.trans (congrArg some (by kernel_rfl))
 f49:=⟨Tryz.f184.name,by decide,Tryz.func184.trans (congrArg some (by kernel_rfl))⟩
 f50:=⟨Tryz.f185.name,by decide,Tryz.func185.trans (congrArg some (by kernel_rfl))⟩
 f57:=⟨Tryz.f188.name,by decide,Tryz.func188.trans (congrArg some (by kernel_rfl))⟩
 t0:=Tryz.underlying0
 a0:=Tryz.isAgg0
 z0:=Tryz.sizeOf0
 v0:=Tryz.zeroValue0
 t3:=Tryz.underlying3
 a3:=Tryz.isAgg3
 z3:=Tryz.sizeOf3
 v3:=Tryz.zeroValue3
 t4:=Tryz.underlying4
 a4:=Tryz.isAgg4
 z4:=Tryz.sizeOf4
 v4:=Tryz.zeroValue4
 t5:=Tryz.underlying5
 a5:=Tryz.isAgg5
 z5:=Tryz.sizeOf5
 v5:=Tryz.zeroValue5
 t9:=Tryz.underlying9
 a9:=Tryz.isAgg9
 z9:=Tryz.sizeOf9
 v9:=Tryz.zeroValue9
 t22:=Tryz.underlying26
 a22:=Tryz.isAgg26
 z22:=Tryz.sizeOf26
 v22:=Tryz.zeroValue26
 t25:=Tryz.underlying207
 a25:=Tryz.isAgg207
 z25:=Tryz.sizeOf207
 v25:=Tryz.zeroValue207
 t39:=Tryz.underlying48
 a39:=Tryz.isAgg48
 z39:=Tryz.sizeOf48
 v39:=Tryz.zeroValue48
 t45:=Tryz.underlying215
 a45:=Tryz.isAgg215
 z45:=Tryz.sizeOf215
 v45:=Tryz.zeroValue215
 t46:=Tryz.underlying216
 a46:=Tryz.isAgg216
 z46:=Tryz.sizeOf216
 v46:=Tryz.zeroValue216
 t50:=Tryz.underlying220
 a50:=Tryz.isAgg220
 z50:=Tryz.sizeOf220
 v50:=Tryz.zeroValue220
 t53:=Tryz.underlying223
 a53:=Tryz.isAgg223
 z53:=Tryz.sizeOf223
 v53:=Tryz.zeroValue223
 t55:=Tryz.underlying225
 a55:=Tryz.isAgg225
 z55:=Tryz.sizeOf225
 v55:=Tryz.zeroValue225
 t66:=Tryz.underlying232
 a66:=Tryz.isAgg232
 z66:=Tryz.sizeOf232
 v66:=Tryz.zeroValue232
 t70:=Tryz.underlying236
 a70:=Tryz.isAgg236
 z70:=Tryz.sizeOf236
 v70:=Tryz.zeroValue236
 t76:=Tryz.underlying252
 a76:=Tryz.isAgg252
 z76:=Tryz.sizeOf252
 v76:=Tryz.zeroValue252
 t77:=Tryz.underlying94
 a77:=Tryz.isAgg94
 z77:=Tryz.sizeOf94
 v77:=Tryz.zeroValue94 }
end Go.Proofs
namespace Go.Proofs.YtnmkbmefohakmaaGreat.Ab
open Go.Shelf Go.RowKit Go.Sort
def tk (t:AD):List ByteArray:=[t.obj.type_,t.obj.id_,t.rel,t.sub_.type_,t.sub_.id_,t.sub_.rel]
theorem pA (x y:AD)(h:tk x=tk y):x=y:=by
 have⟨⟨a,b⟩,c,⟨d,e,f⟩⟩:=x;have⟨⟨g,j⟩,l,⟨m,o,p⟩⟩:=y;simp only[tk,List.cons.injEq,and_true] at h;obtain⟨rfl,rfl,rfl,rfl,rfl,rfl⟩:=h;rfl
def tO:Lin AD:=ei tk (fun _ _=>rfl) pA
def fX (x y:AD):Int:=Ev (tk x) (tk y)
theorem pB {n:Nat}{vs:List Int}(b:vs.length<4611686018427387904):∀(c j:Nat),j<=vs.length->vs.length-j<c->Xh n vs c (j:Int)=some (if HF (vs.drop j)=0 then .inl () else .inr (HF (vs.drop j)))
 |0,_,_,h=>by omega
 |c+1,j,e,f=>by
  have d:=pB (n:=n) b c;unfold Xh;by_cases a:j<vs.length
  ·rw[EO a,if_pos rfl,CL a,Zo,List.drop_eq_getElem_cons a,MR];unfold HF;by_cases h:vs[j]=0
   ·rw[h,if_pos rfl,d _ (by omega) (by omega)];simp
   rw[if_neg h];simp[h]
  rw[DC,if_neg (by decide),List.drop_eq_nil_of_le (by omega)];rfl
variable {hp:Hp}{n:Nat}
theorem yf {vs:List Int}(a:vs.length<4611686018427387904)(b:vs.length<n):Xi n vs=some (HF vs):=by
 unfold Xi;have h:Xh n vs n 0=_:=pB a n 0 (by omega) (by omega);rw[h,List.drop_zero,Zo];by_cases e:HF vs=0
 ·rw[if_pos e,e]
 rw[if_neg e]
theorem yg (n:Nat)(a b:ByteArray):PU n a b=some (G5 a b):=rfl
theorem yh (a:10<n)(x y:AD):aZ n x y=some (fX x y):=by
 unfold aZ;simp only[yg,Zo];rw[yf (by simp) (by simp;omega)];rfl
theorem yi (x y:AD):AI Tryz.prog 120 [.ag (AE x),.ag (AE y)] (.v (.int .i64 (fX x y))) true:=g2_ (yh (n:=100) (by decide) x y)
theorem yj:AI Tryz.prog 118 [.sl []] (.sl []) true:=
 Tz Ep EN Tryz.func118 (T:=26) (B:=4) rfl (by kernel_rfl) (by kernel_rfl) (by decide) rfl (by simp only[go_sem]) (by simp only[go_sem]) (by simp only[go_sem];decide) (by simp only[go_sem];decide)
theorem yk (xs:List AD)(a:0<xs.length)(c:xs.length<=4294967296){b:Bool}{nx:Nat}:
  AU Tryz.prog 118 [.d (.sl (xs.map AE)) b] hp nx fun v d g=>v= .so (nx+3) 1 0 xs.length/\d=upd (nx+3) (some (.rw (xs.map AE) 6 1 false false)) hp/\g=nx+7:=by
 have h:=cr (e:=AE) (k:=6) (b:=b) (hp:=hp) (nx:=nx) Ep EN Tryz.func118 (T:=26) (B:=4) rfl (by kernel_rfl) (by kernel_rfl) (by decide) rfl (by simp only[go_sem]) (by simp only[go_sem]) (by simp only[go_sem]) (by decide) (by simp only[go_sem];decide) (fun _=>rfl) xs a c;rw[T9 (f:=AE) (fun _=>rfl),Bool.not_true,Bool.and_false] at h;exact h
theorem pC:Mp Tryz.prog 119:=⟨_,Tryz.func119,by kernel_rfl,by kernel_rfl⟩
theorem yl (xs:List AD)(e:0<xs.length)(l:xs.length<=4294967296){id ver:Nat}{br:Bool}{nx:Nat}(f:hp id=some (.rw (xs.map AE) 6 ver br false)):
  AU Tryz.prog 119 [.so id ver 0 xs.length,.fn 120 []] hp nx fun v b c=>v= .tu []/\c=nx/\∃a:List AD,a.length=xs.length/\Lib.compact a=tO.ofL xs/\b=upd id (some (.rw (a.map AE) 6 ver br false)) hp:=by
 have h:=vZ (encD:=AE) (k:=6) (br:=br) (nx:=nx) Tryz.sortFuncTuple (fun w=>by kernel_rfl) (fun w=>by kernel_rfl) (fun _=>rfl) fX tO.swo rfl pC (enters_of Tryz.func120 (by kernel_rfl) rfl) yi xs (by rintro rfl;simp at e) (by omega) f;refine h.mono ?_;rintro v b c ⟨rfl,rfl,a,d,g,j⟩;exact⟨rfl,rfl,a,d.length_eq,tO.compact_sorted (fun x=>d.mem_iff) g,j⟩
theorem ym (xs:List AD)(a:0<xs.length)(b:xs.length<=4294967296){id ver:Nat}{br:Bool}{nx:Nat}(c:hp id=some (.rw (xs.map AE) 6 ver br false)):
  AU Tryz.prog 121 [.so id ver 0 xs.length] hp nx fun v d _=>v= .so id (ver+1) 0 (Lib.compact xs).length/\d=upd id (some (.rw ((Lib.compact xs).map AE) 6 (ver+1) br false)) hp:=
 ve c (vd (wk xs a b nx))
theorem sort0_in {b:Bool}{nx:Nat}:AU Tryz.prog 119 [.d (.sl []) b,.fn 120 []] hp nx fun v y z=>v= .tu []/\y=hp/\z=nx:=by
 refine⟨pC,fun g c l A M f B m=> ?_⟩;have⟨p,C,E⟩:=m 0 _ rfl;have⟨q,F,G⟩:=m 1 _ rfl;have H:∃a k,p= .slice a 0 k:=by
  cases(show RA g c (.d (.sl []) b) p from E) with
  |d _ _ _ f=>cases f with |nl a k=>exact⟨a,k,rfl⟩ |sl _ b o k=>exact⟨_,_,rfl⟩
 obtain⟨a,k,rfl⟩:=H;have I:q= .func (.func 120) #[] #[]:=by
  cases(show RA g c (.fn 120 []) q from G) with
  |fn _ _ N n t _=>
   simp only[List.length_nil] at t;subst t;rfl
 subst I;have J:l= #[.slice a 0 k,.func (.func 120) #[] #[]]:=by
  have K:l.size=2:=by simpa using B
  apply Array.ext
  ·simpa using K
  intro j u O;have L:j=0\/j=1:=by omega
  rcases L with rfl |rfl
  ·simpa [u] using C
  simpa [u] using F
 subst J;have w:=AnyF.slices_SortFunc_none Tryz.sortFuncTuple a k (.func (.func 120) #[] #[]) c.w;change Calls Tryz.prog 119 _ _ _ at w;refine w.mono ?_;rintro e R ⟨rfl,rfl⟩;exact⟨.tuple #[],.tu [],c,nx,rfl,⟨rfl,A,rfl⟩,rfl,CP.refl c,f,⟨#[],rfl,rfl,fun j x e=>by simp at e⟩,Nat.le_refl _,fun i h=>.inl h⟩
theorem Sg:AI Tryz.prog 121 [.sl []] (.sl []) false:=by
 refine VP (tab:=tab) Ep EN Tryz.func121 rfl (by kernel_rfl) (by kernel_rfl) (by simp[Tryz.f121]) ?_;simp -implicitDefEqProofs only[go_sem,Int.reduceLT,decide_true,Nat.reduceAdd,reduceCtorEq, ↓reduceIte];exact IU (v:=.d (.sl []) true) (b:=true) (is:=[]) (by simp -implicitDefEqProofs only[go_sem, ↓reduceIte,Tryz.f121]<;>rfl) rfl rfl (fun h=>by cases h)
theorem yn (xs:List AD)(d:xs.length<=4294967296):AI Tryz.prog 94 [.sl (xs.map AE)] (.sl ((tO.ofL xs).map AE)) true:=by
 refine VP (tab:=tab) Ep EN Tryz.func94 rfl (by kernel_rfl) (by kernel_rfl) (by simp[Tryz.f94]) ?_;refine Z0 ?_;by_cases f:0<xs.length
 ·refine CR ((yk xs f d).mono ?_);rintro v a c ⟨rfl,rfl,rfl⟩;refine Z0 ?_;refine CR ((yl xs f d zz).mono ?_);rintro v a c ⟨rfl,rfl,g,h,j,rfl⟩;refine Z0 ?_;rw[<-h];have l:0<g.length:=by omega
  refine CR ((ym g l (by omega) zz).mono ?_);rintro v a c ⟨rfl,rfl⟩;rw[j];refine Z0 ?_;exact IU (v:=.so 7 2 0 (tO.ofL xs).length) (b:=false) (is:=[7]) (by simp -implicitDefEqProofs only[go_sem, ↓reduceIte,Tryz.f94]<;>rfl) zz rfl (fun _=>rfl)
 have e:xs= []:=List.eq_nil_of_length_eq_zero (by omega);subst e;refine Mt zz yj (.inr rfl) ?_;refine Z0 ?_;refine CR (sort0_in.mono ?_);rintro v a c ⟨rfl,rfl,rfl⟩;refine Z0 ?_;refine Mt zz Sg (.inl rfl) ?_;refine Z0 ?_;exact IU (v:=.d (.sl []) false) (b:=false) (is:=[]) (by simp -implicitDefEqProofs only[go_sem, ↓reduceIte,Tryz.f94]<;>rfl) rfl rfl (fun _=>rfl)
def aF (a:Nat)(xs:List AD):Option (List AD):=if xs.length<=4294967296 then some (tO.ofL xs) else none
theorem yo {xs r:List AD}(h:aF n xs=some r):AI Tryz.prog 94 [D.sl (List.map AE xs)] (D.sl (List.map AE r)) true:=by
 unfold aF at h;split at h
 ·rename_i a;obtain rfl:=Option.some.inj h;exact yn xs a
 cases h
end Go.Proofs.YtnmkbmefohakmaaGreat.Ab
namespace Go.Proofs.YtnmkbmefohakmaaGreat.Ab
open Go.Shelf Go.RowKit
theorem toList_inj {a b:ByteArray}(h:a.toList=b.toList):a=b:=by
 rw[Lib.toList_data,Lib.toList_data] at h;exact ByteArray.ext (IH h)
def qD (x:AD):List D:=AE x
def qA (x:AD):List AV:=[.v (.string x.obj.type_),.v (.string x.obj.id_),.v (.string x.rel),.v (.string x.sub_.type_),.v (.string x.sub_.id_),.v (.string x.sub_.rel)]
@[go_sem] theorem aC (x:AD)(b:Bool):(qD x).map (CE b)=qA x:=rfl
@[go_sem] theorem fU (x:AD):(qA x).length=6:=rfl
@[go_sem] theorem aD (x:AD):(qA x).take 6=qA x:=rfl
@[go_sem] theorem o8 (hp:Hp)(x:AD):DR hp (qA x)=some (qD x,false,[]):=rfl
theorem fV (x:AD):AI Tryz.prog 74 [.ag (qD x)] (.ag (qD x)) true:=by
 refine VP (tab:=tab) Ep EN Tryz.func74 rfl (by kernel_rfl) (by kernel_rfl) (by simp[Tryz.f74]) ?_;unfold qD;refine Z0 ?_;exact IU (by simp -implicitDefEqProofs only[go_sem,Nat.reduceEqDiff,Nat.reduceAdd, ↓reduceIte,Tryz.f74]<;>rfl) rfl rfl (fun _=>rfl)
theorem Qi (x:AD){k:Nat}(a:k<6):∃s,(tk x)[k]? =some s/\(qA x)[k]? =some (.v (.string s)):=by
 match k,a with
 |0,_=>exact⟨_,rfl,rfl⟩
 |1,_=>exact⟨_,rfl,rfl⟩
 |2,_=>exact⟨_,rfl,rfl⟩
 |3,_=>exact⟨_,rfl,rfl⟩
 |4,_=>exact⟨_,rfl,rfl⟩
 |5,_=>exact⟨_,rfl,rfl⟩
theorem o9:∀ {k:Nat} {X Y:List ByteArray} {s t:ByteArray},X.take k=Y.take k->X[k]? =some s->Y[k]? =some t->s≠t->Ev X Y=G5 s t
 |0,a::X,b::Y,s,t,_,c,d,f=>by
  cases c;cases d
  have:¬G5 a b=0:=fun e=>f ((US a b).1 e)
  simp[Ev,HF,this]
 |k+1,a::X,b::Y,s,t,g,c,d,f=>by
  rw[Ow,Ow] at g;injection g with e1 e2;subst e1;have h:=o9 (k:=k) e2 (by simpa using c) (by simpa using d) f;unfold Ev at *;rw[Bd,HF,if_pos ((US a a).2 rfl),h]
 |_,[],_,_,_,_,c,_,_=>by simp at c
 |_,_::_,[],_,_,_,_,d,_=>by simp at d
theorem ye {k:Nat}{X Y:List ByteArray}{s t:ByteArray}(a:X.take k=Y.take k)(b:X[k]? =some s)(c:Y[k]? =some t)(h:s=t):X.take (k+1)=Y.take (k+1):=by
 subst h;rw[Bv,Bv,a,b,c]
theorem less (x y:AD):AI Tryz.prog 37 [.ag (qD x),.ag (qD y)] (.v (.bool (tO.lt x y))) true:=by
 refine VP (tab:=tab) Ep EN Tryz.func37 rfl (by kernel_rfl) (by kernel_rfl) (by simp[Tryz.f37]) ?_;refine Z0 ?_;refine cA (by simp -implicitDefEqProofs only[go_sem];rfl) (fV x) (.inr rfl) ?_;simp -implicitDefEqProofs only[go_sem,NB,Nat.reduceEqDiff,Nat.reduceAdd, ↓reduceIte];refine cA (by simp -implicitDefEqProofs only[go_sem];rfl) (fV y) (.inr rfl) ?_;simp -implicitDefEqProofs only[go_sem,NB,Nat.reduceEqDiff,Nat.reduceAdd, ↓reduceIte];refine cB (by rfl) ?_;refine Z0 ?_;refine YQ (fun p:{ p:Nat × Nat // p.1<=6/\(tk x).take p.1=(tk y).take p.1 }=>⟨upd 7 (.v (.int .i64 (p.1.1:Int))) (upd 6 (.pt 8 0) (upd 5 (.pt 7 0) (upd 4 (.v (.bool false)) AK))),upd 8 (some (.bx (qA y))) (upd 7 (some (.bx (qA x))) AM),p.1.2+12⟩) (fun p=>7-p.1.1) ⟨(0,0),by simp⟩ ⟨DE rfl DS,Yc rfl (Yc rfl (Pn _)),by simp⟩ ?_;rintro⟨⟨k,m⟩,l,a⟩;simp only at l a;by_cases b:k<6
 ·have c:decide ((k:Int)<6)=true:=by simp;omega
  have⟨s,e,f⟩:=Qi x b;have⟨t,g,j⟩:=Qi y b;refine Z1 (Y4 c b f j) ?_;refine cB (by rfl) ?_;refine Z0 ?_;refine YP (fun h=> ?_) (fun h=> ?_)
  ·refine Z1 (Y3 b f j) ?_;refine cB (by rfl) ?_;refine Z0 ?_;have o:s≠t:=(by rintro rfl;simp at h);refine IU (by simp -implicitDefEqProofs only[go_sem, ↓reduceIte,Tryz.f37]<;>rfl) rfl ?_ (fun _=>rfl);have d:tO.lt x y=tx.lt s t:=by
    show decide (Ev (tk x) (tk y)<0)=_;rw[o9 a e g o,SC]
   rw[d];rfl
  have q:s=t:=toList_inj (by simpa using h);have u:IntKind.i64.wrap ((k:Int)+1)=((k+1:Nat):Int):=by rw[MR]
  refine Z1 u ?_;exact⟨⟨(k+1,_),by omega,ye a e g q⟩,⟨DE rfl DS,Yc rfl (Yc rfl (Pn _)),Lc _⟩,by simp only;omega⟩
 have c:decide ((k:Int)<6)=false:=by simp;omega
 refine Z1 c ?_;have d:tO.lt x y=false:=by
  have v:k=6:=by omega
  subst v;have w:tk x=tk y:=a;rw[pA _ _ w];exact tO.irrefl _
 exact IU (by simp -implicitDefEqProofs only[go_sem, ↓reduceIte,Tryz.f37]<;>rfl) rfl (by rw[d]) (fun _=>rfl)
def XR (a:Nat)(x y:AD):Option Bool:=some (tO.lt x y)
theorem fW {n:Nat}{x y:AD}{r:Bool}(h:XR n x y=some r):AI Tryz.prog 37 [.ag (AE x),.ag (AE y)] (.v (.bool r)) true:=by
 obtain rfl:=LM h;exact less x y
end Go.Proofs.YtnmkbmefohakmaaGreat.Ab
namespace Go.Proofs.YtnmkbmefohakmaaGreat.Ab
open Go.RowKit
section
variable {P:Program}{tab:Nat->TI}{ops:Array Oper}{nx0 nx i:Nat}{k:List It}{Q:Ex->St->Prop}{r:List Oper}{s:St}{dst:Option Nat}{acc:List Cx}{fr:Fr}{hp:Hp}
@[go_sem] theorem cn_ (A:TypeId)(x y:Operand):DH P tab ops nx0 k Q i r dst s (.makeSlice A x y)=Fg P tab ops nx0 k Q (i+1) r dst s (CM tab (ev s.fr) s.hp (nx0+i) (.makeSlice A x y)):=rfl
end
def Wt (n:Int):Option (List Int):=if 0<=n/\n<=4294967296 then some (List.replicate n.toNat 0) else none
theorem xl {n:Int}{l:List Int}(h:Wt n=some l):(∀k:IntKind,EI (AV.v (.int k n))=some l.length)/\l.length<=4294967296/\∀k:IntKind,List.replicate l.length [D.v (.int k 0)]=List.map (fun z=>[D.v (.int k z)]) l:=by
 unfold Wt at h;split at h
 ·rename_i c;cases h;refine⟨fun k=>by rw[A8 k c.1,NL],by rw[NL];omega,fun k=>by rw[NL,Ir]⟩
 cases h
def Wu (n:Int):Option (List Bool):=if 0<=n/\n<=4294967296 then some (List.replicate n.toNat false) else none
theorem xm {n:Int}{l:List Bool}(h:Wu n=some l):(∀k:IntKind,EI (AV.v (.int k n))=some l.length)/\l.length<=4294967296/\List.replicate l.length [D.v (.bool false)]=List.map eB l:=by
 unfold Wu at h;split at h
 ·rename_i c;cases h;refine⟨fun k=>by rw[A8 k c.1,NL],by rw[NL];omega,by rw[NL,Ir]⟩
 cases h
end Go.Proofs.YtnmkbmefohakmaaGreat.Ab
