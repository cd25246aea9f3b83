/-
 A schema that is read without an error: each relation has subjects, or is a whole expression. No program in sight.
-/
import Derived.Test.YtnmkbmefohakmaaGreatGoc
set_option linter.all false
namespace Go.Proofs.YtnmkbmefohakmaaGreat.Ab
open Go.RowKit
section
variable {K α:Type}[BEq K][LawfulBEq K]
omit [LawfulBEq K] in
theorem wI {k:K}{m:List (K × List α)}(h:Ay k m=false):qf_ k [] m= []:=by
 simp_all [Ay,qf_,mget]
def KR (m:List (K × List α)):Prop:=∀p∈m,p.2≠[]
omit [LawfulBEq K] in
theorem KR.has {m:List (K × List α)}(h:KR m){k:K}(c:Ay k m=true):qf_ k [] m≠[]:=by
 induction m with
 |nil=>simp[Ay,mget] at c
 |cons p r d=>
  unfold qf_;unfold Ay at c;cases e:(k==p.1) with
  |true=>
   simp only[mget,e,if_true];exact h p (Lp ..)
  |false=>
   simp only[mget,e] at c⊢;exact d (fun q f=>h q (Lk _ f)) c
omit [LawfulBEq K] in
theorem KR.add {m:List (K × List α)}(h:KR m)(k:K)(y:α):KR (Az k [y] m):=by
 induction m with
 |nil=>intro p c;simp[Az] at c;subst c;simp
 |cons q r d=>
  intro p c;unfold Az at c;split at c
  ·rcases Lv.1 c with rfl |c
   ·simp
   exact h p (Lk _ c)
  rcases Lv.1 c with rfl |c
  ·exact h _ (Lp ..)
  exact d (fun z e=>h z (Lk _ e)) p c
omit [LawfulBEq K] in
theorem cB {d:Type}(e:d->K)(f:d->α):∀(l:List d) (c:List (K × List α)),KR c->KR (l.foldl (fun c t=>Az (e t) [f t] c) c)
 |[],_,h=>h
 |t::r,_,h=>cB e f r _ (h.add (e t) (f t))
end
variable {a rel typ:ByteArray}{m n:Nat}{o:Ae}{s:AL}{ts:List AG}{x:Au}
theorem lD {m:List (ByteArray × List ByteArray)}(h:KR m)(t:ByteArray)(hl:(qf_ t [] m).length<=4294967296):PT n m t=some (tx.ofL (qf_ t [] m)):=by
 unfold PT;cases hm:Ay t m with
 |false=>rw[if_neg NY,wI hm];rfl
 |true=>
  have c:=h.has hm;have d:(qf_ t [] m).length≠0:=fun e=>c (LV e);have f:(tx.ofL (qf_ t [] m)).length≠0:=fun e=>by
   have g:=LV e;have⟨x,i⟩:=OD _ c
   have:=tx.mem_ofL.2 i;rw[g] at this;cases this
  rw[if_pos rfl,decide_eq_false d,if_neg NY];unfold Vr;rw[if_pos hl,Zo,show Jy (qf_ t [] m)=tx.ofL (qf_ t [] m) from wm _,decide_eq_false f,if_neg NY]
def Qw (x a:ByteArray):Bool:=Op.bytesLess x.toList a.toList||x.toList==a.toList
def G2 (b:ByteArray->Bool)(a x:ByteArray):Bool:=if a={ data:= #[] } then b x else !Qw x a&&b x
abbrev VT:=List ByteArray ⊕ (List ByteArray × Bool)
theorem Jw {f:List ByteArray->ByteArray->(List ByteArray->Option VT)->Option VT}{e:List ByteArray->Option VT}{kp:ByteArray->Bool}{m:Nat}(hm:m<=1000)(d:∀o,e o=some (.inl o)):∀(l c:List ByteArray),(∀x∈l,∀c k,f c x k=if kp x then(if c.length=m then some (.inr (c,true)) else(Cu c [x]).bind k) else k c)->c.length<=m->
  DP f e l c=some (if c.length+(l.filter kp).length<=m then .inl (c++l.filter kp) else .inr ((c++l.filter kp).take m,true))
 |[],c,_,g=>by
  rw[List.filter_nil,LB,NP,if_pos g,Ns];exact d c
 |x::l,c,i,g=>by
  have j:=fun c=>Jw hm d l c fun y p=>i y (Lk _ p);rw[DP,i x (Lp ..),BR];cases kp x with
  |false=>
   grind
  |true=>
   rw[if_pos rfl,if_pos rfl];by_cases q:c.length=m
   ·grind
   rw[if_neg q,C6 (by simp only[Lo];omega),Zo,j _ (by rw[Ld,Lo];omega)];grind
theorem lE {x:ByteArray}{v:Bool}{c:Option Bool}(d:c=some v)(out:List ByteArray)(k:List ByteArray->Option VT):
  (((if (Op.bytesLess x.toList a.toList||x.toList==a.toList) then(if (a.toList==({ data:= #[] }:ByteArray).toList) then c.bind fun t=>some (!t) else some true) else c.bind fun t=>some (!t)):Option Bool).bind fun t=>(if t then k out else(if ((out.length:Int)==(m:Int)) then some (.inr (out,true)) else(Cu out [x]).bind fun e=>k e)))=
   if (if a={ data:= #[] } then v else !Qw x a&&v) then(if out.length=m then some (.inr (out,true)) else(Cu out [x]).bind k) else k out:=by
 subst d;rw[DH a];unfold Qw;grind
section
variable {n m:Nat}{G:AI}{a:ByteArray}{b:ByteArray->Bool}{l:List ByteArray}(hm:m<=1000)(hl:l.length<1000000)(hn:1000000<n)
theorem lF {L:List ByteArray}:((some (if ([]:List ByteArray).length+L.length<=m then .inl ([]++L) else .inr (([]++L).take m,true)):Option VT).bind fun | .inl c=>some (c,false) | .inr r=>some r)=some (L.take m,decide (m<L.length)):=by
 rw[Zo,LA,LB,Ny];by_cases h:L.length<=m
 ·rw[if_pos h,Nu h,DE]
 rw[if_neg h,DB]
include hm hl hn in
theorem VU (g:∀x∈l,Gj n G ⟨typ,x⟩ rel s=some (b x)):Qt n l ⟨a,(m:Int)⟩ G typ rel s=some ((l.filter (G2 b a)).take m,decide (m<(l.filter (G2 b a)).length)):=by
 have d:S9 n l ⟨a,(m:Int)⟩ G typ rel s n (([]:List ByteArray),0)=_:=wD n l ⟨a,(m:Int)⟩ G typ rel s (by omega) n [] 0 (by omega) (by omega);rw[LD,Jw (f:=bv n l ⟨a,(m:Int)⟩ G typ rel s) (e:=bw n l ⟨a,(m:Int)⟩ G typ rel s) (kp:=G2 b a) (m:=m) hm (fun _=>rfl) l [] (fun x i j k=>lE (x:=x) (a:=a) (c:=PI n x G typ rel s) (by unfold PI;exact(congrArg (fun o:Option Bool=>o.bind fun p=>some p) (g x i)).trans rfl) j k) (Lf _)] at d;unfold Qt;rw[d];exact lF
include hm hl hn in
theorem VV (g:∀x∈l,Gj n G o rel ⟨typ,x,ByteArray.empty⟩=some (b x)):TB n l ⟨a,(m:Int)⟩ G o rel typ=some ((l.filter (G2 b a)).take m,decide (m<(l.filter (G2 b a)).length)):=by
 have d:TA n l ⟨a,(m:Int)⟩ G o rel typ n (([]:List ByteArray),0)=_:=wF n l ⟨a,(m:Int)⟩ G o rel typ (by omega) n [] 0 (by omega) (by omega);rw[LD,Jw (f:=bz n l ⟨a,(m:Int)⟩ G o rel typ) (e:=cA n l ⟨a,(m:Int)⟩ G o rel typ) (kp:=G2 b a) (m:=m) hm (fun _=>rfl) l [] (fun x i j k=>lE (x:=x) (a:=a) (c:=PJ n x G o rel typ) (by unfold PJ;exact(congrArg (fun o:Option Bool=>o.bind fun p=>some p) (g x i)).trans rfl) j k) (Lf _)] at d;unfold TB;rw[d];exact lF
end
theorem YT (hm:1<=m)(c:m<=1000):MI n ⟨a,(m:Int)⟩=some false:=by
 unfold MI;grind
section
variable {n:Nat}{ts:List AG}{rows:List AC}{S:AD}(h:HO n ts=some (.inl S))(hW:Dh ts S)(hB:Ed ts)(hn:2000000000<n)(hr:rows.length<=100)(hok:∀t∈rows,JZ n t=some true)
def gr (S:AD)(rows:List AC):AI:=⟨S,EA (rows.filter (Aq S)),rows.filter (Aq S)⟩
def ER (n:Nat)(S:AD)(rows:List AC)(o:Ae)(rel:ByteArray)(s:AL):Bool:=(Gj n (gr S rows) o rel s).getD false
include hW hB hn hr in
theorem cC (s:AL)(c:Ay (⟨o.type_,rel⟩:AA) S.rels=true):Gj n (gr S rows) o rel s=some (ER n S rows o rel s):=by
 have f:(rows.filter (Aq S)).length<=rows.length:=LM _ _;have⟨b,d⟩:=wY hW hB (r0:=rows.filter (Aq S)) (o:=o) (rel:=rel) (s:=s) (l:=rows.filter (Aq S)) (by omega) hn (fun t e=>of_decide_eq_true (LO.1 e).2) c;unfold ER gr;rw[d];rfl
include h hW hB hn hr hok in
theorem lG (c:Ay (⟨typ,rel⟩:AA) S.rels=true)(hm:1<=m)(d:m<=1000):S8 n ts rows typ rel ⟨a,(m:Int)⟩=some (gr S rows,0):=by
 have e:Hv n (gr S rows) typ rel=some true:=by
  unfold Hv;rw[Hy];exact congrArg some c
 unfold S8;rw[YT hm d,Zo,if_neg (by decide),cQ h (Ha hW hB) (by omega) (by omega) hok,Zo,if_pos (by rfl)];show(Hv n (gr S rows) typ rel).bind _=_;rw[e];rfl
include h hW hB hn hr hok in
theorem lH (c:Ay (⟨typ,rel⟩:AA) S.rels=true)(hm:1<=m)(d:m<=1000):JQ n ts rows typ rel ⟨a,(m:Int)⟩=none:=by
 have e:Hv n (gr S rows) typ rel=some true:=by
  unfold Hv;rw[Hy];exact congrArg some c
 unfold JQ;rw[YT hm d];dsimp only;rw[h];dsimp only;rw[cQ h (Ha hW hB) (by omega) (by omega) hok];simp_all [Hv,gr,Unit]
include h hW hB hn hr hok in
theorem wJ (c:Ay (⟨typ,rel⟩:AA) S.rels=false)(hm:1<=m)(d:m<=1000):JQ n ts rows typ rel ⟨a,(m:Int)⟩=some ((),12):=by
 have e:Hv n (gr S rows) typ rel=some false:=by
  unfold Hv;rw[Hy];exact congrArg some c
 unfold JQ;rw[YT hm d];dsimp only;rw[h];dsimp only;rw[cQ h (Ha hW hB) (by omega) (by omega) hok];simp_all [Hv,gr,Unit]
def FB (S:AD)(rows:List AC)(typ:ByteArray):List ByteArray:=tx.ofL (Rn (tO.ofL (rows.filter (Aq S))) typ)
def Eb (S:AD)(rows:List AC)(typ:ByteArray):List ByteArray:=tx.ofL (Pp (tO.ofL (rows.filter (Aq S))) typ)
theorem lI:(FB S rows typ).length<=rows.length:=Lq (I0 tx _) (Lq (oO _ _) (Lq (I0 tO _) (LM _ _)))
theorem lJ:(Eb S rows typ).length<=rows.length:=Lq (I0 tx _) (Lq (by unfold Pp;rw[Lt];exact Lq (LM _ _) (LM _ _)) (Lq (I0 tO _) (LM _ _)))
include hr in
theorem wK (typ:ByteArray):TN n (EA (rows.filter (Aq S))) typ=some (FB S rows typ):=by
 have f:(rows.filter (Aq S)).length<=rows.length:=LM _ _;have g:=oO (tO.ofL (rows.filter (Aq S))) typ;have i:=I0 tO (rows.filter (Aq S));have e:qf_ typ [] (EA (rows.filter (Aq S))).left.objs=Rn (tO.ofL (rows.filter (Aq S))) typ:=yv _ _;have c:KR (EA (rows.filter (Aq S))).left.objs:=cB (fun t:AC=>t.obj.type_) (fun t=>t.obj.id_) (tO.ofL (rows.filter (Aq S))) [] (by intro p d;cases d);unfold TN FB;rw[lD c typ (by rw[e];omega),e]
include hr in
theorem wL (typ:ByteArray):TO n (EA (rows.filter (Aq S))) typ=some (Eb S rows typ):=by
 have f:(rows.filter (Aq S)).length<=rows.length:=LM _ _;have g:(Pp (tO.ofL (rows.filter (Aq S))) typ).length<=(tO.ofL (rows.filter (Aq S))).length:=by unfold Pp;rw[Lt];exact Lq (LM _ _) (LM _ _)
 have i:=I0 tO (rows.filter (Aq S));have e:qf_ typ [] (EA (rows.filter (Aq S))).right.users=Pp (tO.ofL (rows.filter (Aq S))) typ:=yw _ _;have c:KR (EA (rows.filter (Aq S))).right.users:=cB (fun t:AC=>t.sub_.type_) (fun t=>t.sub_.id_) ((tO.ofL (rows.filter (Aq S))).filter GX) [] (by intro p d;cases d);unfold TO Eb;rw[lD c typ (by rw[e];omega),e]
include h hW hB hn hr hok in
theorem lK (c:Ay (⟨typ,rel⟩:AA) S.rels=true)(e:s.rel={ data:= #[] })(hm:1<=m)(d:m<=1000):IW n ts rows typ rel s ⟨a,(m:Int)⟩=some (((FB S rows typ).filter (G2 (fun x=>ER n S rows ⟨typ,x⟩ rel s) a)).take m,decide (m<((FB S rows typ).filter (G2 (fun x=>ER n S rows ⟨typ,x⟩ rel s) a)).length),0):=by
 have hl:=lI (S:=S) (rows:=rows) (typ:=typ);have f:=fun l (hl:l.length<1000000)=>VU (n:=n) (m:=m) (G:=gr S rows) (a:=a) (b:=fun x=>ER n S rows ⟨typ,x⟩ rel s) (l:=l) d hl (by omega) (typ:=typ) (rel:=rel) (s:=s) fun x _=>cC hW hB hn hr s c;unfold IW VX;rw[lH h hW hB hn hr hok c hm d];show VR n ts rows typ rel s ⟨a,(m:Int)⟩=_;unfold VR
 rw[lG h hW hB hn hr hok c hm d,Zo];dsimp only;rw[if_neg (by decide),Zo,if_neg (by decide),Zo,if_neg (by decide),DH,decide_eq_true e,if_pos rfl];show(TN n (EA (rows.filter (Aq S))) typ).bind _=_;rw[wK hr,Zo];by_cases g:(FB S rows typ).length=0
 ·simp_all
 rw[decide_eq_false g,if_neg (by decide)];show(Qt n (FB S rows typ) ⟨a,(m:Int)⟩ (gr S rows) typ rel s).bind _=_;rw[f _ (by omega)];rfl
include h hW hB hn hr hok in
theorem lL (c:Ay (⟨o.type_,rel⟩:AA) S.rels=true)(hm:1<=m)(d:m<=1000):Jx n ts rows o rel typ ⟨a,(m:Int)⟩=some (((Eb S rows typ).filter (G2 (fun x=>ER n S rows o rel ⟨typ,x,ByteArray.empty⟩) a)).take m,decide (m<((Eb S rows typ).filter (G2 (fun x=>ER n S rows o rel ⟨typ,x,ByteArray.empty⟩) a)).length),0):=by
 have hl:=lJ (S:=S) (rows:=rows) (typ:=typ);have f:=fun l (hl:l.length<1000000)=>VV (n:=n) (m:=m) (G:=gr S rows) (a:=a) (b:=fun x=>ER n S rows o rel ⟨typ,x,ByteArray.empty⟩) (l:=l) d hl (by omega) (o:=o) (rel:=rel) (typ:=typ) fun x _=>cC hW hB hn hr _ c;unfold Jx VY;rw[lH h hW hB hn hr hok c hm d]
 show VS n ts rows o rel typ ⟨a,(m:Int)⟩=_;unfold VS;rw[lG h hW hB hn hr hok c hm d,Zo];dsimp only;rw[if_neg (by decide)];show((TO n (EA (rows.filter (Aq S))) typ).bind _).bind _=_;rw[wL hr,Zo];have e:(if decide ((Eb S rows typ).length=0)=true then some [] else Cy (decide ((Eb S rows typ).length<=4294967296))<|some (Eb S rows typ))=some (Eb S rows typ):=oL _ (by omega);rw[e,Zo];show(TB n (Eb S rows typ) ⟨a,(m:Int)⟩ (gr S rows) o rel typ).bind _=_;rw[f _ (by omega)];rfl
end
theorem wM {rows:List AC}{e:Int}(h:JQ n ts rows o.type_ rel ⟨a,(m:Int)⟩=some ((),e))(c:(e != 0)=true)(d:s.rel={ data:= #[] }):IW n ts rows o.type_ rel s ⟨a,(m:Int)⟩=some ([],false,e)/\Jx n ts rows o rel typ ⟨a,(m:Int)⟩=some ([],false,e):=by
 constructor
 ·unfold IW VX;grind
 unfold Jx VY;grind
theorem wN {rows:List AC}{e:Int}(c:HO n ts=some (.inr e))(hm:1<=m)(d:m<=1000):JQ n ts rows typ rel ⟨a,(m:Int)⟩=some ((),e):=by
 unfold JQ;rw[YT hm d];dsimp only;rw[c];dsimp only;rw[if_pos (li c)]
theorem lM {a:List ByteArray}(hn:a.length<n)(c:a.length<4611686018427387904):PK n a a=some true:=by
 unfold PK;have e:((a.length:Int) != (a.length:Int))=false:=by simp
 have h:YU n a a n 0=_:=mf (L:=YU n a a) (E:=fun x y=>x.toList==y.toList) DH (fun _ _=>rfl) rfl c n 0 (by omega) (by omega);rw[e,if_neg (by decide),h,if_pos rfl];rfl
section
variable {L:List ByteArray}{b:ByteArray->Bool}(hR:tx.Rises L)
theorem wO:L.filter (G2 b { data:= #[] })=L.filter b:=by
 congr 1
end
abbrev nW:Nat:=3000000000
def TC:List AG:=[⟨{ data:= #[117] },[]⟩,⟨{ data:= #[100] },[⟨{ data:= #[111] },[⟨{ data:= #[117] },ByteArray.empty,ByteArray.empty⟩],[]⟩]⟩]
def KS:List AC:=[⟨⟨{ data:= #[100] },{ data:= #[97] }⟩,{ data:= #[111] },⟨{ data:= #[117] },{ data:= #[120] },ByteArray.empty⟩⟩,⟨⟨{ data:= #[100] },{ data:= #[98] }⟩,{ data:= #[111] },⟨{ data:= #[117] },{ data:= #[120] },ByteArray.empty⟩⟩,⟨⟨{ data:= #[100] },{ data:= #[99] }⟩,{ data:= #[111] },⟨{ data:= #[117] },{ data:= #[120] },ByteArray.empty⟩⟩]
theorem lN:MS nW ({ data:= #[116,121,112,101,32,117,32,116,121,112,101,32,100,32,123,32,111,58,32,117,59,32,125] })=some TC:=by kernel_rfl
theorem Qx:cF nW nW ([],0)=some KS:=by kernel_rfl
theorem lO:∀t∈KS,JZ nW t=some true:=by
 intro t c;simp only[KS,Lv,Bh,or_false] at c;rcases c with rfl |rfl |rfl<;>kernel_rfl
def VW:AD:=⟨[({ data:= #[117] },1),({ data:= #[100] },1)],[(⟨{ data:= #[100] },{ data:= #[111] }⟩,⟨{ data:= #[111] },[⟨{ data:= #[117] },ByteArray.empty,ByteArray.empty⟩],[]⟩)],[]⟩
theorem cD:HO nW TC=some (.inl VW):=by kernel_rfl
theorem wP:TD nW=some true:=by
 have hB:Ed TC:=by
  have⟨l,c,g⟩:=nG ({ data:= #[116,121,112,101,32,117,32,116,121,112,101,32,100,32,123,32,111,58,32,117,59,32,125] }) nW (by decide);rw[lN] at c;cases c;exact g
 have⟨r,d,i⟩:=qQ hB (n:=nW) (by decide);rw[cD] at d;cases d;have hW:=i _ rfl;have e:IW nW TC KS { data:= #[100] } { data:= #[111] } (⟨{ data:= #[117] },{ data:= #[120] },ByteArray.empty⟩:AL) (⟨{ data:= #[97] },1⟩:CA)=_:=lK cD hW hB (by decide) (by decide) lO (typ:={ data:= #[100] }) (rel:={ data:= #[111] }) (a:={ data:= #[97] }) (m:=1) (by kernel_rfl) rfl (by decide) (by decide);have f:Jx nW TC KS (⟨{ data:= #[100] },{ data:= #[97] }⟩:Ae) { data:= #[111] } { data:= #[117] } (⟨ByteArray.empty,9⟩:CA)=_:=lL cD hW hB (by decide) (by decide) lO (o:=⟨{ data:= #[100] },{ data:= #[97] }⟩) (rel:={ data:= #[111] }) (typ:={ data:= #[117] }) (a:=ByteArray.empty) (m:=9) (by kernel_rfl) (by decide) (by decide);have j:IW nW TC KS { data:= #[100] } { data:= #[111] } (⟨ByteArray.empty,ByteArray.empty,ByteArray.empty⟩:AL) (⟨ByteArray.empty,0⟩:CA)=some ([],false,1):=by kernel_rfl
 have k:((FB VW KS { data:= #[100] }).filter (G2 (fun x=>ER nW VW KS ⟨{ data:= #[100] },x⟩ { data:= #[111] } ⟨{ data:= #[117] },{ data:= #[120] },ByteArray.empty⟩) { data:= #[97] }))= [{ data:= #[98] },{ data:= #[99] }]:=by kernel_rfl
 have p:((Eb VW KS { data:= #[117] }).filter (G2 (fun x=>ER nW VW KS ⟨{ data:= #[100] },{ data:= #[97] }⟩ { data:= #[111] } ⟨{ data:= #[117] },x,ByteArray.empty⟩) ByteArray.empty))= [{ data:= #[120] }]:=by kernel_rfl
 rw[k] at e;rw[p] at f;unfold TD;rw[lN,Zo,Qx,Zo,e,Zo,f,Zo,j,Zo];have q:PK nW [{ data:= #[98] }] [{ data:= #[98] }]=some true:=lM (by decide) (by decide);have u:PK nW [{ data:= #[120] }] [{ data:= #[120] }]=some true:=lM (by decide) (by decide);simp only[BY,Ou,List.take_nil];rw[q,Zo,if_pos rfl,if_pos (by decide),if_pos (by decide),u,Zo,if_pos rfl,if_neg (by decide)];rfl
theorem bS {α c:Type}{f:α->c}{l:List α}:(l.map f).Nodup↔∀(y:Nat) (d:y<l.length) (z:Nat) (e:z<y),f (l[z]'(by omega))≠f l[y]:=by
 grind [List.pairwise_iff_getElem]
section
variable {n:Nat}{l:List AG}(hB:l.length<=201)(hR:∀t∈l,t.rels.length<=200)
include hB in
theorem M3 {i:Nat}(p:i<l.length):∀(d k c:Nat),d=i-k->k<=i->d<c->∃b:Bool,xL_ n l (i:Int) c (k:Int)=some (if b then .inr true else .inl ())/\(b=true↔∃j,∃f:j<i,k<=j/\(l[j]'(by omega)).name=l[i].name)
 |0,k,c,u,v,w=>by
  obtain⟨c,rfl⟩:=sx c;refine⟨false,?_,by simp;intro j q r;omega⟩;unfold xL_;rw[Cw,if_neg (by decide)];rfl
 |d+1,k,c,u,v,w=>by
  obtain⟨c,rfl⟩:=sx c;have⟨b,q,r⟩:=M3 p d (k+1) c (by omega) (by omega) (by omega);have y:k<l.length:=by omega
  unfold xL_;rw[Dx,if_pos rfl,CB y,Zo,CB p,Zo,DH,Ar,q];by_cases e:l[k].name=l[i].name
  ·exact⟨true,by rw[decide_eq_true e];rfl,by grind⟩
  refine⟨b,by rw[decide_eq_false e];rfl,r.trans ⟨fun⟨j,f,z,g⟩=>⟨j,f,by omega,g⟩,fun⟨j,f,z,g⟩=>⟨j,f,?_,g⟩⟩⟩;grind
include hR in
theorem M4 {i k:Nat}(g:i<l.length)(q:k<l[i].rels.length):∀(d j c:Nat),d=k-j->j<=k->d<c->∃b:Bool,TT n l (i:Int) (k:Int) c (j:Int)=some (if b then .inr true else .inl ())/\(b=true↔∃z,∃f:z<k,j<=z/\(l[i].rels[z]'(by omega)).name=l[i].rels[k].name)
 |0,j,c,v,w,y=>by
  obtain⟨c,rfl⟩:=sx c;refine⟨false,?_,by simp;intro z r u;omega⟩;unfold TT;rw[Cw,if_neg (by decide)];rfl
 |d+1,j,c,v,w,y=>by
  obtain⟨c,rfl⟩:=sx c
  have:=hR _ (LN g);have⟨b,r,u⟩:=M4 g q d (j+1) c (by omega) (by omega) (by omega);have A:j<l[i].rels.length:=by omega
  unfold TT;rw[Dx,if_pos rfl,CB g,Zo,CB A,Zo,CB q,Zo,DH,Ar,r];by_cases e:l[i].rels[j].name=l[i].rels[k].name
  ·exact⟨true,by rw[decide_eq_true e];rfl,by grind⟩
  refine⟨b,by rw[decide_eq_false e];rfl,u.trans ⟨fun⟨z,f,B,p⟩=>⟨z,f,by omega,p⟩,fun⟨z,f,B,p⟩=>⟨z,f,?_,p⟩⟩⟩;grind
include hR in
theorem M5 (hn:1000<n){i:Nat}(e:i<l.length):∀(d k c:Nat),d=l[i].rels.length-k->k<=l[i].rels.length->d<c->∃b:Bool,xN_ n l (i:Int) c (k:Int)=some (if b then .inr true else .inl ())/\(b=true↔∃y,∃C:y<l[i].rels.length,k<=y/\∃z,∃p:z<y,(l[i].rels[z]'(by omega)).name=l[i].rels[y].name)
 |0,k,c,r,u,v=>by
  obtain⟨c,rfl⟩:=sx c;refine⟨false,?_,by simp;intro y g w;omega⟩;unfold xN_;rw[CB e,Zo,Cw,if_neg (by decide)];rfl
 |d+1,k,c,r,u,v=>by
  obtain⟨c,rfl⟩:=sx c
  have:=hR _ (LN e);have j:k<l[i].rels.length:=by omega
  have⟨b,g,w⟩:=M5 hn e d (k+1) c (by omega) (by omega) (by omega);have⟨A,f,B⟩:=M4 (n:=n) hR e j k 0 n (by omega) (Lf _) (by omega);have f:TT n l (i:Int) (k:Int) n 0=_:=f;unfold xN_;rw[CB e,Zo,Dx j,if_pos rfl,f,Zo,Ar,g];cases A with
  |true=>
   have⟨z,p,_,q⟩:=B.1 rfl;exact⟨true,rfl,by grind⟩
  |false=>
   grind
include hB hR in
theorem M6 (hn:1000<n):∀(d i c:Nat),d=l.length-i->i<=l.length->d<c->∃b:Bool,TU n l c (i:Int)=some (if b then .inr true else .inl ())/\(b=true↔∃x,∃M:x<l.length,i<=x/\((∃j,∃k:j<x,(l[j]'(by omega)).name=l[x].name)\/∃y,∃e:y<l[x].rels.length,∃z,∃w:z<y,(l[x].rels[z]'(by omega)).name=l[x].rels[y].name))
 |0,i,c,A,B,C=>by
  obtain⟨c,rfl⟩:=sx c;refine⟨false,?_,by simp;intro y u v;omega⟩;unfold TU;rw[Cw,if_neg (by decide)];rfl
 |d+1,i,c,A,B,C=>by
  obtain⟨c,rfl⟩:=sx c;have f:i<l.length:=by omega
  have:=hR _ (LN f);have⟨b,u,v⟩:=M6 hn d (i+1) c (by omega) (by omega) (by omega);have⟨E,p,F⟩:=M3 (n:=n) hB f i 0 n (by omega) (Lf _) (by omega);have⟨H,r,I⟩:=M5 hR hn f _ 0 n rfl (Lf _) (by omega);have p:xL_ n l (i:Int) n 0=_:=p;have r:xN_ n l (i:Int) n 0=_:=r;unfold TU;rw[Dx f,if_pos rfl,p,Zo,r,Ar,u];cases E with
  |true=>
   have⟨j,k,_,q⟩:=F.1 rfl;exact⟨true,rfl,by simp only[true_iff];exact⟨i,f,Lc _,.inl ⟨j,k,q⟩⟩⟩
  |false=>
   cases H with
   |true=>
    have⟨y,e,_,q⟩:=I.1 rfl;exact⟨true,rfl,by simp only[true_iff];exact⟨i,f,Lc _,.inr ⟨y,e,q⟩⟩⟩
   |false=>
    refine⟨b,rfl,v.trans ⟨fun⟨y,e,J,g⟩=>⟨y,e,by omega,g⟩,fun⟨y,e,J,g⟩=>⟨y,e,?_,g⟩⟩⟩;rcases Nt i y with h |h
    ·exact h
    have:y=i:=(by omega);subst this;rcases g with⟨j,k,q⟩ |⟨z,w,q⟩
    ·grind
    grind
def Qh (l:List AG):Prop:=(l.map (·.name)).Nodup/\∀t∈l,(t.rels.map (·.name)).Nodup
include hB hR in
theorem vM (hn:1000<n):∃b,V6 n l=some b/\(b=false↔Qh l):=by
 have⟨b,c,d⟩:=M6 hB hR hn _ 0 n rfl (Lf _) (by omega);have c:TU n l n 0=_:=c;refine⟨b,?_,?_⟩
 ·unfold V6;rw[c];cases b<;>rfl
 have e:b=false↔¬b=true:=by simp
 rw[e,d];unfold Qh;rw[bS (f:=fun(t:AG)=>t.name) (l:=l)];constructor
 ·intro h;refine⟨fun y i z j q=>h ⟨y,i,Lf _,.inl ⟨z,j,q⟩⟩,fun t k=> ?_⟩;obtain⟨x,p,rfl⟩:=Bs.1 k;rw[bS (f:=fun(g:AZ)=>g.name)];grind
 grind [bS,List.getElem_mem]
theorem vN {k:Nat}(h:Qh l):Qh (l.take k):=⟨by rw[NZ];exact h.1.sublist (List.take_sublist _ _),fun t c=>h.2 t (O5 c)⟩
include hB hR in
theorem js (hn:1000<n):∀(d i c:Nat),d=l.length-i->i<=l.length->d<c->(Qh l->xh_ n l c (i:Int)=some (.inl ()))/\(¬Qh l->i<l.length->xh_ n l c (i:Int)=some (.inr 11))
 |0,i,c,e,f,g=>by
  obtain⟨c,rfl⟩:=sx c;refine⟨fun _=> ?_,fun _ h=>by omega⟩;unfold xh_;rw[Cw,if_neg (by decide)]
 |d+1,i,c,e,f,g=>by
  obtain⟨c,rfl⟩:=sx c;have j:i<l.length:=by omega
  have⟨v,w⟩:=js hn d (i+1) c (by omega) (by omega) (by omega);have y:(l.take (i+1)).length<=l.length:=by rw[Lx];omega
  have⟨b,k,p⟩:=vM (n:=n) (l:=l.take (i+1)) (by omega) (fun t q=>hR t (O5 q)) hn;have r:Fd l 0 (IntKind.i64.wrap ((i:Int)+1))=some (l.take (i+1)):=by
   rw[Ar]
   have:=IZ (xs:=l) (a:=0) (b:=i+1) (Lf _) (by omega);rw[LD] at this;exact this
  unfold xh_;rw[Dx j,if_pos rfl,r,Zo,k,Zo,Ar];cases b with
  |false=>
   grind
  |true=>
   rw[if_pos rfl];exact⟨fun u=>absurd (p.2 (vN u)) (by decide),fun _ _=>rfl⟩
end
def Qi (ts:List AG)(a:ByteArray):Bool:=(ts.find? fun t=>decide (t.name=a)).isSome
theorem vO (hB:Ed ts)(hn:1000<n)(a rel:ByteArray):∃k j,PP n ts a rel=some (k,j)/\(decide (k<0)= !Qi ts a):=by
 unfold PP Qi;rcases cT (n:=n) (a:=a) (rel:=rel) hB hn _ 0 n rfl (Lf _) (by have:=hB.1;omega) with⟨q1,q2⟩ |⟨k,hk,q2,q3⟩
 ·simp_all
 grind
def FA (ts:List AG)(a rel:ByteArray):Bool:=(CH ts a rel).isSome
def Ea {α:Type}(f:α->Int):List α->Int
 |[]=>0
 |x::l=>if f x != 0 then f x else Ea f l
theorem YH {α:Type}(f:α->Int)(x:α)(l:List α):Ea f (x::l)=if f x != 0 then f x else Ea f l:=rfl
def Qj (ts:List AG)(s:AL):Int:=if Qi ts s.type_&&(decide (s.rel={ data:= #[] })||FA ts s.type_ s.rel) then 0 else 12
def Ju (ts:List AG)(b:ByteArray)(s:AL):Int:=if FA ts s.type_ b&&decide (s.rel={ data:= #[] }) then 0 else 13
def IU (ts:List AG)(a:ByteArray)(x:AX):Int:=if FA ts a x.a then(if ((CH ts a x.a).getD Ca).expr= [] then Ea (Ju ts x.b) ((CH ts a x.a).getD Ca).subs else 13) else 12
def S5 (ts:List AG)(a:ByteArray)(x:AX):Int:=if x.kind==1 then(if FA ts a x.a then 0 else 12) else if x.kind==2 then IU ts a x else 0
def ME (ts:List AG)(a:ByteArray)(g:AZ):Int:=if Ea (Qj ts) g.subs != 0 then Ea (Qj ts) g.subs else Ea (S5 ts a) g.expr
theorem YI (hB:Ed ts)(a rel:ByteArray):FC ((CH ts a rel).getD Ca):=by
 cases h:CH ts a rel with
 |none=>exact⟨Lf _,Lf _,.inl rfl,(by intro _ h;cases h),Yn⟩
 |some g=>
  unfold CH at h;have⟨y,c,d⟩:=Oa.1 h;exact(hB.2 y (NL c)).2 g (NL d)
section
variable {n:Nat}{ts:List AG}(hB:Ed ts)(hn:1000<n)
include hB hn in
theorem M7 {s:AX}{q:AZ × Bool}(g:q.1.subs.length<=51):∀(d i c:Nat),d=q.1.subs.length-i->i<=q.1.subs.length->d<c->V7 n ts s q c (i:Int)=some (if Ea (Ju ts s.b) (q.1.subs.drop i) != 0 then .inr (Ea (Ju ts s.b) (q.1.subs.drop i)) else .inl ())
 |0,i,c,j,k,p=>by
  obtain⟨c,rfl⟩:=sx c;unfold V7;rw[Cw,if_neg (by decide),LH (by omega)];rfl
 |d+1,i,c,j,k,p=>by
  obtain⟨c,rfl⟩:=sx c;have f:i<q.1.subs.length:=by omega
  have r:=M7 (s:=s) g d (i+1) c (by omega) (by omega) (by omega);unfold V7;rw[Dx f,if_pos rfl,CB f,Zo,KU hB hn,Zo,DH,Ar,r,Lj f];rw[YH];have e:Ju ts s.b q.1.subs[i]=if FA ts q.1.subs[i].type_ s.b&&decide (q.1.subs[i].rel={ data:= #[] }) then 0 else 13:=rfl
  grind [FA,decide]
include hB hn in
theorem vP (a:ByteArray)(x:AX):TV n ts a x=some (IU ts a x):=by
 have c:=YI hB a x.a;unfold TV IU FA;rw[KU hB hn,Zo];dsimp only;cases(CH ts a x.a).isSome with
 |false=>rfl
 |true=>
  rw[if_pos rfl,if_pos rfl];by_cases d:((CH ts a x.a).getD Ca).expr= []
  ·have e:=M7 (s:=x) (q:=((CH ts a x.a).getD Ca,true)) hB hn c.1 _ 0 n rfl (Lf _) (by have:=c.1;dsimp only;omega);grind
  simp_all
include hB hn in
theorem jt {g:AZ}:∀l:List AL,DP (V8 n ts g) (Yt n ts g) l ()=some (if Ea (Qj ts) l != 0 then .inr (Ea (Qj ts) l) else .inl ())
 |[]=>rfl
 |x::l=>by
  have c:=jt (g:=g) l;rw[DP];generalize DP (V8 n ts g) (Yt n ts g) l=K at c⊢;have⟨k,j,d,f⟩:=vO hB hn x.type_ { data:= #[] };unfold V8;dsimp only;rw[d,Zo,KU hB hn,DH,f];rw[YH];have e:Qj ts x=if Qi ts x.type_&&(decide (x.rel={ data:= #[] })||FA ts x.type_ x.rel) then 0 else 12:=rfl
  grind [FA,Qi,decide,CH]
include hB hn in
theorem ju {a:ByteArray}{g:AZ}:∀l:List AX,DP (V9 n ts a g) (Yu n ts a g) l ()=some (if Ea (S5 ts a) l != 0 then .inr (Ea (S5 ts a) l) else .inl ())
 |[]=>rfl
 |x::l=>by
  have c:=ju (a:=a) (g:=g) l;rw[DP];generalize DP (V9 n ts a g) (Yu n ts a g) l=K at c⊢;unfold V9;dsimp only;rw[KU hB hn,vP hB hn];rw[YH];have e:S5 ts a x=if x.kind==1 then(if FA ts a x.a then 0 else 12) else if x.kind==2 then IU ts a x else 0:=rfl
  grind [FA,CH,IU]
include hB hn in
theorem vQ {g:AZ}(c:FC g):WA n ts a g=some (ME ts a g):=by
 have f:=c.1;have i:=c.2.1;have d:xP_ n ts g n 0=_:=xk n ts g (by omega) n () 0 (Lf _) (by omega);have e:xg_ n ts a g n 0=_:=xl n ts a g (by omega) n () 0 (Lf _) (by omega);rw[LD,jt hB hn] at d;rw[LD,ju hB hn] at e;unfold WA ME;grind
end
inductive Fu
 |leaf (x:AX)
 |op (x:AX) (a b:Fu)
def post:Fu->List AX
 | .leaf x=>[x]
 | .op x a b=>post a++post b++[x]
def Gi:Fu->Prop
 | .leaf x=>x.kind=1\/x.kind=2
 | .op x a b=>(x.kind=3\/x.kind=4\/x.kind=5)/\Gi a/\Gi b
theorem nS {c:Int}(d:(c==0)=false):((xe_ x c).e==0)=false:=by
 unfold xe_;grind
theorem Yq {t:ByteArray}(h:((EE x t).e==0)=true):(x.e==0)=true:=by
 unfold EE at h;split at h
 ·assumption
 exact h
theorem V5 {r:Au × ByteArray}(h:vJ_ n x=some r)(c:(r.1.e==0)=true):(x.e==0)=true:=by
 cases d:x.e==0 with
 |true=>rfl
 |false=>
  unfold vJ_ at h;grind
theorem Yr {s:AX}{a:Int}(h:((EF x s a).e==0)=true):(x.e==0)=true/\(EF x s a).out=x.out++[s]:=by
 unfold EF at h⊢;grind
def TR (g:Au->Option Au):Prop:=∀x y,g x=some y->(y.e==0)=true->(x.e==0)=true/\∃t,Gi t/\y.out=x.out++post t
theorem Pf {ex:Au->Option Au}(k:TR ex):TR (FV n ex):=by
 intro x y h d;unfold FV at h;split at h;rotate_left
 ·cases h
 split at h
 ·split at h
  ·cases h;rw[nS rfl] at d;cases d
  have⟨z,e,h⟩:=AP h;split at h
  ·cases h;have⟨a,t,b,c⟩:=k _ _ e (Yq d);exact⟨a,t,b,by show(EE z MP).out=_;rw[nB];exact c⟩
  cases h
 have⟨r,e,h⟩:=AP h;have i:=Yo e;split at h
 ·have⟨s,j,h⟩:=AP h;have q:=Yo j;cases h;have⟨f,g⟩:=Yr d;exact⟨V5 e (show(r.1.e==0)=true from V5 (x:={ r.1 with p:=r.1.p+1 }) j f),.leaf ⟨2,r.2,s.2⟩,.inr rfl,by rw[g,q];show r.1.out++_=_;rw[i];rfl⟩
 cases h;have⟨f,g⟩:=Yr d;exact⟨V5 e f,.leaf ⟨1,r.2,{ data:= #[] }⟩,.inl rfl,by rw[g,i];rfl⟩
theorem nT {n:Nat}{ex:Au->Option Au}(e:TR ex):∀(c:Nat) (x y:Au),JT n ex c x=some y->(y.e==0)=true->(x.e==0)=true/\∀(B:List AX) (t:Fu),Gi t->x.out=B++post t->∃f,Gi f/\y.out=B++post f
 |0,_,_,h,_=>by cases h
 |c+1,x,y,h,g=>by
  unfold JT at h;split at h
  ·split at h
   ·have⟨z,i,h⟩:=AP h;split at h
    ·have⟨j,k⟩:=nT e c _ _ h g;have⟨p,q⟩:=Yr j;have⟨r,d,u,v⟩:=Pf e _ _ i p;exact⟨r,fun B t w A=>k B (.op ⟨5,ByteArray.empty,ByteArray.empty⟩ t d) ⟨.inr (.inr rfl),w,u⟩ (by rw[q,v];show x.out++post d++_=B++(post t++post d++_);rw[A];simp)⟩
    cases h
   grind
  cases h
theorem nU {e:Au->Option Au}(f:TR e):∀(c:Nat) (x y:Au),JU e c x=some y->(y.e==0)=true->(x.e==0)=true/\∀(B:List AX) (t:Fu),Gi t->x.out=B++post t->∃g,Gi g/\y.out=B++post g
 |0,_,_,h,_=>by cases h
 |c+1,x,y,h,i=>by
  unfold JU at h;split at h
  ·split at h
   ·have⟨z,j,h⟩:=AP h;split at h
    ·have⟨k,p⟩:=nU f c _ _ h i;have⟨q,r⟩:=Yr k;have⟨u,d,v,w⟩:=f _ _ j q;exact⟨u,fun B t A C=>p B (.op ⟨if isM x HE then 4 else 3,ByteArray.empty,ByteArray.empty⟩ t d) ⟨by dsimp only;split<;>simp,A,v⟩ (by rw[r,w];show x.out++post d++_=B++(post t++post d++_);rw[C];simp)⟩
    cases h
   grind
  cases h
theorem dB {n c:Nat}:∀f,TR (Gg n c f)
 |0,_,_,h,_=>by cases h
 |f+1,x,y,h,q=>by
  have p:TR (Hg n (Gg n c f) c):=fun a b e r=>by
   unfold Hg at e;have⟨z,u,e⟩:=AP e;have⟨d,g⟩:=nT (dB f) c _ _ e r;have⟨i,t,j,k⟩:=Pf (dB f) _ _ u d;exact⟨i,g a.out t j k⟩
  unfold Gg at h;have⟨z,v,h⟩:=AP h;have⟨d,g⟩:=nU p c _ _ h q;have⟨i,t,j,k⟩:=p _ _ v d;exact⟨i,g x.out t j k⟩
def GA (g:AZ):Prop:=(g.expr= []/\g.subs≠[])\/(g.subs= []/\∃t,Gi t/\g.expr=post t)
theorem nV {n:Nat}:∀(c:Nat) {x:Au} {d:List AL} {y:Au × List AL},I6 n c x d=some y->(y.1.e==0)=true->(x.e==0)=true/\y.2≠[]
 |0,_,_,_,h,_=>by cases h
 |c+1,x,d,y,h,e=>by
  unfold I6 at h;split at h
  ·split at h
   ·rename_i f;have⟨g,_,h⟩:=AP h;have⟨i,_,h⟩:=AP h;refine⟨f,?_⟩;split at h
    ·exact(nV c h e).2
    cases h;simp
   grind
  cases h
theorem nY {c f:Nat}{y:Au × AZ}(h:FW n c f x=some y)(g:(y.1.e==0)=true):(x.e==0)=true/\GA y.2:=by
 unfold FW at h;split at h
 ·have⟨r,i,h⟩:=AP h;split at h
  ·have⟨z,e,h⟩:=AP h;split at h
   ·cases h;have⟨a,t,b,d⟩:=dB f _ _ e (Yq g);exact⟨V5 i a,.inr ⟨rfl,t,b,d⟩⟩
   cases h
  obtain⟨p,e,rfl⟩:=La.1 h;have⟨a,b⟩:=nV c e g;exact⟨V5 i (Yq a),.inl ⟨rfl,b⟩⟩
 cases h
theorem dC {n c f:Nat}:∀(k:Nat) {x:Au} {d:List AZ} {y:Au × List AZ},(∀g∈d,GA g)->JV n c f k x d=some y->(y.1.e==0)=true->(x.e==0)=true/\∀g∈y.2,GA g
 |0,_,_,_,_,h,_=>by cases h
 |k+1,x,d,y,hr,h,e=>by
  unfold JV at h;split at h;rotate_left
  ·cases h
  split at h
  ·split at h
   ·have⟨a,_⟩:=dC k hr h e;rw[nS rfl] at a;cases a
   have⟨p,j,h⟩:=AP h;have i:(p.1.e==0)=true/\∀g∈y.2,GA g:=by
    cases q:p.1.e==0 with
    |true=>
     refine⟨rfl,(dC k (fun g r=> ?_) h e).2⟩;grind [List.mem_singleton,nY]
    |false=>
     exfalso;cases k with
     |zero=>cases h
     |succ k=>
      unfold JV at h;grind
   exact⟨(nY j i.1).1,i.2⟩
  cases h;exact⟨e,hr⟩
theorem xe {c f:Nat}{y:Au × AG}(h:Pd n c f x=some y)(e:(y.1.e==0)=true):∀g∈y.2.rels,GA g:=by
 unfold Pd at h;have⟨r,j,h⟩:=AP h;have⟨q,d,h⟩:=AP h;cases h;split at d
 ·obtain⟨p,i,rfl⟩:=La.1 d;exact(dC c (by intro _ h;cases h) i (Yq e)).2
 cases d;intro _ h;cases h
theorem nZ {n c f:Nat}:∀(k:Nat) {x:Au} {ts:List AG} {y:Au × List AG},(∀t∈ts,∀g∈t.rels,GA g)->J0 n c f k x ts=some y->(y.1.e==0)=true->∀t∈y.2,∀g∈t.rels,GA g
 |0,_,_,_,_,h,_=>by cases h
 |k+1,x,ts,y,hr,h,d=>by
  unfold J0 at h;split at h
  ·split at h
   ·have⟨r,e,h⟩:=AP h;cases i:r.1.e==0 with
    |true=>
     refine nZ k (fun t j=> ?_) h d;grind [List.mem_singleton,xe]
    |false=>
     exfalso;cases k with
     |zero=>cases h
     |succ k=>
      unfold J0 at h;grind
   cases h;exact hr
  cases h
def Ys (l:List AG):Prop:=∀t∈l,∀g∈t.rels,GA g
theorem xg {s:ByteArray}{l:List AG}(h:MS n s=some l):Ys l:=by
 unfold MS at h;obtain⟨y,c,rfl⟩:=La.1 h;unfold Pe at c;have⟨t,_,c⟩:=AP c;split at c
 ·have⟨r,d,c⟩:=AP c;split at c
  ·rename_i e;cases c;exact nZ n (by intro _ h;cases h) d e
  cases c;intro _ h;cases h
 cases c;intro _ h;cases h
end Go.Proofs.YtnmkbmefohakmaaGreat.Ab
