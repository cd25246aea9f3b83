/-
 A row that is made of so many zeros.
-/
import Derived.Test.YtnmkbmefohakmaaGreatGoa
set_option linter.all false
namespace Go.Proofs.YtnmkbmefohakmaaGreat.Ab
open Go.RowKit IntKind
def Et (S:AD)(t:AC):Prop:=(⟨t.sub_.type_,ByteArray.empty,t.sub_.rel⟩:AL)∈(qf_ (⟨t.obj.type_,t.rel⟩:AA) Ca S.rels).subs
variable {l:List AG}{n:Nat}{o:Ae}{p:CA}{r:List ByteArray × Bool × Int}{rel typ:ByteArray}{rows_:List AC}{s:AL}
section
variable {ts:List AG}{S:AD}(hW:Dh ts S)(hB:Ed ts)
include hW hB in
theorem Ha:GY S:=fun p hp=>by
 rw[hW.rels] at hp;obtain⟨t,a,g,b,rfl⟩:=fh.1 hp;exact(hB.2 t a).2 g b
include hW in
theorem cK {m:AA}(h:Ay m S.rels=true):∃t∈ts,∃g∈t.rels,m=⟨t.name,g.name⟩/\qf_ m Ca S.rels=g:=by
 have a:=Kr.1 h;rw[hW.rels,Mi] at a;obtain⟨t,b,g,c,rfl⟩:=fg.1 a;refine⟨t,b,g,c,rfl,?_⟩;unfold qf_;rw[Zb hW.rels hW.keys b c];rfl
theorem Vb {b:ByteArray}(h:(b.toList==({ data:= #[] }:ByteArray).toList)=true):b={ data:= #[] }:=by
 rw[DH] at h;exact of_decide_eq_true h
include hW in
theorem lY {l:List AC}(q:∀t∈l,Et S t){r d:AB}(y:Ay (⟨r.obj.type_,r.rel⟩:AA) S.rels=true)(a:d∈Dn S l r):Ay (⟨d.obj.type_,d.rel⟩:AA) S.rels=true/\(d.obj=r.obj\/∃t∈l,d.obj=⟨t.sub_.type_,t.sub_.id_⟩):=by
 have⟨t,z,g,A,B,v⟩:=cK hW y;have⟨C,E⟩:=hW.nms t z g A;have F:r.obj.type_=t.name:=congrArg AA.typ B;unfold Dn at a;split at a
 ·obtain⟨s,f,G,rfl⟩:=lU.1 a;have⟨u,c,j,m,e⟩:=Va.1 f;have b:=q u c;unfold Et at b;rw[j,m,e,v] at b;refine⟨?_,.inr ⟨u,c,by rw[e];rfl⟩⟩;rcases(C _ b).2 with h |h
  ·exact absurd (Vb h) G
  exact h
 rw[v] at a;unfold F8 at a;have⟨x,H,a⟩:=Oh.1 a;have⟨K,I⟩:=E x H;unfold Ez at a;split at a
 ·grind
 split at a
 ·rename_i J;have⟨L,M,w⟩:=I (eq_of_beq J);rw[<-F] at w;unfold Qz at a;obtain⟨s,f,rfl⟩:=LL.1 a;have⟨u,c,j,m,e⟩:=Va.1 f;have b:=q u c;unfold Et at b;rw[j,m,e] at b;exact⟨(w _ b).1,.inr ⟨u,c,by rw[e]⟩⟩
 cases a
def TE (l:List AC)(o:Ae):List Ae:=o::l.map fun t=>⟨t.sub_.type_,t.sub_.id_⟩
def MJ (ts:List AG)(l:List AC)(o:Ae):List AB:=(TE l o).flatMap fun p=>((Dd ts).filter fun q=>q.typ==p.type_).map fun q=>⟨p,q.rel⟩
theorem lc {l:List AC}{r:AB}:r∈MJ ts l o↔r.obj∈TE l o/\(⟨r.obj.type_,r.rel⟩:AA)∈Dd ts:=by
 unfold MJ;rw[Oh];constructor
 ·rintro⟨p,hp,c⟩;obtain⟨q,d,rfl⟩:=LL.1 c;have⟨a,b⟩:=LO.1 d;refine⟨hp,?_⟩
  have:(⟨p.type_,q.rel⟩:AA)=q:=by rw[<-eq_of_beq b]
  exact this▸a
 rintro⟨a,b⟩;exact⟨r.obj,a,LL.2 ⟨⟨r.obj.type_,r.rel⟩,LO.2 ⟨b,beq_self_eq_true _⟩,rfl⟩⟩
theorem cL (a:ByteArray):∀ {l:List AG},(l.map (·.name)).Nodup->(∀t∈l,t.rels.length<=200)->((Dd l).filter fun q=>q.typ==a).length<=200/\(a∉l.map (·.name)->((Dd l).filter fun q=>q.typ==a)= [])
 |[],_,_=>⟨Lf _,fun _=>rfl⟩
 |t::l,b,c=>by
  rw[Lh,Nj] at b;have⟨f,h⟩:=cL a b.2 fun x d=>c x (Lk _ d);have e:Dd (t::l)=t.rels.map (fun g=>⟨t.name,g.name⟩)++Dd l:=by simp[Dd]
  have j:(t.rels.map fun g=>(⟨t.name,g.name⟩:AA)).filter (fun q=>q.typ==a)=if t.name=a then t.rels.map fun g=>⟨t.name,g.name⟩ else[]:=by
   split
   ·simp_all
   simp_all
  grind
theorem cM {α:Type}[DecidableEq α]:∀L:List α,∃U:List α,U.Nodup/\(∀x,x∈U↔x∈L)/\U.length<=L.length
 |[]=>⟨[],NV,fun _=>Iff.rfl,Lc _⟩
 |a::L=>by
  have⟨U,b,c,d⟩:=cM L;by_cases h:a∈U
  ·grind
  exact⟨a::U,Nj.2 ⟨h,b⟩,fun x=>by rw[Lv,Lv,c],by grind⟩
theorem lf (l:List AC)(o:Ae):∀a:List AX,(F8 l o a).length<=a.length*(l.length+1)
 |[]=>Lf _
 |x::a=>by
  have b:=lf l o a;have c:=YX l o x;have d:(Ez l o x).length<=l.length+1:=by
   unfold Ez;split
   ·simp
   split
   ·omega
   simp
  have e:F8 l o (x::a)=Ez l o x++F8 l o a:=rfl;rw[e,Ld,Ll,OG];omega
theorem cO {α b:Type}(f:α->List b)(k:Nat):∀ {l:List α},(∀x∈l,(f x).length<=k)->(l.flatMap f).length<=l.length*k
 |[],_=>Lf _
 |a::l,h=>by
  have d:=h a (Lp ..);have e:=cO f k fun x c=>h x (Lk _ c);rw[List.flatMap_cons,Ld,Ll,OG];omega
theorem YY {α:Type}(f:α->Nat)(k:Nat):∀ {l:List α},(∀x∈l,f x<=k)->(l.map f).sum<=l.length*k
 |[],_=>Lf _
 |a::l,h=>by
  have c:=h a (Lp ..);have d:=YY f k fun x b=>h x (Lk _ b);rw[Lh,BD,Ll,OG];omega
include hW hB in
theorem YZ {l:List AC}(a:l.length<=100)(r:AB):(Dn S l r).length<=20200:=by
 have b:=(Ha hW hB|>fun h=>G6 h ⟨r.obj.type_,r.rel⟩).2.1;unfold Dn;split
 ·grind [KT,G3,List.length_map,Nat.le_trans,List.length_filter_le]
 refine Lq (lf l r.obj _) (Lq (Bg b (Nat.succ_le_succ a)) (by decide))
include hW hB in
theorem wY {l r0:List AC}(q:l.length<=100)(u:2000000000<n)(v:∀t∈l,Et S t)(w:Ay (⟨o.type_,rel⟩:AA) S.rels=true):∃b,Gj n ⟨S,EA l,r0⟩ o rel s=some b:=by
 have h:=Ha hW hB;have⟨U,y,z,A⟩:=cM (MJ ts l o);have B:U.length<=20200:=by
  refine Lq A (Lq (cO _ 200 fun p _=> ?_) ?_)
  ·rw[Lt];exact(cL p.type_ hW.tys fun t e=>(hB.2 t e).1).1
  grind [TE,List.length_cons,List.length_map,Nat.le_trans,Nat.mul_le_mul_right]
 have f:∀r,r∈U↔r.obj∈TE l o/\Ay (⟨r.obj.type_,r.rel⟩:AA) S.rels=true:=fun r=>by
  rw[z,lc,Kr,hW.rels,Mi]
 have C:∀r∈U,∀d∈Dn S l r,d∈U:=fun r c d g=>by
  have⟨E,F⟩:=(f r).1 c;have⟨G,a⟩:=lY hW v F g;refine(f d).2 ⟨?_,G⟩;rcases a with a |⟨t,e,a⟩
  ·rw[a];exact E
  rw[a];exact Lk _ (LG e)
 refine yx (U:=U) (D:=Dn S l) (rk:=fun r=>Cp S.ranks ⟨r.obj.type_,r.rel⟩) y (by omega) ((f _).2 ⟨Lp ..,w⟩) (fun r _=>ua_ (by omega) (by omega) h r) C ?_ u fun K St N M j H I r c=> ?_
 ·unfold total;exact Lq (YY _ 20200 fun r _=>YZ hW hB q r) (Lq (LS _ B) (by decide))
 have⟨x,m⟩:=JY (N:=N) (r:=r) (by rw[j];exact c);have⟨J,L⟩:=JF m;refine wX (by omega) (by omega) h m (by rw[(H x J).1,L]) fun d g=> ?_;rw[WZ,j];exact I r c d g
end
theorem wZ {S:AD}{l r0 r1:List AC}(c:l.length<=10000)(d:1000000<n)(e:GY S)(o:Ae)(rel:ByteArray)(s:AL):Gj n ⟨S,EA l,r0⟩ o rel s=Gj n ⟨S,EA l,r1⟩ o rel s:=by
 have g:JC n ⟨S,EA l,r0⟩=JC n ⟨S,EA l,r1⟩:=funext fun r=>by rw[ua_ c d e,ua_ c d e]
 have m:∀a x,Re n ⟨S,EA l,r0⟩ a x=Re n ⟨S,EA l,r1⟩ a x:=fun a x=>by
  rfl
 have h:∀a N b f,Ht n ⟨S,EA l,r0⟩ a N b f=Ht n ⟨S,EA l,r1⟩ a N b f:=fun a N b=>by
  induction b with
  |nil=>exact fun _=>rfl
  |cons x b q=>
   grind [Ht,Ts]
 have j:FH n ⟨S,EA l,r0⟩ s=FH n ⟨S,EA l,r1⟩ s:=funext fun N=>funext fun r=>by
  unfold FH;simp only[h];rfl
 unfold Gj;rw[g,j]
def Qy (e:Int):D:=.tu [.v (.pointer none),.v (.int .i64 e)]
theorem wQ (h:MI n p=some true):AM Tryz.prog 43 [D.sl (List.map AS l),D.sl (List.map AE rows_),D.v (.string typ),D.v (.string rel),D.ag (Cn p)] (Qy 1) false:=by
 refine zP #[.tmp 10,.tmp 11] Tryz.func43 ?_;refine AQ ?_;refine CT (YS h) ?_;refine Z0 ?_;exact As
theorem wR {e:Int}(h:MI n p=some false)(b:HO n l=some (.inr e))(a:(e != 0)=true):AM Tryz.prog 43 [D.sl (List.map AS l),D.sl (List.map AE rows_),D.v (.string typ),D.v (.string rel),D.ag (Cn p)] (Qy e) false:=by
 have c:(e==0)=false:=by simpa using a
 refine zP #[.tmp 10,.tmp 11] Tryz.func43 ?_;refine AQ ?_;refine CT (YS h) ?_;refine Z0 ?_;refine CT (zA b a) ?_;refine Z1 c ?_;exact As
theorem wS {r:AI × Int}(h:MI n p=some false)(b:Ry n l rows_=some r)(a:(r.2==0)=true)(c:Hv n r.1 typ rel=some false):AM Tryz.prog 43 [D.sl (List.map AS l),D.sl (List.map AE rows_),D.v (.string typ),D.v (.string rel),D.ag (Cn p)] (Qy 12) false:=by
 refine zP #[.tmp 10,.tmp 11] Tryz.func43 ?_;refine AQ ?_;refine CT (YS h) ?_;refine Z0 ?_;refine Tk (pg b) ?_;refine Z1 a ?_;refine CT (ph c) ?_;refine Z1 a ?_;exact As
def JQ (n:Nat)(l:List AG)(rows_:List AC)(typ:ByteArray)(rel:ByteArray)(p:CA):Option (Unit × Int):=
 match MI n p with
 |some true=>some ((),1)
 |some false=>(match HO n l with
  |some (.inr e)=>if e != 0 then some ((),e) else none
  |_=>match Ry n l rows_ with
   |some r=>if r.2==0 then(match Hv n r.1 typ rel with
    |some false=>some ((),12)
    |_=>none) else none
   |none=>none)
 |none=>none
theorem lP {r:Unit × Int}(H:JQ n l rows_ typ rel p=some r):AM Tryz.prog 43 [D.sl (List.map AS l),D.sl (List.map AE rows_),D.v (.string typ),D.v (.string rel),D.ag (Cn p)] (D.tu [.v (.pointer none),D.v (.int .i64 r.2)]) false:=by
 unfold JQ at H;split at H
 ·rename_i h;cases H;exact wQ h
 ·rename_i h;split at H
  ·rename_i e a;split at H
   ·rename_i b;cases H;exact wR h a b
   cases H
  split at H
  ·rename_i q c;split at H
   ·rename_i d;split at H
    ·rename_i f;cases H;exact wS h c d f
    cases H
   cases H
  cases H
 cases H
def VX (n:Nat)(l:List AG)(rows_:List AC)(typ:ByteArray)(rel:ByteArray)(s:AL)(p:CA):Option (List ByteArray × Bool × Int):=(JQ n l rows_ typ rel p).bind fun a=>((if (a.2==12) then some (!(s.rel.toList==({ data:= #[] }:ByteArray).toList)) else some false):Option (Bool)).bind fun c=>((if c then some 13 else some a.2):Option (Int)).bind fun b=>(if (b != 0) then some ([],false,b) else (if (s.rel.toList==({ data:= #[] }:ByteArray).toList) then none else some ([],false,13)))
theorem wT (H:VX n l rows_ typ rel s p=some r):AM Tryz.prog 21 [D.sl (List.map AS l),D.sl (List.map AE rows_),D.v (.string typ),D.v (.string rel),D.ag (AR s),D.ag (Cn p)] (D.tu [D.sl (List.map eS r.1),D.v (.bool r.2.1),D.v (.int .i64 r.2.2)]) true:=by
 unfold VX at H;refine zP #[.tmp 12,.tmp 13,.tmp 14] Tryz.func21 ?_;refine Ax ?_;refine AU (ZT 1 ?_);have⟨e,q,t⟩:=AP H;refine Z0 ?_;refine CT (lP q) ?_;refine Z0 ?_;refine AU (AU ?_);have⟨u,v,f⟩:=AP t;refine Dw (α:={ y:Bool // u=y }) (fun |⟨g,_⟩=>⟨upd 8 (.pt 0 0) (upd 9 (.pt 1 0) (upd 10 (.pt 2 0) (upd 11 (.pt 3 0) (upd 15 (.pt 4 0) (upd 16 (.v (.int .i64 e.2)) (upd 34 (.v (.bool g)) AJ)))))),upd 0 (some (.bx [.v (.string typ)])) (upd 1 (some (.bx [.v (.string rel)])) (upd 2 (some (.bx [.v (.string s.type_),.v (.string s.id_),.v (.string s.rel)])) (upd 3 (some (.bx [.v (.string p.after),.v (.int .i64 p.most)])) (upd 4 (some (.bx [.v (.pointer none)])) AK)))),5⟩) ?_ ?_
 ·refine AQ ?_;rcases Ah v with⟨b,c⟩ |⟨b,c⟩
  ·refine Z1 b ?_;obtain rfl:=Zi c;exact⟨⟨(!(s.rel.toList==({ data:= #[] }:ByteArray).toList)),rfl⟩,ZR [(0,0),(1,1),(2,2),(3,3),(4,16)]⟩
  refine Z1 b ?_;obtain rfl:=Zi c;exact⟨⟨false,rfl⟩,ZR [(0,0),(1,1),(2,2),(3,3),(4,16)]⟩
 rintro⟨g,w⟩;obtain rfl:=w.symm;try dsimp only at f
 have⟨x,z,h⟩:=AP f;refine Dw (α:={ y:Int // x=y }) (fun |⟨j,_⟩=>⟨upd 8 (.pt 0 0) (upd 9 (.pt 1 0) (upd 10 (.pt 2 0) (upd 11 (.pt 3 0) (upd 15 (.pt 4 0) (upd 16 (.v (.int .i64 j)) AJ))))),upd 0 (some (.bx [.v (.string typ)])) (upd 1 (some (.bx [.v (.string rel)])) (upd 2 (some (.bx [.v (.string s.type_),.v (.string s.id_),.v (.string s.rel)])) (upd 3 (some (.bx [.v (.string p.after),.v (.int .i64 p.most)])) (upd 4 (some (.bx [.v (.pointer none)])) AK)))),5⟩) ?_ ?_
 ·refine AQ ?_;rcases Ah z with⟨d,H10⟩ |⟨d,H10⟩
  ·refine Z1 d ?_;obtain rfl:=Zi H10;exact⟨⟨13,rfl⟩,ZR [(0,0),(1,1),(2,2),(3,3),(4,4)]⟩
  refine Z1 d ?_;obtain rfl:=Zi H10;exact⟨⟨e.2,rfl⟩,ZR [(0,0),(1,1),(2,2),(3,3),(4,4)]⟩
 rintro⟨j,A⟩;obtain rfl:=A.symm;try dsimp only at h
 refine AQ ?_;rcases Ah h with⟨a,H12⟩ |⟨a,H12⟩
 ·refine Z1 a ?_;obtain rfl:=Zi H12;exact As
 refine Z1 a ?_;rcases Ah H12 with⟨m,H14⟩ |⟨m,H14⟩
 ·cases H14
 refine Z1 (Y2 a m) ?_;obtain rfl:=Zi H14;exact As
def VY (n:Nat)(l:List AG)(rows_:List AC)(o:Ae)(rel:ByteArray)(b:ByteArray)(p:CA):Option (List ByteArray × Bool × Int):=(JQ n l rows_ o.type_ rel p).bind fun a=>if a.2 != 0 then some ([],false,a.2) else none
theorem wU (H:VY n l rows_ o rel typ p=some r):AM Tryz.prog 22 [D.sl (List.map AS l),D.sl (List.map AE rows_),D.ag (DF o),D.v (.string rel),D.v (.string typ),D.ag (Cn p)] (D.tu [D.sl (List.map eS r.1),D.v (.bool r.2.1),D.v (.int .i64 r.2.2)]) true:=by
 unfold VY at H;have⟨e,c,d⟩:=AP H;rcases Ah d with⟨b,a⟩ |⟨b,a⟩
 ·refine zP #[.tmp 12,.tmp 13,.tmp 14] Tryz.func22 ?_;refine Dg ?_;refine CT (lP c) ?_;refine DQ ?_;refine Z1 b ?_;obtain rfl:=Zi a;exact As
 cases a
def IW (n:Nat)(l:List AG)(rows_:List AC)(typ:ByteArray)(rel:ByteArray)(s:AL)(p:CA):Option (List ByteArray × Bool × Int):=match VX n l rows_ typ rel s p with
 |some r=>some r
 |none=>VR n l rows_ typ rel s p
def Jx (n:Nat)(l:List AG)(rows_:List AC)(o:Ae)(rel:ByteArray)(typ:ByteArray)(p:CA):Option (List ByteArray × Bool × Int):=match VY n l rows_ o rel typ p with
 |some r=>some r
 |none=>VS n l rows_ o rel typ p
theorem cE (H:IW n l rows_ typ rel s p=some r):AM Tryz.prog 21 [D.sl (List.map AS l),D.sl (List.map AE rows_),D.v (.string typ),D.v (.string rel),D.ag (AR s),D.ag (Cn p)] (D.tu [D.sl (List.map eS r.1),D.v (.bool r.2.1),D.v (.int .i64 r.2.2)]) true:=by
 unfold IW at H;split at H
 ·rename_i q h;cases H;exact wT h
 exact wE H
theorem lQ (H:Jx n l rows_ o rel typ p=some r):AM Tryz.prog 22 [D.sl (List.map AS l),D.sl (List.map AE rows_),D.ag (DF o),D.v (.string rel),D.v (.string typ),D.ag (Cn p)] (D.tu [D.sl (List.map eS r.1),D.v (.bool r.2.1),D.v (.int .i64 r.2.2)]) true:=by
 unfold Jx at H;split at H
 ·rename_i q h;cases H;exact wU h
 exact wH H
def YU (n:Nat)(a:List ByteArray)(b:List ByteArray):Nat->Int->Option ((Unit) ⊕ Bool)
 |0,_=>none
 |c+1,i=>(if decide (i<(a.length:Int)) then (idx a i).bind fun d=>(idx b i).bind fun e=>(if (d.toList==e.toList) then YU n a b c (i64.wrap (i+1)) else some (.inr false)) else some (.inl ()))
def PK (n:Nat)(a:List ByteArray)(b:List ByteArray):Option Bool:=(if ((a.length:Int) != (b.length:Int)) then some false else (YU n a b n 0:Option ((Unit) ⊕ Bool)).bind fun
   | .inl _=>some true
   | .inr r=>some r)
theorem lR {a:List ByteArray}{b:List ByteArray}{r:Bool}(H:PK n a b=some r):AM Tryz.prog 23 [D.sl (List.map eS a),D.sl (List.map eS b)] (D.v (.bool r)) true:=by
 unfold PK at H;refine zP #[.tmp 4] Tryz.func23 ?_;refine Dg ?_;obtain⟨d,e⟩ |⟨d,e⟩:=Ah H
 ·refine Z1 d ?_;cases e;exact As
 refine HK d ?_;refine zi e (fun _ _ _=>⟨AJ,AK,0⟩) (fun w q g=> ?_) fun _ g=> ?_
 ·refine D9 q (fun f _ i=>⟨kp [0,1] f (upd 5 (.v (.int .i64 i)) AJ),AK,0⟩) (ZR []) fun c i t=> ?_
  refine AQ ?_;obtain⟨h,H23⟩ |⟨h,H23⟩:=Ah t
  ·obtain⟨x,y,z,u,H25⟩:=zI eS H23;obtain⟨A,B,C,v,H31⟩:=zI eS H25;have m:=Y3 h u v;refine Dj m ?_;obtain⟨j,H37⟩ |⟨j,H37⟩:=Cb m H31
   ·refine Z1 j ?_;exact⟨_,H37,ZR []⟩
   refine Z1 j ?_;cases H37;cases g;exact As
  refine Z1 h ?_;cases H23;exact⟨_,rfl,ZR []⟩
 refine AQ ?_;cases g;exact As
def cF (n:Nat):Nat->(List AC × Int)->Option (List AC)
 |0,_=>none
 |c+1,(b,a)=>(if decide (a<3) then (IR ({ data:= #[97,98,99] }) a (i64.wrap (a+1))).bind fun d=>(Cu b [(⟨(⟨{ data:= #[100] },d⟩:Ae),{ data:= #[111] },(⟨{ data:= #[117] },{ data:= #[120] },ByteArray.empty⟩:AL)⟩:AC)]).bind fun l=>cF n c (l,(i64.wrap (a+1))) else some b)
def TD (n:Nat):Option Bool:=(MS n ({ data:= #[116,121,112,101,32,117,32,116,121,112,101,32,100,32,123,32,111,58,32,117,59,32,125] })).bind fun a=>(cF n n ([],0):Option (List AC)).bind fun b=>(IW n a b ({ data:= #[100] }) ({ data:= #[111] }) (⟨{ data:= #[117] },{ data:= #[120] },ByteArray.empty⟩:AL) (⟨{ data:= #[97] },1⟩:CA)).bind fun c=>(Jx n a b (⟨{ data:= #[100] },{ data:= #[97] }⟩:Ae) ({ data:= #[111] }) ({ data:= #[117] }) (⟨ByteArray.empty,9⟩:CA)).bind fun d=>(IW n a b ({ data:= #[100] }) ({ data:= #[111] }) (⟨ByteArray.empty,ByteArray.empty,ByteArray.empty⟩:AL) (⟨ByteArray.empty,0⟩:CA)).bind fun e=>(PK n c.1 ([{ data:= #[98] }]:List ByteArray)).bind fun f=>(if f then (if c.2.1 then (if (c.2.2==0) then (PK n d.1 ([{ data:= #[120] }]:List ByteArray)).bind fun g=>(if g then (if d.2.1 then some false else (if (d.2.2==0) then some (e.2.2==1) else some false)) else some false) else some false) else some false) else some false)
theorem lS {r:Bool}(H:TD n=some r):AM Tryz.prog 24 [] (D.v (.bool r)) true:=by
 unfold TD at H;refine zP #[.tmp 0] Tryz.func24 ?_;refine Ax ?_;refine AU (ZT 1 ?_);have⟨ad,G,I⟩:=AP H;refine Z0 ?_;refine CT (o9 G) ?_;refine DQ ?_;refine Z0 ?_;refine Dy ?_;refine EJ I (fun f _ m q=>⟨kp [1] f (upd 2 (AW 0 q (List.map AE m)) AJ),upd 0 (Am 6 q false (List.map AE m)) AK,1⟩) (fun e_ J x=> ?_) fun m q x=> ?_
 ·refine DL J (fun f _ (b,a) g=>⟨kp [1] f (upd 2 (AW 0 g (List.map AE b)) (upd 3 (.v (.int .i64 a)) AJ)),upd 0 (Am 6 g false (List.map AE b)) AK,1⟩) 0 (ZR []) fun c ⟨b,a⟩ g K=> ?_
  refine AQ ?_;obtain⟨t,H17⟩ |⟨t,H17⟩:=Ah K
  ·have⟨y,L,H19⟩:=AP H17;have⟨z,M,ag,N⟩:=jD L;have A:Int.toNat a<=Int.toNat (i64.wrap (a+1)):=(by omega);have O:Int.toNat (i64.wrap (a+1))<=(ByteArray.size ({ data:= #[97,98,99] })):=(by omega);have B:ByteArray.extract ({ data:= #[97,98,99] }) (Int.toNat a) (Int.toNat (i64.wrap (a+1)))=y:=N.symm;have C:Int.toNat (i64.wrap (a+1))<=3:=O;try simp only[Li] at A C B
   have⟨l,R,H29⟩:=AP H19;have⟨u,E⟩:=Dp R;have u:b.length+1<=4294967296:=u;have T:List.map AE b++[[.v (.string { data:= #[100] }),.v (.string y),.v (.string { data:= #[111] }),.v (.string { data:= #[117] }),.v (.string { data:= #[120] }),.v (.string ByteArray.empty)]]=List.map AE l:=D6 AE E;have U:b.length+1=l.length:=D7 E;have V:l.length<=4294967296:=(by omega);have ak:0<l.length:=(by omega);refine Z1 (Y2 (Y6 t (CC .i64 z) (CC .i64 (NC z M)) A C B) (Y4 u T U V)) ?_;rcases b with _ |⟨q0,q1⟩
   ·try simp only[Lu,CF,CG]
    exact⟨_,0,H29,ZR [(0,12)]⟩
   try simp only[Lh,CF,CG]
   exact⟨_,(g+1),H29,ZR [(0,0)]⟩
  refine Z1 t ?_;cases H17;exact⟨g,ZR [(0,0)]⟩
 refine ZT 1 ?_;have⟨ao,X,H37⟩:=AP x;refine Z0 ?_;refine CT (cE X) ?_;have⟨aq,Y,H39⟩:=AP H37;refine Z0 ?_;refine CT (lQ Y) ?_;have⟨av,Z,H41⟩:=AP H39;refine Z0 ?_;refine CT (cE Z) ?_;have⟨aE,aa,H43⟩:=AP H41;refine Z0 ?_;refine CT (lR aa) ?_;refine Z0 ?_;obtain⟨e,H45⟩ |⟨e,H45⟩:=Ah H43;rotate_left
 ·refine Z1 e ?_;cases H45;exact As
 refine Z1 e ?_;obtain⟨v,H47⟩ |⟨v,H47⟩:=Ah H45;rotate_left
 ·refine Z1 (Y2 e v) ?_;cases H47;exact As
 have F:=Y2 e v;refine Z1 F ?_;obtain⟨d,H49⟩ |⟨d,H49⟩:=Cb F H47
 ·have⟨a0,ab,H51⟩:=AP H49;refine Z1 d ?_;refine yW d (lR ab) ?_;refine Z1 d ?_;obtain⟨h,H53⟩ |⟨h,H53⟩:=Cb d H51
  ·refine Z1 h ?_;obtain⟨j,H55⟩ |⟨j,H55⟩:=Cb h H53
   ·refine Z1 j ?_;cases H55;exact As
   refine Z1 j ?_;obtain⟨w,H57⟩ |⟨w,H57⟩:=Cb j H55
   ·refine Z1 w ?_;cases H57;exact As
   refine Z1 w ?_;cases H57;exact As
  refine Z1 h ?_;cases H53;exact As
 refine Z1 d ?_;cases H49;exact As
end Go.Proofs.YtnmkbmefohakmaaGreat.Ab
namespace Go.Proofs.YtnmkbmefohakmaaGreat.Ab
open Go.Shelf Go.RowKit
theorem toList_inj {a b:ByteArray}(h:a.toList=b.toList):a=b:=by
 rw[Lib.toList_data,Lib.toList_data] at h;exact ByteArray.ext (IE h)
def qD (x:AC):List D:=AE x
def qA (x:AC):List AV:=[.v (.string x.obj.type_),.v (.string x.obj.id_),.v (.string x.rel),.v (.string x.sub_.type_),.v (.string x.sub_.id_),.v (.string x.sub_.rel)]
@[go_sem] theorem Y0 (x:AC)(b:Bool):(qD x).map (CI b)=qA x:=rfl
@[go_sem] theorem dJ (x:AC):(qA x).length=6:=rfl
@[go_sem] theorem Y7 (x:AC):(qA x).take 6=qA x:=rfl
@[go_sem] theorem nc (hp:Hp)(x:AC):Dk hp (qA x)=some (qD x,false,[]):=rfl
theorem nf (x:AC):AM Tryz.prog 74 [.ag (qD x)] (.ag (qD x)) true:=by
 refine XP (tab:=tab) Ev FI Tryz.func74 rfl (by kernel_rfl) (by kernel_rfl) (by simp[Tryz.f74]) ?_;unfold qD;refine Z0 ?_;exact IQ (by simp -implicitDefEqProofs only[go_sem,Nat.reduceEqDiff,Nat.reduceAdd, ↓reduceIte,Tryz.f74]<;>rfl) rfl rfl (fun _=>rfl)
theorem Pk (x:AC){k:Nat}(a:k<6):∃s,(tk x)[k]? =some s/\(qA x)[k]? =some (.v (.string s)):=by
 match k,a with
 |0,_=>exact⟨_,rfl,rfl⟩
 |1,_=>exact⟨_,rfl,rfl⟩
 |2,_=>exact⟨_,rfl,rfl⟩
 |3,_=>exact⟨_,rfl,rfl⟩
 |4,_=>exact⟨_,rfl,rfl⟩
 |5,_=>exact⟨_,rfl,rfl⟩
theorem ng:∀ {k:Nat} {X Y:List ByteArray} {s t:ByteArray},X.take k=Y.take k->X[k]? =some s->Y[k]? =some t->s≠t->Eu X Y=Gf s t
 |0,a::X,b::Y,s,t,_,c,d,f=>by
  cases c;cases d
  have:¬Gf a b=0:=fun e=>f ((TG a b).1 e)
  simp[Eu,Gp,this]
 |k+1,a::X,b::Y,s,t,g,c,d,f=>by
  rw[BY,BY] at g;injection g with e1 e2;subst e1;have h:=ng (k:=k) e2 (by simpa using c) (by simpa using d) f;unfold Eu at *;rw[Bb,Gp,if_pos ((TG a a).2 rfl),h]
 |_,[],_,_,_,_,c,_,_=>by simp at c
 |_,_::_,[],_,_,_,_,d,_=>by simp at d
theorem yC {k:Nat}{X Y:List ByteArray}{s t:ByteArray}(a:X.take k=Y.take k)(b:X[k]? =some s)(c:Y[k]? =some t)(h:s=t):X.take (k+1)=Y.take (k+1):=by
 subst h;rw[BJ,BJ,a,b,c]
theorem less (x y:AC):AM Tryz.prog 37 [.ag (qD x),.ag (qD y)] (.v (.bool (tO.lt x y))) true:=by
 refine XP (tab:=tab) Ev FI Tryz.func37 rfl (by kernel_rfl) (by kernel_rfl) (by simp[Tryz.f37]) ?_;refine Z0 ?_;refine XN (by simp -implicitDefEqProofs only[go_sem];rfl) (nf x) (.inr rfl) ?_;simp -implicitDefEqProofs only[go_sem,O8,Nat.reduceEqDiff,Nat.reduceAdd, ↓reduceIte];refine XN (by simp -implicitDefEqProofs only[go_sem];rfl) (nf y) (.inr rfl) ?_;simp -implicitDefEqProofs only[go_sem,O8,Nat.reduceEqDiff,Nat.reduceAdd, ↓reduceIte];refine aR (by rfl) ?_;refine Z0 ?_;refine XO (fun p:{ p:Nat × Nat // p.1<=6/\(tk x).take p.1=(tk y).take p.1 }=>⟨upd 7 (.v (.int .i64 (p.1.1:Int))) (upd 6 (.pt 8 0) (upd 5 (.pt 7 0) (upd 4 (.v (.bool false)) AJ))),upd 8 (some (.bx (qA y))) (upd 7 (some (.bx (qA x))) AK),p.1.2+12⟩) (fun p=>7-p.1.1) ⟨(0,0),by simp⟩ ⟨DO rfl DW,Xa rfl (Xa rfl (Mq _)),by simp⟩ ?_;rintro⟨⟨k,m⟩,j,hB⟩;simp only at j hB;by_cases a:k<6
 ·have b:decide ((k:Int)<6)=true:=by simp;omega
  have⟨s,d,e⟩:=Pk x a;have⟨t,f,g⟩:=Pk y a;refine Z1 (Y4 b a e g) ?_;refine aR (by rfl) ?_;refine Z0 ?_;refine XM (fun h=> ?_) (fun h=> ?_)
  ·refine Z1 (Y3 a e g) ?_;refine aR (by rfl) ?_;refine Z0 ?_;have q:s≠t:=(by rintro rfl;simp at h);refine IQ (by simp -implicitDefEqProofs only[go_sem, ↓reduceIte,Tryz.f37]<;>rfl) rfl ?_ (fun _=>rfl);have c:tO.lt x y=tx.lt s t:=by
    show decide (Eu (tk x) (tk y)<0)=_;rw[ng hB d f q,Q3]
   rw[c];rfl
  have u:s=t:=toList_inj (by simpa using h);have v:IntKind.i64.wrap ((k:Int)+1)=((k+1:Nat):Int):=by rw[Jz]
  refine Z1 v ?_;exact⟨⟨(k+1,_),by omega,yC hB d f u⟩,⟨DO rfl DW,Xa rfl (Xa rfl (Mq _)),Lc _⟩,by simp only;omega⟩
 have b:decide ((k:Int)<6)=false:=by simp;omega
 refine Z1 b ?_;have c:tO.lt x y=false:=by
  have w:k=6:=by omega
  subst w;have z:tk x=tk y:=hB;rw[nh _ _ z];exact tO.irrefl _
 exact IQ (by simp -implicitDefEqProofs only[go_sem, ↓reduceIte,Tryz.f37]<;>rfl) rfl (by rw[c]) (fun _=>rfl)
def WP (a:Nat)(x y:AC):Option Bool:=some (tO.lt x y)
theorem dK {n:Nat}{x y:AC}{r:Bool}(h:WP n x y=some r):AM Tryz.prog 37 [.ag (AE x),.ag (AE y)] (.v (.bool r)) true:=by
 obtain rfl:=LI h;exact less x y
end Go.Proofs.YtnmkbmefohakmaaGreat.Ab
namespace Go.Proofs.YtnmkbmefohakmaaGreat.Ab
open Go.RowKit
section
variable {P:Program}{tab:Nat->TI}{ops:Array Oper}{nx0 nx i:Nat}{k:List It}{Q:Ex->St->Prop}{r:List Oper}{s:St}{dst:Option Nat}{acc:List C7}{fr:Fr}{hp:Hp}
@[go_sem] theorem au_ (A:TypeId)(x y:Operand):DS P tab ops nx0 k Q i r dst s (.makeSlice A x y)=FR P tab ops nx0 k Q (i+1) r dst s (Cc tab (ev s.fr) s.hp (nx0+i) (.makeSlice A x y)):=rfl
end
def Vq (n:Int):Option (List Int):=if 0<=n/\n<=4294967296 then some (List.replicate n.toNat 0) else none
theorem w9 {n:Int}{l:List Int}(h:Vq n=some l):(∀k:IntKind,EY (AV.v (.int k n))=some l.length)/\l.length<=4294967296/\∀k:IntKind,List.replicate l.length [D.v (.int k 0)]=List.map (fun z=>[D.v (.int k z)]) l:=by
 unfold Vq at h;split at h
 ·rename_i c;cases h;refine⟨fun k=>by rw[CC k c.1,NH],by rw[NH];omega,fun k=>by rw[NH,Oy]⟩
 cases h
def PS (n:Int):Option (List Bool):=if 0<=n/\n<=4294967296 then some (List.replicate n.toNat false) else none
theorem mX {n:Int}{l:List Bool}(h:PS n=some l):(∀k:IntKind,EY (AV.v (.int k n))=some l.length)/\l.length<=4294967296/\List.replicate l.length [D.v (.bool false)]=List.map eB l:=by
 unfold PS at h;split at h
 ·rename_i c;cases h;refine⟨fun k=>by rw[CC k c.1,NH],by rw[NH];omega,by rw[NH,Oy]⟩
 cases h
end Go.Proofs.YtnmkbmefohakmaaGreat.Ab
