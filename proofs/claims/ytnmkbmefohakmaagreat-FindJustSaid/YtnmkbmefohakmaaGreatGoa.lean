/-
 A graph over an index and a schema that holds together: what a relation wh_ on, and that all comes to an end. No program in sight.
-/
import Derived.Test.YtnmkbmefohakmaaGreatMda
set_option linter.all false
namespace Go.Proofs.YtnmkbmefohakmaaGreat.Ab
open Go.RowKit IntKind
def MI (_:Nat)(p:CA):Option Bool:=(if decide (p.most<1) then some true else some (decide (1000<p.most)))
variable {c2:AI}{c4 rel typ:ByteArray}{l rows_:List AC}{m n:Nat}{p:CA}{r:Bool}{s:AL}
theorem YS (H:MI n p=some r):AM Tryz.prog 78 [D.ag (Cn p)] (D.v (.bool r)) true:=by
 unfold MI at H;refine zP #[.tmp 2] Tryz.func78 ?_;refine AQ ?_;obtain⟨a,b⟩ |⟨a,b⟩:=Ah H
 ·refine Z1 a ?_;cases b;exact As
 refine Z1 a ?_;cases b;exact As
def S8 (n:Nat)(l:List AG)(rows_:List AC)(typ:ByteArray)(rel:ByteArray)(p:CA):Option (AI × Int):=(MI n p).bind fun b=>(if b then none else (Ry n l rows_).bind fun a=>(if (a.2==0) then (Hv n (⟨(⟨a.1.schema.types,a.1.schema.rels,a.1.schema.ranks⟩:AD),(⟨(⟨a.1.index.left.subs,a.1.index.left.objs⟩:Cj),(⟨a.1.index.right.refs,a.1.index.right.users⟩:Ck)⟩:A9),a.1.rows_⟩:AI) typ rel).bind fun c=>(if c then some ((⟨(⟨a.1.schema.types,a.1.schema.rels,a.1.schema.ranks⟩:AD),(⟨(⟨a.1.index.left.subs,a.1.index.left.objs⟩:Cj),(⟨a.1.index.right.refs,a.1.index.right.users⟩:Ck)⟩:A9),a.1.rows_⟩:AI),a.2) else none) else some ((⟨(⟨a.1.schema.types,a.1.schema.rels,a.1.schema.ranks⟩:AD),(⟨(⟨a.1.index.left.subs,a.1.index.left.objs⟩:Cj),(⟨a.1.index.right.refs,a.1.index.right.users⟩:Ck)⟩:A9),a.1.rows_⟩:AI),a.2)))
theorem ku {l:List AG}{r:AI × Int}(H:S8 n l rows_ typ rel p=some r):CP Tryz.prog 43 [.d (D.sl (List.map AS l)),.d (D.sl (List.map AE rows_)),.d (D.v (.string typ)),.d (D.v (.string rel)),.d (D.ag (Cn p))] (D.tu [D.pt (Ak r.1) 0,D.v (.int .i64 r.2)]) false:=by
 unfold S8 at H;refine ZC Ev FI (rs:= #[.tmp 10,.tmp 11]) Tryz.func43 ?_;refine ZT 1 ?_;have⟨u,j,k⟩:=AP H;refine Z0 ?_;refine CT (YS j) ?_;refine Z0 ?_;obtain⟨c,d⟩ |⟨c,d⟩:=Ah k
 ·refine Z1 c ?_;cases d
 have⟨a,o,q⟩:=AP d;refine Z1 c ?_;refine Tk (pg o) ?_;refine Z1 c ?_;obtain⟨e,f⟩ |⟨e,f⟩:=Ah q
 ·have⟨w,t,H10⟩:=AP f;have g:=Y2 c e;refine Z1 g ?_;refine CT (ph t) ?_;refine Z1 g ?_;obtain⟨i,H12⟩ |⟨i,H12⟩:=Cb g H10
  ·refine Z1 i ?_;cases H12;exact KQ (b:=true) (v:=.tu [.d (.pt [.pt [.mp (A7 Value.string false eI a.1.schema.types),.mp (A7 qa_ true Al a.1.schema.rels),.mp (A7 qa_ false eI a.1.schema.ranks)] 0,.pt [.mp (A7 Em false (eL AR) a.1.index.left.subs),.mp (A7 Value.string false (eL eS) a.1.index.left.objs),.mp (A7 FD false (eL AF) a.1.index.right.refs),.mp (A7 Value.string false (eL eS) a.1.index.right.users)] 0,.sl (List.map AE a.1.rows_)] 0) true,.v (.int .i64 a.2)]) (by first |(simp -implicitDefEqProofs only[go_sem,Nat.reduceEqDiff, ↓reduceIte]<;>rfl) |rfl) (Fq.tu (PW.cons (Cg.one (C3.one (b':=true) (is:=[]) rfl (fun _=>rfl)) rfl) (PW.cons (Cg.one (C3.one (b':=false) (is:=[]) rfl (fun _=>rfl)) rfl) PW.nil))) (by intro h;first |rfl |cases h)
  refine Z1 i ?_;cases H12
 refine Z1 (Y2 c e) ?_;cases f;exact KQ (b:=true) (v:=.tu [.d (.pt [.pt [.mp (A7 Value.string false eI a.1.schema.types),.mp (A7 qa_ true Al a.1.schema.rels),.mp (A7 qa_ false eI a.1.schema.ranks)] 0,.pt [.mp (A7 Em false (eL AR) a.1.index.left.subs),.mp (A7 Value.string false (eL eS) a.1.index.left.objs),.mp (A7 FD false (eL AF) a.1.index.right.refs),.mp (A7 Value.string false (eL eS) a.1.index.right.users)] 0,.sl (List.map AE a.1.rows_)] 0) true,.v (.int .i64 a.2)]) (by first |(simp -implicitDefEqProofs only[go_sem,Nat.reduceEqDiff, ↓reduceIte]<;>rfl) |rfl) (Fq.tu (PW.cons (Cg.one (C3.one (b':=true) (is:=[]) rfl (fun _=>rfl)) rfl) (PW.cons (Cg.one (C3.one (b':=false) (is:=[]) rfl (fun _=>rfl)) rfl) PW.nil))) (by intro h;first |rfl |cases h)
def PI (n:Nat)(a:ByteArray)(c2:AI)(b:ByteArray)(c4:ByteArray)(c:AL):Option Bool:=(Gj n (⟨c2.schema,c2.index,c2.rows_⟩:AI) (⟨b,a⟩:Ae) c4 c).bind fun d=>some d
theorem kx {a:ByteArray}{b:ByteArray}{c:AL}(H:PI n a c2 b c4 c=some r):AM Tryz.prog 46 [D.v (.string a),D.pt [D.pt (Ak c2) 0] 0,D.pt [D.v (.string b)] 0,D.pt [D.v (.string c4)] 0,D.pt (AR c) 0] (D.v (.bool r)) true:=by
 unfold PI at H;refine zP #[.tmp 6] Tryz.func46 ?_;refine ZT 1 ?_;have⟨f,d,e⟩:=AP H;refine Z0 ?_;refine CT (o8 d) ?_;refine Z0 ?_;cases e;exact As
def S9 (n:Nat)(l:List ByteArray)(p:CA)(c2:AI)(d:ByteArray)(c4:ByteArray)(e:AL):Nat->(List ByteArray × Int)->Option ((List ByteArray) ⊕ (List ByteArray × Bool))
 |0,_=>none
 |c+1,(a,f)=>(if decide (f<(l.length:Int)) then (idx l f).bind fun b=>((if (Op.bytesLess b.toList p.after.toList||b.toList==p.after.toList) then (if (p.after.toList==({ data:= #[] }:ByteArray).toList) then (PI n b (⟨c2.schema,c2.index,c2.rows_⟩:AI) d c4 e).bind fun g=>some (!g) else some true) else (PI n b (⟨c2.schema,c2.index,c2.rows_⟩:AI) d c4 e).bind fun h=>some (!h)):Option (Bool)).bind fun i=>(if i then S9 n l p c2 d c4 e c (a,(i64.wrap (f+1))) else (if ((a.length:Int)==p.most) then some (.inr (a,true)) else (Cu a [b]).bind fun j=>S9 n l p c2 d c4 e c (j,(i64.wrap (f+1))))) else some (.inl a))
def bv (n:Nat)(_:List ByteArray)(p:CA)(c2:AI)(a:ByteArray)(c4:ByteArray)(b:AL)(c:List ByteArray)(x2:ByteArray)(k:List ByteArray->Option ((List ByteArray) ⊕ (List ByteArray × Bool))):Option ((List ByteArray) ⊕ (List ByteArray × Bool)):=
 match c with
 |out=>
  (
   (if (Op.bytesLess x2.toList p.after.toList||x2.toList==p.after.toList) then
    (if (p.after.toList==({ data:= #[] }:ByteArray).toList) then
     (PI n x2 (⟨c2.schema,c2.index,c2.rows_⟩:AI) a c4 b).bind fun d=>
     some (!d)
    else
     some true)
   else
    (PI n x2 (⟨c2.schema,c2.index,c2.rows_⟩:AI) a c4 b).bind fun e=>
    some (!e)):Option (Bool)).bind fun f=>
  (if f then
   k out
  else
   (if ((out.length:Int)==p.most) then
    some (.inr (out,true))
   else
    (Cu out [x2]).bind fun g=>
    k g))
def bw (_:Nat)(_:List ByteArray)(_:CA)(_:AI)(_:ByteArray)(_:ByteArray)(_:AL)(a:List ByteArray):Option ((List ByteArray) ⊕ (List ByteArray × Bool)):=
 match a with
 |out=>some (.inl out)
theorem wD (n:Nat)(l:List ByteArray)(p:CA)(c2:AI)(b:ByteArray)(c4:ByteArray)(d:AL)(f:l.length<4611686018427387904)(c:Nat)(e:List ByteArray)(a:Nat)(g:a<=l.length)(h:l.length-a<c):S9 n l p c2 b c4 d c (match e,(a:Int) with |out,a=>(out,a))=DP (bv n l p c2 b c4 d) (bw n l p c2 b c4 d) (l.drop a) e:=
 Gl (fun c e a=>S9 n l p c2 b c4 d c (match e,a with |out,a=>(out,a))) l (bv n l p c2 b c4 d) (bw n l p c2 b c4 d) (fun _ _ _=>rfl) f c e a g h
def Qt (n:Nat)(l:List ByteArray)(p:CA)(c2:AI)(a:ByteArray)(c4:ByteArray)(b:AL):Option (List ByteArray × Bool):=(S9 n l p c2 a c4 b n ([],0):Option ((List ByteArray) ⊕ (List ByteArray × Bool))).bind fun
  | .inl c=>some (c,false)
  | .inr r=>some r
theorem lA {l:List ByteArray}{j:ByteArray}{b:AL}{r:List ByteArray × Bool}(H:Qt n l p c2 j c4 b=some r):CP Tryz.prog 44 [.d (D.sl (List.map eS l)),.d (D.ag (Cn p)),.fn 46 [D.pt [D.pt (Ak c2) 0] 0,D.pt [D.v (.string j)] 0,D.pt [D.v (.string c4)] 0,D.pt (AR b) 0]] (D.tu [D.sl (List.map eS r.1),D.v (.bool r.2)]) true:=by
 unfold Qt at H;refine nq Ev FI (rs:= #[.tmp 6,.tmp 7]) Tryz.func44 ?_;refine Dg ?_;refine Dy ?_;refine WU H (fun _ _ q t=>⟨upd 8 (AW 0 t (List.map eS q)) AJ,upd 0 (Am 1 t false (List.map eS q)) AK,1⟩) (fun Q E u=> ?_) fun q t u=> ?_;rotate_left
 ·refine AQ ?_;cases u;exact As
 refine DL E (fun f h (a,y) g=>⟨kp [4,11,12] f (upd 2 (.fn 46 [.d (.pt [.pt [.pt [.mp (A7 Value.string false eI c2.schema.types),.mp (A7 qa_ true Al c2.schema.rels),.mp (A7 qa_ false eI c2.schema.ranks)] 0,.pt [.mp (A7 Em false (eL AR) c2.index.left.subs),.mp (A7 Value.string false (eL eS) c2.index.left.objs),.mp (A7 FD false (eL AF) c2.index.right.refs),.mp (A7 Value.string false (eL eS) c2.index.right.users)] 0,.sl (List.map AE c2.rows_)] 0] 0) true,.d (.pt [.v (.string j)] 0) true,.d (.pt [.v (.string c4)] 0) true,.d (.pt [.v (.string b.type_),.v (.string b.id_),.v (.string b.rel)] 0) true]) (upd 8 (AW 1 g (List.map eS a)) (upd 13 (.v (.int .i64 y)) AJ))),kh [0] h (upd 1 (Am 1 g false (List.map eS a)) AK),2⟩) 0 (ZR [(0,0)]) fun c ⟨a,y⟩ g F=> ?_
 refine Dg ?_;obtain⟨k,H28⟩ |⟨k,H28⟩:=Ah F;rotate_left
 ·refine Z1 k ?_;cases H28;exact⟨_,g,rfl,ZR [(0,1)]⟩
 refine J8 k ?_;obtain⟨G,R,S,I,H30⟩:=zI eS H28;refine Z1 (Y2 k I) ?_;refine AU (AU ?_);refine EJ H30 (fun f h z e=>⟨kp [4,10,11,12,13] f (upd 2 (.fn 46 [.d (.pt [.pt [.pt [.mp (A7 Value.string false eI c2.schema.types),.mp (A7 qa_ true Al c2.schema.rels),.mp (A7 qa_ false eI c2.schema.ranks)] 0,.pt [.mp (A7 Em false (eL AR) c2.index.left.subs),.mp (A7 Value.string false (eL eS) c2.index.left.objs),.mp (A7 FD false (eL AF) c2.index.right.refs),.mp (A7 Value.string false (eL eS) c2.index.right.users)] 0,.sl (List.map AE c2.rows_)] 0] 0) true,.d (.pt [.v (.string j)] 0) true,.d (.pt [.v (.string c4)] 0) true,.d (.pt [.v (.string b.type_),.v (.string b.id_),.v (.string b.rel)] 0) true]) (upd 8 (AW 1 e (List.map eS a)) (upd 31 (.v (.bool z)) AJ))),kh [0] h (upd 1 (Am 1 e false (List.map eS a)) AK),2⟩) (fun T E35 H36=> ?_) fun z e H36=> ?_
 ·refine AQ ?_;obtain⟨d,H38⟩ |⟨d,H38⟩:=Ah E35
  ·refine Z1 d ?_;obtain⟨v,H40⟩ |⟨v,H40⟩:=Ah H38
   ·obtain⟨U,J,H42⟩:=AP H40;have A:=Y2 d v;refine Z1 A ?_;refine CT (kx J) ?_;refine Z1 A ?_;cases H42;exact⟨g,ZR [(0,0),(1,1)]⟩
   refine Z1 (Y2 d v) ?_;cases H40;exact⟨g,ZR [(0,0),(1,1)]⟩
  obtain⟨V,L,H44⟩:=AP H38;refine Z1 d ?_;refine CT (kx L) ?_;refine Z1 d ?_;cases H44;exact⟨g,ZR [(0,0),(1,1)]⟩
 refine ZT 4 ?_;refine Z0 ?_;obtain⟨i,H46⟩ |⟨i,H46⟩:=Ah H36
 ·refine Z1 i ?_;exact⟨_,e,H46,ZR [(0,0),(1,1)]⟩
 refine Z1 i ?_;obtain⟨w,H48⟩ |⟨w,H48⟩:=Ah H46
 ·have B:=Y2 i w;refine Z1 B ?_;cases H48;cases u;exact Rb B
 obtain⟨o,M,H50⟩:=AP H48;obtain⟨x,C⟩:=Dp M;have x:a.length+1<=4294967296:=x;have N:List.map eS a++[[.v (.string G)]]=List.map eS o:=D6 eS C;have O:a.length+1=o.length:=D7 C;have P:o.length<=4294967296:=by omega
 have X:0<o.length:=by omega
 refine Z1 (Y6 i w x N O P) ?_;rcases a with _ |⟨q0,q1⟩
 ·try simp only[Lu,CF,CG]
  exact⟨_,0,H50,ZR [(0,0),(1,10)]⟩
 try simp only[Lh,CF,CG]
 exact⟨_,(e+1),H50,ZR [(0,0),(1,1)]⟩
def VR (n:Nat)(l:List AG)(rows_:List AC)(typ:ByteArray)(rel:ByteArray)(s:AL)(p:CA):Option (List ByteArray × Bool × Int):=(S8 n l rows_ typ rel p).bind fun a=>((if (a.2==12) then some (!(s.rel.toList==({ data:= #[] }:ByteArray).toList)) else some false):Option (Bool)).bind fun f=>((if f then some 13 else some a.2):Option (Int)).bind fun b=>(if (b != 0) then some ([],false,b) else (if (s.rel.toList==({ data:= #[] }:ByteArray).toList) then (TN n (⟨(⟨a.1.index.left.subs,a.1.index.left.objs⟩:Cj),(⟨a.1.index.right.refs,a.1.index.right.users⟩:Ck)⟩:A9) typ).bind fun c=>(if decide (c.length=0) then (Qt n [] p (⟨(⟨a.1.schema.types,a.1.schema.rels,a.1.schema.ranks⟩:AD),(⟨(⟨a.1.index.left.subs,a.1.index.left.objs⟩:Cj),(⟨a.1.index.right.refs,a.1.index.right.users⟩:Ck)⟩:A9),a.1.rows_⟩:AI) typ rel s).bind fun d=>some (d.1,d.2,0) else (Qt n c p (⟨(⟨a.1.schema.types,a.1.schema.rels,a.1.schema.ranks⟩:AD),(⟨(⟨a.1.index.left.subs,a.1.index.left.objs⟩:Cj),(⟨a.1.index.right.refs,a.1.index.right.users⟩:Ck)⟩:A9),a.1.rows_⟩:AI) typ rel s).bind fun e=>some (e.1,e.2,0)) else some ([],false,13)))
theorem wE {l:List AG}{r:List ByteArray × Bool × Int}(H:VR n l rows_ typ rel s p=some r):AM Tryz.prog 21 [D.sl (List.map AS l),D.sl (List.map AE rows_),D.v (.string typ),D.v (.string rel),D.ag (AR s),D.ag (Cn p)] (D.tu [D.sl (List.map eS r.1),D.v (.bool r.2.1),D.v (.int .i64 r.2.2)]) true:=by
 unfold VR at H;refine zP #[.tmp 12,.tmp 13,.tmp 14] Tryz.func21 ?_;refine Ax ?_;refine AU (ZT 1 ?_);have⟨a,O,P⟩:=AP H;refine Z0 ?_;refine Tk (ku O) ?_;refine Z0 ?_;refine AU (AU ?_);refine zj P (fun f h I=>⟨kp [8,9,10,11,16] f (upd 15 (.pt 4 0) (upd 34 (.v (.bool I)) AJ)),kh [0,1,2,3] h (upd 4 (some (.bx [.d (.pt [.pt [.mp (A7 Value.string false eI a.1.schema.types),.mp (A7 qa_ true Al a.1.schema.rels),.mp (A7 qa_ false eI a.1.schema.ranks)] 0,.pt [.mp (A7 Em false (eL AR) a.1.index.left.subs),.mp (A7 Value.string false (eL eS) a.1.index.left.objs),.mp (A7 FD false (eL AF) a.1.index.right.refs),.mp (A7 Value.string false (eL eS) a.1.index.right.users)] 0,.sl (List.map AE a.1.rows_)] 0) true])) AK),5⟩) (fun e_ Q J=> ?_) fun I J=> ?_
 ·refine AQ ?_;obtain⟨g,i⟩ |⟨g,i⟩:=Ah Q
  ·refine Z1 g ?_;cases i;exact ZR [(0,0),(1,1),(2,2),(3,3),(4,16)]
  refine Z1 g ?_;cases i;exact ZR [(0,0),(1,1),(2,2),(3,3),(4,16)]
 refine zj J (fun f h L=>⟨kp [8,9,10,11,15] f (upd 16 (.v (.int .i64 L)) AJ),kh [0,1,2,3] h (upd 4 (some (.bx [.d (.pt [.pt [.mp (A7 Value.string false eI a.1.schema.types),.mp (A7 qa_ true Al a.1.schema.rels),.mp (A7 qa_ false eI a.1.schema.ranks)] 0,.pt [.mp (A7 Em false (eL AR) a.1.index.left.subs),.mp (A7 Value.string false (eL eS) a.1.index.left.objs),.mp (A7 FD false (eL AF) a.1.index.right.refs),.mp (A7 Value.string false (eL eS) a.1.index.right.users)] 0,.sl (List.map AE a.1.rows_)] 0) true])) AK),5⟩) (fun Z R M=> ?_) fun L M=> ?_
 ·refine AQ ?_;obtain⟨j,H10⟩ |⟨j,H10⟩:=Ah R
  ·refine Z1 j ?_;cases H10;exact ZR [(0,0),(1,1),(2,2),(3,3),(4,4)]
  refine Z1 j ?_;cases H10;exact ZR [(0,0),(1,1),(2,2),(3,3),(4,4)]
 refine AQ ?_;obtain⟨c,H12⟩ |⟨c,H12⟩:=Ah M
 ·refine Z1 c ?_;cases H12;exact As
 refine Z1 c ?_;obtain⟨k,H14⟩ |⟨k,H14⟩:=Ah H12
 ·have⟨o,N,H16⟩:=AP H14;have q:=Y2 c k;refine Z1 q ?_;obtain⟨d,H18⟩ |⟨d,H18⟩:=Ah H16
  ·have t:=Y2 q d;refine Z1 t ?_;refine IP (ids':=[]) (v:=.v (.slice none 0 0)) (δ:=[]) (nx':=48) (fun u _=>AT.mono (xH N d) fun S T U e=>e) ?_;have⟨aa,V,H23⟩:=AP H18;refine Z1 t ?_;refine Xw [4,0,1,2] (by intro u b;have w:=b 4 (by simp);have x:=b 0 (by simp);have y:=b 1 (by simp);have z:=b 2 (by simp);(try simp -implicitDefEqProofs only[go_sem,Nat.reduceEqDiff,reduceCtorEq, ↓reduceIte] at w);(try simp -implicitDefEqProofs only[go_sem, ↓reduceIte] at x);(try simp -implicitDefEqProofs only[go_sem,reduceCtorEq, ↓reduceIte] at y);(try simp -implicitDefEqProofs only[go_sem,Nat.reduceEqDiff,reduceCtorEq, ↓reduceIte] at z);first |(simp -implicitDefEqProofs only[go_sem,A8,AR,Cn,Ak,Av,w,x,y,z];done) |(simp -implicitDefEqProofs only[go_sem,A8,AR,Cn,Ak,Av,w,x,y,z];rfl)) (lA V) (by first |exact .inr rfl |exact .inl rfl) ?_;refine Dj t ?_;cases H23;exact As
  have X:0<o.length:=by have:=of_decide_eq_false d;omega
  have A:=Y2 q d;refine Z1 A ?_;refine IP (ids':=[]) (v:=.so 42 2 0 o.length) (δ:=[(42,.rw (List.map eS o) 1 2 false false)]) (nx':=51) (fun u _=>AT.mono (xG N X) fun S T U e=>e) ?_;have⟨ab,Y,H33⟩:=AP H18;refine Z1 A ?_;refine Xw [42,4,0,1,2] (by intro u b;have B:=b 42 (by simp);have C:=b 4 (by simp);have E:=b 0 (by simp);have F:=b 1 (by simp);have G:=b 2 (by simp);(try simp -implicitDefEqProofs only[go_sem, ↓reduceIte] at B);(try simp -implicitDefEqProofs only[go_sem,Nat.reduceEqDiff,reduceCtorEq, ↓reduceIte] at C);(try simp -implicitDefEqProofs only[go_sem,reduceCtorEq, ↓reduceIte] at E);(try simp -implicitDefEqProofs only[go_sem,Nat.reduceEqDiff,reduceCtorEq, ↓reduceIte] at F);(try simp -implicitDefEqProofs only[go_sem,Nat.reduceEqDiff,reduceCtorEq, ↓reduceIte] at G);first |(simp -implicitDefEqProofs only[go_sem, ↓reduceIte,A8,AR,Cn,Ak,Av,B,C,E,F,G];done) |(simp -implicitDefEqProofs only[go_sem, ↓reduceIte,A8,AR,Cn,Ak,Av,B,C,E,F,G];rfl)) (lA Y) (by first |exact .inr rfl |exact .inl rfl) ?_;refine Dj A ?_;cases H33;exact As
 refine Z1 (Y2 c k) ?_;cases H14;exact As
def PJ (n:Nat)(a:ByteArray)(c2:AI)(b:Ae)(c4:ByteArray)(c:ByteArray):Option Bool:=(Gj n (⟨c2.schema,c2.index,c2.rows_⟩:AI) b c4 (⟨c,a,ByteArray.empty⟩:AL)).bind fun d=>some d
theorem lC {a:ByteArray}{b:Ae}{c:ByteArray}(H:PJ n a c2 b c4 c=some r):AM Tryz.prog 49 [D.v (.string a),D.pt [D.pt (Ak c2) 0] 0,D.pt (DF b) 0,D.pt [D.v (.string c4)] 0,D.pt [D.v (.string c)] 0] (D.v (.bool r)) true:=by
 unfold PJ at H;refine zP #[.tmp 6] Tryz.func49 ?_;refine ZT 1 ?_;have⟨f,d,e⟩:=AP H;refine Z0 ?_;refine CT (o8 d) ?_;refine Z0 ?_;cases e;exact As
theorem Qu {hp:Hp}{nx:Nat}:AT Tryz.prog 47 [.v (.slice none 0 0)] hp nx fun v a b=>v= .v (.slice none 0 0)/\a=hp/\b=nx+4:=by
 refine zr Tryz.func47 ?_;refine Z0 ?_;exact GM (v:=.v (.slice none 0 0)) (by simp -implicitDefEqProofs only[go_sem, ↓reduceIte,Tryz.f47]<;>rfl) ⟨rfl,rfl,rfl⟩
theorem Qv {xs:List ByteArray}{id ver:Nat}{hp:Hp}{nx:Nat}(a:hp id=some (.rw (List.map eS xs) 1 ver false false))(h:id<nx)(hn:xs.length<=4294967296):AT Tryz.prog 47 [.so id ver 0 xs.length] hp nx fun v b c=>v= .so (nx+3) 1 0 xs.length/\b=upd (nx+3) (some (.rw (List.map eS xs) 1 1 false false)) hp/\c=nx+7:=by
 have d:(id=nx+3)=False:=Ep;have e:(List.map eS xs).length=xs.length:=Lt ..;have g:EZ 1 (List.map eS xs)=true:=Fm (n:=1) (f:=eS) (fun _=>rfl) xs;refine zr Tryz.func47 ?_;simp -implicitDefEqProofs only[go_sem,Nat.reduceLT,Nat.reduceEqDiff,Nat.reduceAdd,Nat.reduceLeDiff,reduceCtorEq, ↓reduceIte,d,a,e,g,hn,Lf,Nv,Ny,Lc,and_self];exact GM (by simp -implicitDefEqProofs only[go_sem, ↓reduceIte,Tryz.f47]<;>rfl) ⟨rfl,EU _ _ _ _,rfl⟩
def TA (n:Nat)(l:List ByteArray)(p:CA)(c2:AI)(d:Ae)(c4:ByteArray)(e:ByteArray):Nat->(List ByteArray × Int)->Option ((List ByteArray) ⊕ (List ByteArray × Bool))
 |0,_=>none
 |c+1,(a,f)=>(if decide (f<(l.length:Int)) then (idx l f).bind fun b=>((if (Op.bytesLess b.toList p.after.toList||b.toList==p.after.toList) then (if (p.after.toList==({ data:= #[] }:ByteArray).toList) then (PJ n b (⟨c2.schema,c2.index,c2.rows_⟩:AI) d c4 e).bind fun g=>some (!g) else some true) else (PJ n b (⟨c2.schema,c2.index,c2.rows_⟩:AI) d c4 e).bind fun h=>some (!h)):Option (Bool)).bind fun i=>(if i then TA n l p c2 d c4 e c (a,(i64.wrap (f+1))) else (if ((a.length:Int)==p.most) then some (.inr (a,true)) else (Cu a [b]).bind fun j=>TA n l p c2 d c4 e c (j,(i64.wrap (f+1))))) else some (.inl a))
def bz (n:Nat)(_:List ByteArray)(p:CA)(c2:AI)(a:Ae)(c4:ByteArray)(b:ByteArray)(c:List ByteArray)(x2:ByteArray)(k:List ByteArray->Option ((List ByteArray) ⊕ (List ByteArray × Bool))):Option ((List ByteArray) ⊕ (List ByteArray × Bool)):=
 match c with
 |out=>
  (
   (if (Op.bytesLess x2.toList p.after.toList||x2.toList==p.after.toList) then
    (if (p.after.toList==({ data:= #[] }:ByteArray).toList) then
     (PJ n x2 (⟨c2.schema,c2.index,c2.rows_⟩:AI) a c4 b).bind fun d=>
     some (!d)
    else
     some true)
   else
    (PJ n x2 (⟨c2.schema,c2.index,c2.rows_⟩:AI) a c4 b).bind fun e=>
    some (!e)):Option (Bool)).bind fun f=>
  (if f then
   k out
  else
   (if ((out.length:Int)==p.most) then
    some (.inr (out,true))
   else
    (Cu out [x2]).bind fun g=>
    k g))
def cA (_:Nat)(_:List ByteArray)(_:CA)(_:AI)(_:Ae)(_:ByteArray)(_:ByteArray)(a:List ByteArray):Option ((List ByteArray) ⊕ (List ByteArray × Bool)):=
 match a with
 |out=>some (.inl out)
theorem wF (n:Nat)(l:List ByteArray)(p:CA)(c2:AI)(b:Ae)(c4:ByteArray)(d:ByteArray)(f:l.length<4611686018427387904)(c:Nat)(e:List ByteArray)(a:Nat)(g:a<=l.length)(h:l.length-a<c):TA n l p c2 b c4 d c (match e,(a:Int) with |out,a=>(out,a))=DP (bz n l p c2 b c4 d) (cA n l p c2 b c4 d) (l.drop a) e:=
 Gl (fun c e a=>TA n l p c2 b c4 d c (match e,a with |out,a=>(out,a))) l (bz n l p c2 b c4 d) (cA n l p c2 b c4 d) (fun _ _ _=>rfl) f c e a g h
def TB (n:Nat)(l:List ByteArray)(p:CA)(c2:AI)(a:Ae)(c4:ByteArray)(b:ByteArray):Option (List ByteArray × Bool):=(TA n l p c2 a c4 b n ([],0):Option ((List ByteArray) ⊕ (List ByteArray × Bool))).bind fun
  | .inl c=>some (c,false)
  | .inr r=>some r
theorem wG {l:List ByteArray}{b:Ae}{j:ByteArray}{r:List ByteArray × Bool}(H:TB n l p c2 b c4 j=some r):CP Tryz.prog 44 [.d (D.sl (List.map eS l)),.d (D.ag (Cn p)),.fn 49 [D.pt [D.pt (Ak c2) 0] 0,D.pt (DF b) 0,D.pt [D.v (.string c4)] 0,D.pt [D.v (.string j)] 0]] (D.tu [D.sl (List.map eS r.1),D.v (.bool r.2)]) true:=by
 unfold TB at H;refine nq Ev FI (rs:= #[.tmp 6,.tmp 7]) Tryz.func44 ?_;refine Dg ?_;refine Dy ?_;refine WU H (fun _ _ q t=>⟨upd 8 (AW 0 t (List.map eS q)) AJ,upd 0 (Am 1 t false (List.map eS q)) AK,1⟩) (fun Q E u=> ?_) fun q t u=> ?_;rotate_left
 ·refine AQ ?_;cases u;exact As
 refine DL E (fun f h (a,y) g=>⟨kp [4,11,12] f (upd 2 (.fn 49 [.d (.pt [.pt [.pt [.mp (A7 Value.string false eI c2.schema.types),.mp (A7 qa_ true Al c2.schema.rels),.mp (A7 qa_ false eI c2.schema.ranks)] 0,.pt [.mp (A7 Em false (eL AR) c2.index.left.subs),.mp (A7 Value.string false (eL eS) c2.index.left.objs),.mp (A7 FD false (eL AF) c2.index.right.refs),.mp (A7 Value.string false (eL eS) c2.index.right.users)] 0,.sl (List.map AE c2.rows_)] 0] 0) true,.d (.pt [.v (.string b.type_),.v (.string b.id_)] 0) true,.d (.pt [.v (.string c4)] 0) true,.d (.pt [.v (.string j)] 0) true]) (upd 8 (AW 1 g (List.map eS a)) (upd 13 (.v (.int .i64 y)) AJ))),kh [0] h (upd 1 (Am 1 g false (List.map eS a)) AK),2⟩) 0 (ZR [(0,0)]) fun c ⟨a,y⟩ g F=> ?_
 refine Dg ?_;obtain⟨k,H28⟩ |⟨k,H28⟩:=Ah F;rotate_left
 ·refine Z1 k ?_;cases H28;exact⟨_,g,rfl,ZR [(0,1)]⟩
 refine J8 k ?_;obtain⟨G,R,S,I,H30⟩:=zI eS H28;refine Z1 (Y2 k I) ?_;refine AU (AU ?_);refine EJ H30 (fun f h z e=>⟨kp [4,10,11,12,13] f (upd 2 (.fn 49 [.d (.pt [.pt [.pt [.mp (A7 Value.string false eI c2.schema.types),.mp (A7 qa_ true Al c2.schema.rels),.mp (A7 qa_ false eI c2.schema.ranks)] 0,.pt [.mp (A7 Em false (eL AR) c2.index.left.subs),.mp (A7 Value.string false (eL eS) c2.index.left.objs),.mp (A7 FD false (eL AF) c2.index.right.refs),.mp (A7 Value.string false (eL eS) c2.index.right.users)] 0,.sl (List.map AE c2.rows_)] 0] 0) true,.d (.pt [.v (.string b.type_),.v (.string b.id_)] 0) true,.d (.pt [.v (.string c4)] 0) true,.d (.pt [.v (.string j)] 0) true]) (upd 8 (AW 1 e (List.map eS a)) (upd 31 (.v (.bool z)) AJ))),kh [0] h (upd 1 (Am 1 e false (List.map eS a)) AK),2⟩) (fun T E35 H36=> ?_) fun z e H36=> ?_
 ·refine AQ ?_;obtain⟨d,H38⟩ |⟨d,H38⟩:=Ah E35
  ·refine Z1 d ?_;obtain⟨v,H40⟩ |⟨v,H40⟩:=Ah H38
   ·obtain⟨U,J,H42⟩:=AP H40;have A:=Y2 d v;refine Z1 A ?_;refine CT (lC J) ?_;refine Z1 A ?_;cases H42;exact⟨g,ZR [(0,0),(1,1)]⟩
   refine Z1 (Y2 d v) ?_;cases H40;exact⟨g,ZR [(0,0),(1,1)]⟩
  obtain⟨V,L,H44⟩:=AP H38;refine Z1 d ?_;refine CT (lC L) ?_;refine Z1 d ?_;cases H44;exact⟨g,ZR [(0,0),(1,1)]⟩
 refine ZT 4 ?_;refine Z0 ?_;obtain⟨i,H46⟩ |⟨i,H46⟩:=Ah H36
 ·refine Z1 i ?_;exact⟨_,e,H46,ZR [(0,0),(1,1)]⟩
 refine Z1 i ?_;obtain⟨w,H48⟩ |⟨w,H48⟩:=Ah H46
 ·have B:=Y2 i w;refine Z1 B ?_;cases H48;cases u;exact Rb B
 obtain⟨o,M,H50⟩:=AP H48;obtain⟨x,C⟩:=Dp M;have x:a.length+1<=4294967296:=x;have N:List.map eS a++[[.v (.string G)]]=List.map eS o:=D6 eS C;have O:a.length+1=o.length:=D7 C;have P:o.length<=4294967296:=by omega
 have X:0<o.length:=by omega
 refine Z1 (Y6 i w x N O P) ?_;rcases a with _ |⟨q0,q1⟩
 ·try simp only[Lu,CF,CG]
  exact⟨_,0,H50,ZR [(0,0),(1,10)]⟩
 try simp only[Lh,CF,CG]
 exact⟨_,(e+1),H50,ZR [(0,0),(1,1)]⟩
def VS (n:Nat)(l:List AG)(rows_:List AC)(o:Ae)(rel:ByteArray)(typ:ByteArray)(p:CA):Option (List ByteArray × Bool × Int):=(S8 n l rows_ o.type_ rel p).bind fun a=>(if (a.2 != 0) then some ([],false,a.2) else ((TO n (⟨(⟨a.1.index.left.subs,a.1.index.left.objs⟩:Cj),(⟨a.1.index.right.refs,a.1.index.right.users⟩:Ck)⟩:A9) typ).bind fun b=>(if decide (b.length=0) then some [] else Cy (decide (b.length<=4294967296))<| some b):Option (List ByteArray)).bind fun d=>(TB n d p (⟨(⟨a.1.schema.types,a.1.schema.rels,a.1.schema.ranks⟩:AD),(⟨(⟨a.1.index.left.subs,a.1.index.left.objs⟩:Cj),(⟨a.1.index.right.refs,a.1.index.right.users⟩:Ck)⟩:A9),a.1.rows_⟩:AI) o rel typ).bind fun c=>some (c.1,c.2,0))
theorem wH {l:List AG}{o:Ae}{r:List ByteArray × Bool × Int}(H:VS n l rows_ o rel typ p=some r):AM Tryz.prog 22 [D.sl (List.map AS l),D.sl (List.map AE rows_),D.ag (DF o),D.v (.string rel),D.v (.string typ),D.ag (Cn p)] (D.tu [D.sl (List.map eS r.1),D.v (.bool r.2.1),D.v (.int .i64 r.2.2)]) true:=by
 unfold VS at H;refine zP #[.tmp 12,.tmp 13,.tmp 14] Tryz.func22 ?_;refine Ax ?_;refine AU (ZT 1 ?_);have⟨b,z,A⟩:=AP H;refine Z0 ?_;refine Tk (ku z) ?_;refine DQ ?_;refine Z0 ?_;obtain⟨d,i⟩ |⟨d,i⟩:=Ah A
 ·refine Z1 d ?_;cases i;exact As
 refine Z1 d ?_;refine AU ?_;refine EJ i (fun f h j g=>⟨kp [8,9,10,11] f (upd 15 (.pt 4 0) (upd 17 (AW 5 g (List.map eS j)) AJ)),kh [0,1,2,3] h (upd 4 (some (.bx [.d (.pt [.pt [.mp (A7 Value.string false eI b.1.schema.types),.mp (A7 qa_ true Al b.1.schema.rels),.mp (A7 qa_ false eI b.1.schema.ranks)] 0,.pt [.mp (A7 Em false (eL AR) b.1.index.left.subs),.mp (A7 Value.string false (eL eS) b.1.index.left.objs),.mp (A7 FD false (eL AF) b.1.index.right.refs),.mp (A7 Value.string false (eL eS) b.1.index.right.users)] 0,.sl (List.map AE b.1.rows_)] 0) true])) (upd 5 (Am 1 g false (List.map eS j)) AK)),6⟩) (fun L B w=> ?_) fun j g w=> ?_
 ·refine ZT 1 ?_;have⟨c,x,C⟩:=AP B;refine Z0 ?_;obtain⟨a,H10⟩ |⟨a,H10⟩:=Ah C
  ·refine Z1 a ?_;refine IP (ids':=[]) (v:=.v (.slice none 0 0)) (δ:=[]) (nx':=54) (fun k _=>AT.mono (xJ x a) fun q t u e=>e) ?_;refine Z1 a ?_;refine IP (ids':=[]) (v:=.v (.slice none 0 0)) (δ:=[]) (nx':=58) (fun k _=>AT.mono Qu fun q t u e=>e) ?_;refine Dj a ?_;cases H10;exact⟨0,ZR [(0,0),(1,1),(2,2),(3,3),(4,17)]⟩
  have E:0<c.length:=by have:=of_decide_eq_false a;omega
  refine Z1 a ?_;refine IP (ids':=[]) (v:=.so 48 2 0 c.length) (δ:=[(48,.rw (List.map eS c) 1 2 false false)]) (nx':=57) (fun k _=>AT.mono (xI x E) fun q t u e=>e) ?_;refine Z1 a ?_;have⟨F,H22⟩:=Dv H10;have y:c.length<=4294967296:=of_decide_eq_true F;refine IP (ids':=[48]) (v:=.so 60 1 0 c.length) (δ:=[(60,.rw (List.map eS c) 1 1 false false)]) (nx':=64) (fun k G=>AT.mono (Qv ((G.1 48 (by simp)).trans (by first |rfl |(simp -implicitDefEqProofs only[go_sem,Nat.reduceEqDiff,reduceCtorEq, ↓reduceIte];done))) (by decide) y) fun q t u e=>e) ?_;have I:=Y2 a y;refine Dj I ?_;cases H22;exact⟨1,ZR [(0,0),(1,1),(2,2),(3,3),(4,17),(5,60)]⟩
 refine ZT 1 ?_;have⟨M,J,H28⟩:=AP w;refine Z0 ?_;refine Tk (wG J) ?_;refine Z0 ?_;cases H28;exact As
theorem yp (h:l.length<=4294967296):Y8 n l=some (tO.ofL l):=if_pos h
section
variable {K α:Type}[BEq K][LawfulBEq K]
theorem de (k k':K)(a:List α):∀b:List (K × List α),qf_ k [] (Az k' a b)=if k==k' then qf_ k [] b++a else qf_ k [] b
 |[]=>by
  cases h:(k==k')<;>simp[Az,qf_,mget,h]
 |p::r=>by
  have c:=de k k' a r;grind [Az,qf_,mget]
omit [LawfulBEq K] in
theorem oJ (k:K)(a:List α):∀b:List (K × List α),(Az k a b).length<=b.length+1
 |[]=>by simp[Az]
 |p::r=>by
  have c:=oJ k a r;unfold Az;split<;>simp <;>omega
structure small (m:Nat) (es:List (K × List α)):Prop where
 l:es.length<=m
 g:∀k,(qf_ k [] es).length<=m
theorem small.add {es:List (K × List α)}(h:small m es)(k:K)(y:α):small (m+1) (Az k [y] es):=⟨Lq (oJ k [y] es) (Nat.add_le_add_right h.l 1),fun a=>by
 rw[de]
 have:=h.g a;grind⟩
omit [LawfulBEq K] in
theorem small.up {a:Nat}{es:List (K × List α)}(h:small m es)(k:m<=a):small a es:=⟨Lq h.l k,fun x=>Lq (h.g x) k⟩
omit [LawfulBEq K] in
theorem MZ {m:Nat}:small m ([]:List (K × List α)):=⟨Lf _,fun _=>Lf _⟩
omit [LawfulBEq K] in
theorem small.fam {es:List (K × List α)}(h:small m es)(a:m<4294967296)(k:K):FT k es=true:=by
 have b:=h.l;have c:=h.g k;simp only[FT,Lm,decide_eq_true_eq];omega
omit [LawfulBEq K] in
theorem small.dec {es:List (K × List α)}(h:small m es)(a:m<=4294967296):decide (es.length<=4294967296)=true:=decide_eq_true (Lq h.l a)
theorem ZJ {b:Type}(c:b->K)(d:b->α)(k:K):∀(l:List b) (a:List (K × List α)),qf_ k [] (l.foldl (fun a t=>Az (c t) [d t] a) a)=qf_ k [] a++(l.filter fun t=>k==c t).map d
 |[],a=>by simp
 |t::r,a=>by
  rw[Bm,ZJ c d k r,de,BR];split<;>simp
theorem WY {b:Type}(c:b->K)(d:b->α):∀(l:List b) (m:Nat) (a:List (K × List α)),small m a->small (m+l.length) (l.foldl (fun a t=>Az (c t) [d t] a) a)
 |[],m,a,h=>h
 |t::r,m,a,h=>by
  have:=WY c d r (m+1) _ (h.add (c t) (d t));grind
end
theorem GD {a:Type}{c:Bool}{k:Option a}(h:c=true):Cy c k=k:=by
 unfold Cy;rw[if_pos h]
theorem oL {a:Type}(x:List a)(h:x.length<=4294967296):(if (decide (x.length=0)) then some [] else Cy (decide (x.length<=4294967296))<|some x)=some x:=by
 by_cases b:x.length=0
 ·grind
 rw[decide_eq_false b,if_neg (by decide),decide_eq_true h];rfl
def kR (t:AC):AB:=⟨t.obj,t.rel⟩
def GX (t:AC):Bool:=decide (t.sub_.rel={ data:= #[] })
def To (l:List AC)(es:List (AB × List AL)):List (AB × List AL):=l.foldl (fun es t=>Az (kR t) [t.sub_] es) es
def Tp (l:List AC)(es:List (ByteArray × List ByteArray)):List (ByteArray × List ByteArray):=l.foldl (fun es t=>Az t.obj.type_ [t.obj.id_] es) es
def Hr (l:List AC)(es:List (AL × List AB)):List (AL × List AB):=l.foldl (fun es t=>Az t.sub_ [kR t] es) es
def Tq (l:List AC)(es:List (ByteArray × List ByteArray)):List (ByteArray × List ByteArray):=(l.filter GX).foldl (fun es t=>Az t.sub_.type_ [t.sub_.id_] es) es
theorem yr {j:List AC}{t:AC}{a:List (AB × List AL)}{b:List (ByteArray × List ByteArray)}{c:List (AL × List AB)}{d:List (ByteArray × List ByteArray)}(e:small m a)(f:small m b)(g:small m c)(h:small m d)(v:m+1<4294967296)(k):
  Wk n j (a,b,c,d) t k=k (Az (kR t) [t.sub_] a,Az t.obj.type_ [t.obj.id_] b,Az t.sub_ [kR t] c,if GX t then Az t.sub_.type_ [t.sub_.id_] d else d):=by
 have o:decide ((Az (⟨t.obj,t.rel⟩:AB) [t.sub_] a).length<=4294967296)=true:=(e.add (kR t) t.sub_).dec (by omega);have i:=(f.add t.obj.type_ t.obj.id_).dec (by omega);have q:decide ((Az t.sub_ [(⟨t.obj,t.rel⟩:AB)] c).length<=4294967296)=true:=(g.add t.sub_ (kR t)).dec (by omega);have u:=(h.add t.sub_.type_ t.sub_.id_).dec (by omega);unfold Wk;dsimp only;rw[GD (e.dec (by omega)),GD (f.dec (by omega)),GD (g.dec (by omega)),GD (h.dec (by omega)),GD (e.fam (by omega) _),Zo,GD o,GD (g.fam (by omega) _),Zo,GD q,GD (f.fam (by omega) _),Zo,DH,GD i,GD i];unfold GX kR;cases decide (t.sub_.rel={ data:= #[] })
 ·rfl
 rw[if_pos rfl,if_pos rfl,GD (h.fam (by omega) _),Zo,GD u]
theorem oM (n:Nat)(f:List AC):∀(l:List AC) (m:Nat) (a:List (AB × List AL)) (b:List (ByteArray × List ByteArray)) (c:List (AL × List AB)) (d:List (ByteArray × List ByteArray)),small m a->small m b->small m c->small m d->m+l.length<4294967296->
  DP (Wk n f) (Wl n f) l (a,b,c,d)=some (To l a,Tp l b,Hr l c,Tq l d)
 |[],m,a,b,c,d,g,h,i,e,j=>by
  rw[LB] at j;show Wl n f (a,b,c,d)=_;unfold Wl;dsimp only;rw[GD (g.dec (by omega)),GD (h.dec (by omega)),GD (i.dec (by omega)),GD (e.dec (by omega))];rfl
 |t::r,m,a,b,c,d,g,h,i,e,j=>by
  rw[Ll] at j;have k:small (m+1) (if GX t then Az t.sub_.type_ [t.sub_.id_] d else d):=by
   split
   ·exact e.add _ _
   exact e.up (Bj m)
  rw[DP,yr g h i e (by omega),oM n f r (m+1) _ _ _ _ (g.add _ _) (h.add _ _) (i.add _ _) k (by omega)];unfold To Tp Hr Tq;grind
def EA (l:List AC):A9:=⟨⟨To (tO.ofL l) [],Tp (tO.ofL l) []⟩,⟨Hr (tO.ofL l) [],Tq (tO.ofL l) []⟩⟩
theorem yt (h:l.length<=1000000)(hn:1000000<n):Wm n l=some (EA l):=by
 have hl:=I0 tO l;have f:=fun{K α:Type} [BEq K]=>@MZ K α _ 0;have a:Tv n (tO.ofL l) n (([]:List (AB × List AL)),([]:List (ByteArray × List ByteArray)),([]:List (AL × List AB)),([]:List (ByteArray × List ByteArray)),0)=_:=zL n (tO.ofL l) (by omega) n ([],[],[],[]) 0 (by omega) (by omega)
 rw[LD,oM n _ _ 0 [] [] [] [] MZ MZ MZ MZ (by omega)] at a;have b:small (0+(tO.ofL l).length) (To (tO.ofL l) []):=WY _ _ _ 0 [] MZ;have c:small (0+(tO.ofL l).length) (Tp (tO.ofL l) []):=WY _ _ _ 0 [] MZ;have d:small (0+(tO.ofL l).length) (Hr (tO.ofL l) []):=WY _ _ _ 0 [] MZ;have e:small (0+((tO.ofL l).filter GX).length) (Tq (tO.ofL l) []):=WY _ _ _ 0 [] MZ;have g:((tO.ofL l).filter GX).length<=(tO.ofL l).length:=LM _ _;unfold Wm;rw[yp (by omega),Zo,a,Zo];dsimp only;rw[GD (b.dec (by omega)),GD (c.dec (by omega)),GD (d.dec (by omega)),GD (e.dec (by omega))];rfl
def EX (s:List AC)(o:Ae)(rel:ByteArray):List AL:=(s.filter fun t=>(⟨o,rel⟩:AB)==kR t).map (·.sub_)
def Rn (s:List AC)(x:ByteArray):List ByteArray:=(s.filter fun t=>x==t.obj.type_).map (·.obj.id_)
def Pp (s:List AC)(x:ByteArray):List ByteArray:=((s.filter GX).filter fun t=>x==t.sub_.type_).map (·.sub_.id_)
theorem yu (s:List AC)(o:Ae)(rel:ByteArray):qf_ (⟨o,rel⟩:AB) [] (To s [])=EX s o rel:=by
 unfold To EX;rw[ZJ];rfl
theorem yv (s:List AC)(x:ByteArray):qf_ x [] (Tp s [])=Rn s x:=by
 unfold Tp Rn;rw[ZJ];rfl
theorem yw (s:List AC)(x:ByteArray):qf_ x [] (Tq s [])=Pp s x:=by
 unfold Tq Pp;rw[ZJ];rfl
theorem dg (s:List AC)(o:Ae)(rel:ByteArray):(EX s o rel).length<=s.length:=by unfold EX;grind
theorem oO (s:List AC)(x:ByteArray):(Rn s x).length<=s.length:=by unfold Rn;grind
theorem cG (x y:AL):((x.type_==y.type_)&&((x.id_==y.id_)&&(x.rel==y.rel)))=decide (x=y):=by
 have⟨a,b,c⟩:=x;have⟨d,e,f⟩:=y;rw[LY];simp
theorem cH {l:List AL}{v:AL}(hn:l.length<n)(c:l.length<4611686018427387904):RZ n l v=some (decide (v∈l)):=by
 have⟨r,b,a⟩:=me (L:=Y9 n l v) (P:=fun x=>some ((v.type_==x.type_)&&((v.id_==x.id_)&&(v.rel==x.rel)))) (fun x=>decide (v=x)) (fun _ _=>rfl) (fun x _=>by rw[cG]) c n 0 (Lf _) (by omega);have b:Y9 n l v n 0=some r:=b;unfold RZ ZA;rw[b,Zo];rw[LD] at a;have e:l.any (fun x=>decide (v=x))=decide (v∈l):=by
  rw[LY];simp
 rcases a with⟨a,k,rfl⟩ |⟨a,rfl⟩
 ·rw[<-e,a];simp
 rw[<-e,a];rfl
theorem YW (hl:l.length<=1000000)(o:Ae)(rel:ByteArray):Pl n (EA l).left o rel=some (EX (tO.ofL l) o rel):=by
 have a:qf_ (⟨o,rel⟩:AB) [] (EA l).left.subs=EX (tO.ofL l) o rel:=yu (tO.ofL l) o rel;have b:=dg (tO.ofL l) o rel;have c:=I0 tO l;unfold Pl;rw[a];cases d:Ay (⟨o,rel⟩:AB) (EA l).left.subs with
 |true=>
  rw[if_pos rfl];exact oL _ (by omega)
 |false=>
  simp_all [if_neg,Ay,qf_,mget,EA]
def VZ (s:AL):AB:=⟨⟨s.type_,s.id_⟩,s.rel⟩
def G3 (l:List AL):List AB:=(l.filter fun s=>decide (s.rel≠{ data:= #[] })).map VZ
theorem cI (n:Nat)(t:List AL):∀(l:List AL) (a:List AB),a.length+l.length<=4294967296->DP (WR n t) (dP n t) l a=some (a++G3 l)
 |[],a,_=>by
  show some a=_;simp[G3]
 |x::l,a,h=>by
  simp only[Ll] at h;have b:∀k:List AB->Option (List AB),WR n t a x k=if decide (x.rel={ data:= #[] }) then k a else(Cu a [VZ x]).bind k:=fun k=>by
   unfold WR;dsimp only;rw[DH];rfl
  rw[DP,b];by_cases e:x.rel={ data:= #[] }
  ·rw[decide_eq_true e,if_pos rfl,cI n t l a (by omega)];simp[G3,e]
  rw[decide_eq_false e,if_neg (by decide),C6 (by grind),Zo,cI n t l _ (by grind)];simp[G3,e]
theorem wV {sc:AD}{r0:List AC}(hl:l.length<=1000000)(hn:1000000<n)(r:AB)(b:(qf_ (⟨r.obj.type_,r.rel⟩:AA) (⟨ByteArray.empty,[],[]⟩:AZ) sc.rels).expr= []):RY n ⟨sc,EA l,r0⟩ r=some (G3 (EX (tO.ofL l) r.obj r.rel)):=by
 obtain⟨m,rfl⟩:∃m,n=m+1:=⟨n-1,by omega⟩;have d:=dg (tO.ofL l) r.obj r.rel;have e:=I0 tO l;have a:Tj (m+1) (EX (tO.ofL l) r.obj r.rel) (m+1) (([]:List AB),0)=_:=yR (m+1) (EX (tO.ofL l) r.obj r.rel) (by omega) (m+1) [] 0 (by omega) (by omega);rw[LD,cI _ _ _ _ (by simp only[LB];omega)] at a;unfold RY Gs;rw[Zo];unfold Kg;dsimp only;rw[b];have c:decide ((0:Int)<(([]:List AX).length:Int))=false:=by decide
 rw[c,if_neg (by decide),Zo,if_neg (by decide),YW hl,Zo,a];rfl
theorem Va {o:Ae}:s∈EX (tO.ofL l) o rel↔∃t∈l,t.obj=o/\t.rel=rel/\t.sub_=s:=by
 unfold EX;rw[LL];constructor
 ·rintro⟨t,a,b⟩;have⟨c,d⟩:=LO.1 a;have e:=eq_of_beq d;simp only[kR,AB.mk.injEq] at e;exact⟨t,tO.mem_ofL.1 c,e.1.symm,e.2.symm,b⟩
 rintro⟨t,a,b,c,d⟩;refine⟨t,LO.2 ⟨tO.mem_ofL.2 a,?_⟩,d⟩;rw[<-b,<-c];exact beq_self_eq_true _
theorem lU {l:List AL}{d:AB}:d∈G3 l↔∃s∈l,s.rel≠{ data:= #[] }/\VZ s=d:=by
 unfold G3;grind
section
variable {n:Nat}{sc:AD}{l r0:List AC}(hl:l.length<=10000)(hn:1000000<n)
def Qz (l:List AC)(o:Ae)(x:AX):List AB:=(EX (tO.ofL l) o x.a).map fun s=>⟨⟨s.type_,s.id_⟩,x.b⟩
theorem KT (l:List AC)(o:Ae)(rel:ByteArray):(EX (tO.ofL l) o rel).length<=l.length:=Lq (dg _ _ _) (I0 tO l)
include hl hn in
theorem lV (o:Ae)(x:AX):Ti n ⟨sc,EA l,r0⟩ o x=some (Qz l o x):=by
 have f:=KT l o x.a;have e:∀(c:List AL) (b:List AL) (a:List AB),a.length+b.length<=4294967296->DP (dN n x c) (dO n x c) b a=some (a++b.map fun s=>⟨⟨s.type_,s.id_⟩,x.b⟩):=fun c b=>by
  induction b with
  |nil=>
   intro a _;show some a=_;simp
  |cons s r g=>
   intro a h;simp only[Ll] at h;rw[DP];show(Cu a [(⟨⟨s.type_,s.id_⟩,x.b⟩:AB)]).bind _=_;grind [C6,List.length_singleton,Zo,List.length_append]
 have d:WQ n x (EX (tO.ofL l) o x.a) n (([]:List AB),0)=_:=yQ n x (EX (tO.ofL l) o x.a) (by omega) n [] 0 (by omega) (by omega);rw[LD,e _ _ _ (by simp only[LB];omega)] at d;unfold Ti;rw[YW (by omega),Zo,d];rfl
def Ez (l:List AC)(o:Ae)(x:AX):List AB:=if x.kind==1 then[⟨o,x.a⟩] else if x.kind==2 then Qz l o x else[]
def F8 (l:List AC)(o:Ae)(ex:List AX):List AB:=ex.flatMap (Ez l o)
theorem YX (l:List AC)(o:Ae)(x:AX):(Qz l o x).length<=l.length:=by unfold Qz;rw[Lt];exact KT l o x.a
include hl hn in
theorem lW {r:AB}{g:AZ}{b:Bool}(j:g.expr.length<=1000):∀(d i c:Nat) (t:List AB),d=g.expr.length-i->i<=g.expr.length->d<c->t.length<=10001*i->Kg n ⟨sc,EA l,r0⟩ r (g,b) c (t,(i:Int))=some (t++F8 l r.obj (g.expr.drop i))
 |0,i,c,t,k,o,q,u=>by
  obtain⟨c,rfl⟩:=sx c;unfold Kg;dsimp only;rw[DE,if_neg (by decide),LH (by omega)];simp[F8]
 |d+1,i,c,t,k,o,q,u=>by
  obtain⟨c,rfl⟩:=sx c;have f:i<g.expr.length:=by omega
  have a:=fun v h=>lW (r:=r) (b:=b) j d (i+1) c v (by omega) (by omega) (by omega) h;have w:F8 l r.obj (g.expr.drop i)=Ez l r.obj g.expr[i]++F8 l r.obj (g.expr.drop (i+1)):=by
   rw[Lj f];rfl
  unfold Kg;dsimp only;rw[DB,if_pos rfl,Mw,Le f,Zo,Ar,w];have x:=YX l r.obj g.expr[i];unfold Ez;split
  ·grind [C6,List.length_singleton,Zo,List.length_append,List.append_assoc]
  split
  ·rw[lV hl hn,Zo];by_cases e:t.length=0
   ·obtain rfl:=LV e;rw[decide_eq_true e,if_pos rfl,C6 (by simp only[LB];omega),Zo,a _ (by omega),LA]
   rw[decide_eq_false e,if_neg (by decide),C6 (by omega),Zo,a _ (by rw[Ld];omega),Lz]
  rw[a t (by omega),LA]
def Dn (sc:AD)(l:List AC)(r:AB):List AB:=if (qf_ (⟨r.obj.type_,r.rel⟩:AA) Ca sc.rels).expr= [] then G3 (EX (tO.ofL l) r.obj r.rel) else F8 l r.obj (qf_ (⟨r.obj.type_,r.rel⟩:AA) Ca sc.rels).expr
include hl hn in
theorem wW (b:GY sc)(r:AB):RY n ⟨sc,EA l,r0⟩ r=some (Dn sc l r):=by
 have c:=(G6 b ⟨r.obj.type_,r.rel⟩).2.1;unfold Dn;by_cases a:(qf_ (⟨r.obj.type_,r.rel⟩:AA) Ca sc.rels).expr= []
 ·rw[if_pos a];exact wV (by omega) hn r a
 rw[if_neg a];unfold RY;rw[Hy,Zo];have d:Kg n ⟨sc,EA l,r0⟩ r (qf_ (⟨r.obj.type_,r.rel⟩:AA) Ca sc.rels,Ay (⟨r.obj.type_,r.rel⟩:AA) sc.rels) n (([]:List AB),0)=_:=lW hl hn (by omega) _ 0 n [] rfl (Lf _) (by omega) (Lf _);simp_all
include hl hn in
theorem ua_ (a:GY sc)(r:AB):JC n ⟨sc,EA l,r0⟩ r=some (Cp sc.ranks ⟨r.obj.type_,r.rel⟩,Dn sc l r):=by
 unfold JC;rw[wW hl hn a];rfl
include hl hn in
theorem lX (o:Ae)(x:AX)(a:(x.kind==1||x.kind==2)=true):Re n ⟨sc,EA l,r0⟩ o x=some (Ez l o x):=by
 unfold Re Ez;split
 ·rfl
 rename_i h;rw[if_pos (by simpa [h] using a)];exact lV hl hn o x
include hl hn in
theorem cJ {o:Ae}{N:List PN}:∀(a:List AX) (c:List Bool),(∀d∈F8 l o a,(DJ d N).isSome=true)->c.length+a.length<=1000->∃b,Ht n ⟨sc,EA l,r0⟩ o N a c=some b
 |[],c,_,_=>⟨_,rfl⟩
 |x::a,c,f,j=>by
  simp only[Ll] at j;have k:∀d∈Ez l o x,(DJ d N).isSome=true:=fun d h=>f d (L8 _ h);have g:∀d∈F8 l o a,(DJ d N).isSome=true:=fun d h=>f d (Na _ h);unfold Ht Ts;by_cases e:(x.kind==1||x.kind==2)=true
  ·rw[if_pos e,lX hl hn o x e,Zo,if_pos]
   ·rw[Zo];exact cJ a _ g (by grind)
   have q:(Ez l o x).length<=10001:=by
    have:=YX l o x;unfold Ez;split
    ·simp
    split
    ·omega
    simp
   grind
  rw[if_neg e];by_cases i:c.length<2
  ·rw[if_pos i];exact⟨_,rfl⟩
  rw[if_neg i,Zo];exact cJ a _ g (by grind)
include hl hn in
theorem wX (e:GY sc){N:List PN}{r:AB}{x:PN}(f:DJ r N=some x)(g:x.deps=Dn sc l r)(i:∀d∈Dn sc l r,(DJ d N).isSome=true):∃b,FH n ⟨sc,EA l,r0⟩ s N r=some b:=by
 have j:=(G6 e ⟨r.obj.type_,r.rel⟩).2.1;have k:=KT l r.obj r.rel;unfold FH;rw[Hy,Zo];dsimp only;cases a:(qf_ (⟨r.obj.type_,r.rel⟩:AA) Ca sc.rels).expr.isEmpty with
 |true=>
  have c:=Oj.1 a;have o:(Dn sc l r).length<=10000:=by
   unfold Dn;rw[if_pos c];unfold G3;rw[Lt];exact Lq (LM _ _) (by omega)
  rw[if_pos rfl];unfold KC;rw[Hy,Zo];dsimp only;rw[a,if_pos rfl,YW (by omega),Zo,cH (by omega) (by omega),Zo,f,Zo,g,if_pos]
  ·exact⟨_,rfl⟩
  grind
 |false=>
  have c:(qf_ (⟨r.obj.type_,r.rel⟩:AA) Ca sc.rels).expr≠[]:=fun h=>by rw[h] at a;cases a
  rw[if_neg (by decide),ifp];refine cJ hl hn _ [] (fun d h=>i d ?_) (by simp only[LB];omega);unfold Dn;rw[if_neg c];exact h
end
end Go.Proofs.YtnmkbmefohakmaaGreat.Ab
