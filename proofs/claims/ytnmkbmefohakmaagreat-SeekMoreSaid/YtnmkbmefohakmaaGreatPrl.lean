/-
 A relation's reading, told as data: what it leaves is just the reader's box.
-/
import Derived.Test.YtnmkbmefohakmaaGreatA9a
import Derived.Test.YtnmkbmefohakmaaGreatA9b
import Derived.Test.YtnmkbmefohakmaaGreatA9c
import Derived.Test.YtnmkbmefohakmaaGreatA9d
set_option linter.all false
namespace Go.Proofs.YtnmkbmefohakmaaGreat.Ab
open Go.RowKit IntKind

theorem RX:AI Tryz.prog 14 [] (.v (.bool true)) true:=by
 refine Tf (tab:=tab) EO D7 Tryz.func14 rfl (by kernel_rfl) (by kernel_rfl) (by simp[Tryz.f14]) ?_;simp -implicitDefEqProofs only[go_sem,Int.reduceToNat,Int.reduceLT,Int.reduceLE,NE,NK,FZ,Nx,Int.reduceBEq,Int.reduceBNe,beq_self_eq_true,bne_self_eq_false,decide_true,decide_false,Nat.reduceLT,Nat.reduceBEq,Int.reduceEq,Nat.reduceEqDiff,Nat.reduceAdd,Nat.reduceSub,Nat.reduceMul,Nat.reduceLeDiff,reduceCtorEq, ↓reduceIte];refine Kx (by simp -implicitDefEqProofs only[go_sem,Int.reduceToNat,Int.reduceLT,Int.reduceLE,NE,NK,FZ,Nx,Int.reduceBEq,Int.reduceBNe,beq_self_eq_true,bne_self_eq_false,decide_true,decide_false,Nat.reduceLT,Nat.reduceBEq,Int.reduceEq,Nat.reduceEqDiff,Nat.reduceAdd,Nat.reduceSub,Nat.reduceMul,Nat.reduceLeDiff,reduceCtorEq, ↓reduceIte]<;>rfl) Pe (.inr rfl) ?_;simp -implicitDefEqProofs only[go_sem,Int.reduceToNat,Int.reduceLT,Int.reduceLE,NE,NK,FZ,Nx,Int.reduceBEq,Int.reduceBNe,beq_self_eq_true,bne_self_eq_false,decide_true,decide_false,Nat.reduceLT,Nat.reduceBEq,Int.reduceEq,Nat.reduceEqDiff,Nat.reduceAdd,Nat.reduceSub,Nat.reduceMul,Nat.reduceLeDiff,reduceCtorEq, ↓reduceIte];refine Kx (by simp -implicitDefEqProofs only[go_sem,Int.reduceToNat,Int.reduceLT,Int.reduceLE,NE,NK,FZ,Nx,Int.reduceBEq,Int.reduceBNe,beq_self_eq_true,bne_self_eq_false,decide_true,decide_false,Nat.reduceLT,Nat.reduceBEq,Int.reduceEq,Nat.reduceEqDiff,Nat.reduceAdd,Nat.reduceSub,Nat.reduceMul,Nat.reduceLeDiff,reduceCtorEq, ↓reduceIte]<;>rfl) TD (.inr rfl) ?_;simp -implicitDefEqProofs only[go_sem,Int.reduceToNat,Int.reduceLT,Int.reduceLE,NE,NK,FZ,Nx,Int.reduceBEq,Int.reduceBNe,beq_self_eq_true,bne_self_eq_false,decide_true,decide_false,Nat.reduceLT,Nat.reduceBEq,Int.reduceEq,Nat.reduceEqDiff,Nat.reduceAdd,Nat.reduceSub,Nat.reduceMul,Nat.reduceLeDiff,reduceCtorEq, ↓reduceIte];refine Kx (by simp -implicitDefEqProofs only[go_sem,Int.reduceToNat,Int.reduceLT,Int.reduceLE,NE,NK,FZ,Nx,Int.reduceBEq,Int.reduceBNe,beq_self_eq_true,bne_self_eq_false,decide_true,decide_false,Nat.reduceLT,Nat.reduceBEq,Int.reduceEq,Nat.reduceEqDiff,Nat.reduceAdd,Nat.reduceSub,Nat.reduceMul,Nat.reduceLeDiff,reduceCtorEq, ↓reduceIte]<;>rfl) YS (.inr rfl) ?_;simp -implicitDefEqProofs only[go_sem,Int.reduceToNat,Int.reduceLT,Int.reduceLE,NE,NK,FZ,Nx,Int.reduceBEq,Int.reduceBNe,beq_self_eq_true,bne_self_eq_false,decide_true,decide_false,Nat.reduceLT,Nat.reduceBEq,Int.reduceEq,Nat.reduceEqDiff,Nat.reduceAdd,Nat.reduceSub,Nat.reduceMul,Nat.reduceLeDiff,reduceCtorEq, ↓reduceIte];refine Kx (by simp -implicitDefEqProofs only[go_sem,Int.reduceToNat,Int.reduceLT,Int.reduceLE,NE,NK,FZ,Nx,Int.reduceBEq,Int.reduceBNe,beq_self_eq_true,bne_self_eq_false,decide_true,decide_false,Nat.reduceLT,Nat.reduceBEq,Int.reduceEq,Nat.reduceEqDiff,Nat.reduceAdd,Nat.reduceSub,Nat.reduceMul,Nat.reduceLeDiff,reduceCtorEq, ↓reduceIte]<;>rfl) YT (.inr rfl) ?_;simp -implicitDefEqProofs only[go_sem,Int.reduceToNat,Int.reduceLT,Int.reduceLE,NE,NK,FZ,Nx,Int.reduceBEq,Int.reduceBNe,beq_self_eq_true,bne_self_eq_false,decide_true,decide_false,Nat.reduceLT,Nat.reduceBEq,Int.reduceEq,Nat.reduceEqDiff,Nat.reduceAdd,Nat.reduceSub,Nat.reduceMul,Nat.reduceLeDiff,reduceCtorEq, ↓reduceIte];refine Kx (by simp -implicitDefEqProofs only[go_sem,Int.reduceToNat,Int.reduceLT,Int.reduceLE,NE,NK,FZ,Nx,Int.reduceBEq,Int.reduceBNe,beq_self_eq_true,bne_self_eq_false,decide_true,decide_false,Nat.reduceLT,Nat.reduceBEq,Int.reduceEq,Nat.reduceEqDiff,Nat.reduceAdd,Nat.reduceSub,Nat.reduceMul,Nat.reduceLeDiff,reduceCtorEq, ↓reduceIte]<;>rfl) YU (.inr rfl) ?_;simp -implicitDefEqProofs only[go_sem,Int.reduceToNat,Int.reduceLT,Int.reduceLE,NE,NK,FZ,Nx,Int.reduceBEq,Int.reduceBNe,beq_self_eq_true,bne_self_eq_false,decide_true,decide_false,Nat.reduceLT,Nat.reduceBEq,Int.reduceEq,Nat.reduceEqDiff,Nat.reduceAdd,Nat.reduceSub,Nat.reduceMul,Nat.reduceLeDiff,reduceCtorEq, ↓reduceIte];refine Kx (by simp -implicitDefEqProofs only[go_sem,Int.reduceToNat,Int.reduceLT,Int.reduceLE,NE,NK,FZ,Nx,Int.reduceBEq,Int.reduceBNe,beq_self_eq_true,bne_self_eq_false,decide_true,decide_false,Nat.reduceLT,Nat.reduceBEq,Int.reduceEq,Nat.reduceEqDiff,Nat.reduceAdd,Nat.reduceSub,Nat.reduceMul,Nat.reduceLeDiff,reduceCtorEq, ↓reduceIte]<;>rfl) YW (.inr rfl) ?_;simp -implicitDefEqProofs only[go_sem,Int.reduceToNat,Int.reduceLT,Int.reduceLE,NE,NK,FZ,Nx,Int.reduceBEq,Int.reduceBNe,beq_self_eq_true,bne_self_eq_false,decide_true,decide_false,Nat.reduceLT,Nat.reduceBEq,Int.reduceEq,Nat.reduceEqDiff,Nat.reduceAdd,Nat.reduceSub,Nat.reduceMul,Nat.reduceLeDiff,reduceCtorEq, ↓reduceIte];exact HT (by simp -implicitDefEqProofs only[go_sem,Int.reduceToNat,Int.reduceLT,Int.reduceLE,NE,NK,FZ,Nx,Int.reduceBEq,Int.reduceBNe,beq_self_eq_true,bne_self_eq_false,decide_true,decide_false,Nat.reduceLT,Nat.reduceBEq,Int.reduceEq,Nat.reduceEqDiff,Nat.reduceAdd,Nat.reduceSub,Nat.reduceMul,Nat.reduceLeDiff,reduceCtorEq, ↓reduceIte,Tryz.f14]<;>rfl) rfl (by simp[YX]) (fun _=>rfl)
def aN (_:Nat):Option Bool:=some true
theorem iR {n:Nat}{r:Bool}(H:aN n=some r):AI Tryz.prog 14 [] (D.v (.bool r)) true:=by
 cases H;exact RX
structure AG where
 to1:AA
 taken:Int
 deriving DecidableEq,Inhabited
abbrev AD (x:AG):List D:=[D.v (.string x.to1.typ),D.v (.string x.to1.rel),D.v (.int .i64 x.taken)]
theorem mr {hp:Hp}{nx k:Nat}(hk:k<=4294967296):AK Tryz.prog 182 [.v (.slice none 0 0),.v (.int .i64 (k:Int))] hp nx fun v hp2 nx2=>nx<=nx2/\(k=0->v= .v (.slice none 0 0)/\hp2=hp)/\(0<k->∃id es,nx<=id/\id<nx2/\v= .so id 0 0 0/\hp2=upd id (some (.rw es 3 0 false false)) hp):=by
 refine zq Tryz.func182 ?_;refine Az ?_;refine AW (AW ?_);refine ZT 1 ?_;have c1:(decide ((k:Int)<0))=false:=Cr;refine Z1 c1 ?_;refine DF (c:=false) rfl rfl ?_;refine AN ?_;refine AW (ZT 1 ?_);have e1:i64.wrap ((k:Int)-0)=(k:Int):=by rw[Int.sub_zero];exact Iv
 have e2:i64.wrap (0-0)=0:=by decide
 rcases BF k with h0 |h0
 ·have c2:(decide ((0:Int)<(k:Int)))=false:=Cr;refine Z1 (Y3 e1 e2 c2) ?_;refine Az ?_;refine AN ?_;exact⟨_,_,rfl,⟨fun _=>.inr rfl⟩,by dsimp only;omega,fun _=>⟨rfl,rfl⟩,fun h=>by omega⟩
 have c2:(decide ((0:Int)<(k:Int)))=true:=Cb;have e3:D8 (.v (.int .i64 (k:Int)))=some k:=by rw[Cx .i64 (by omega)];simp
 have g1:(0<k)=True:=eq_true h0;have g2:(k<=4294967296)=True:=eq_true hk;have e4:D8 (.v (.int .i64 0))=some 0:=rfl;have e5:∀id,GV tab id 201 3 (.v (.slice none 0 0)) (some k)=some (.so id 0 0 k,[(id,.rw (List.replicate k [.v (.string ByteArray.empty),.v (.string ByteArray.empty),.v (.int .i64 0)]) 3 0 false false)]):=fun id=>by
  have q1:(tab 3).kind= .int .i64:=by simp only[go_sem]
  have q2:(tab 201).kind= .slice:=by simp only[go_sem]
  have q3:(tab (tab 201).elem).ok=true:=by simp only[go_sem]
  have q4:(tab (tab 201).elem).size=3:=by simp only[go_sem]
  have q5:(tab (tab 201).elem).bytes<=32768:=by simp only[go_sem];decide
  have q6:(tab (tab 201).elem).zero.map D.v= [.v (.string ByteArray.empty),.v (.string ByteArray.empty),.v (.int .i64 0)]:=by simp only[go_sem]
  unfold GV;rw[q1];simp only;rw[if_pos ⟨q2,q3,by rw[q4];decide,q5,h0,hk⟩,q6,q4]
 refine Z1 (Y6 e1 e2 c2 e3 e4 e5) ?_;refine Az ?_;refine AN ?_;exact⟨_,_,rfl,⟨fun _=>.inr rfl⟩,by dsimp only;omega,fun h=>by omega,fun _=>⟨nx+1+2+8+2+5,_,by omega,by dsimp only;omega,rfl,rfl⟩⟩
theorem dJ {α:Type}{xss:List (List α)}{i:Nat}{x:List α}(h:xss[i]? =some x):(xss.take (i+1)).flatten=(xss.take i).flatten++x:=by
 rw[Bn,h];simp
def MW (_n:Nat)(xss:List (List AG)):Option (List AG):=if xss.length<=1000000/\xss.flatten.length<=4294967296 then some xss.flatten else none
theorem wE {n:Nat}{xss:List (List AG)}{r:List AG}(h:MW n xss=some r):AI Tryz.prog 167 [D.sl (xss.map (eL AD))] (D.sl (r.map AD)) true:=by
 unfold MW at h;split at h;rotate_left
 ·cases h
 rename_i hl;obtain⟨h1,h2⟩:=hl;cases h;refine zP #[.tmp 2] Tryz.func167 ?_;refine D3 ?_;refine ET ?_;refine EI (α:=Unit) (fun _=>⟨upd 0 (.d (.sl (xss.map (eL AD))) true) (upd 3 (.v (.int .i64 (xss.flatten.length:Int))) AQ),AS,0⟩) ?_ ?_
 ·refine CN ?_;refine DS (α:={ i:Nat // i<=xss.length }) (fun i=>⟨upd 0 (.d (.sl (xss.map (eL AD))) true) (upd 3 (.v (.int .i64 ((xss.take i.1).flatten.length:Int))) (upd 9 (.d (.sl (xss.map (eL AD))) true) (upd 10 (.v (.int .i64 (xss.length:Int))) (upd 11 (.v (.int .i64 (i.1:Int))) AQ)))),AS,0⟩) (fun i=>xss.length-i.1) ⟨0,Ll _⟩ ?_ ?_
  ·exact ZR []
  rintro⟨i,hi⟩;refine AW (ZT 1 ?_);by_cases hlt:i<xss.length
  ·have c1:(decide ((i:Int)<(xss.length:Int)))=true:=Cb;have e1:xss[i]? =some xss[i]:=Ld hlt;have e2:(xss.map (eL AD))[i]? =some [D.sl (xss[i].map AD)]:=Cs (eL AD) e1;have es:(xss.take (i+1)).flatten.length=(xss.take i).flatten.length+xss[i].length:=(by rw[dJ e1,Lf]);have et:(xss.take (i+1)).flatten.length<=xss.flatten.length:=by
    conv=>rhs;rw[<-LM (i+1) xss]
    rw[BX,Lf];omega
   refine Ck c1 ?_;refine Dj ?_;have w:=Y2 e2 (Y5 (Cx .i64 (show(0:Int)<=(i:Int) by omega)) (show((i:Int)).toNat=i from Lv _) (show i64.wrap (((xss.take i).flatten.length:Int)+(xss[i].length:Int))=((xss.take (i+1)).flatten.length:Int) by rw[Ej (by omega),es]) (show decide ((((xss.take (i+1)).flatten.length:Nat):Int)<0)=false from Cr) (As (n:=i)));refine Z1 w ?_;refine ZT 1 ?_;refine Z1 (As (n:=i)) ?_;exact⟨⟨i+1,hlt⟩,ZR [],by dsimp only;omega⟩
  have c1:(decide ((i:Int)<(xss.length:Int)))=false:=Cr;obtain rfl:i=xss.length:=by omega
  rw[Bx];refine Ck c1 ?_;refine Z0 ?_;exact⟨(),ZR []⟩
 rintro⟨⟩;refine Az ?_;refine CG ((mr h2).mono ?_);rintro v hp2 nx2 ⟨hle,g0,g1⟩;dsimp only at hle g0 g1;rcases BF xss.flatten.length with hz |hz
 ·obtain⟨rfl,rfl⟩:=g0 hz;have hnil:∀x∈xss,x= []:=fun x hx=>by
   have:=LW hz;exact List.flatten_eq_nil_iff.1 this x hx
  have hfl:xss.flatten= []:=LW hz;refine Z0 ?_;refine ET ?_;refine EI (α:=Nat) (fun k=>⟨upd 6 (.v (.slice none 0 0)) AQ,AS,k⟩) ?_ ?_
  ·refine CN ?_;refine DS (α:={ t:Nat × Nat // t.1<=xss.length }) (fun t=>⟨upd 6 (.v (.slice none 0 0)) (upd 25 (.d (.sl (xss.map (eL AD))) true) (upd 26 (.v (.int .i64 (xss.length:Int))) (upd 27 (.v (.int .i64 (t.1.1:Int))) AQ))),AS,t.1.2⟩) (fun t=>xss.length-t.1.1) ⟨(0,nx2+3),Ll _⟩ ?_ ?_
   ·exact CH
   rintro⟨⟨i,nxi⟩,hi⟩;dsimp only at hi;refine AW (ZT 1 ?_);by_cases hlt:i<xss.length
   ·have c1:(decide ((i:Int)<(xss.length:Int)))=true:=Cb;have e1:xss[i]? =some xss[i]:=Ld hlt;have e2:(xss.map (eL AD))[i]? =some [D.sl []]:=by
     have:=Cs (eL AD) e1;rw[hnil _ (NV hlt)] at this;exact this
    refine Ck c1 ?_;refine Dj ?_;have w:=Y2 e2 (Y2 (Cx .i64 (show(0:Int)<=(i:Int) by omega)) (show((i:Int)).toNat=i from Lv _));refine Z1 w ?_;refine ZT 1 ?_;refine Z1 (As (n:=i)) ?_;exact⟨⟨(i+1,_),hlt⟩,CH,by dsimp only;omega⟩
   have c1:(decide ((i:Int)<(xss.length:Int)))=false:=Cr;refine Ck c1 ?_;refine Z0 ?_;exact⟨_,CH⟩
  rintro nxj;refine Az ?_;refine AN ?_;rw[hfl];exact CC
 obtain⟨id,es,hi1,hi2,rfl,rfl⟩:=g1 hz;refine Z0 ?_;refine ET ?_;refine EI (α:={ t:Nat × List (List D) × Nat // t.2.1.take xss.flatten.length=xss.flatten.map AD }) (fun t=>⟨upd 6 (.so id t.1.1 0 xss.flatten.length) AQ,upd id (some (.rw t.1.2.1 3 t.1.1 false false)) AS,t.1.2.2⟩) ?_ ?_;rotate_left
 ·rintro⟨⟨ver,fs,nxj⟩,hf2⟩;dsimp only at hf2;refine Az ?_;refine AN ?_;refine HT (v:=.so id ver 0 xss.flatten.length) (b:=false) (is:=[id]) (by simp -implicitDefEqProofs only[go_sem, ↓reduceIte,Ah]<;>rfl) ?_ rfl fun _=>rfl;simp only[toR,EP,CS,Ah,if_true,Nt];rw[hf2]
 refine CN ?_;refine DS (α:={ t:Nat × Nat × List (List D) × Nat // t.1<=xss.length/\(xss.take t.1).flatten.length<=t.2.2.1.length/\t.2.2.1.take (xss.take t.1).flatten.length=(xss.take t.1).flatten.map AD }) (fun t=>⟨upd 6 (.so id t.1.2.1 0 (xss.take t.1.1).flatten.length) (upd 25 (.d (.sl (xss.map (eL AD))) true) (upd 26 (.v (.int .i64 (xss.length:Int))) (upd 27 (.v (.int .i64 (t.1.1:Int))) AQ))),upd id (some (.rw t.1.2.2.1 3 t.1.2.1 false false)) AS,t.1.2.2.2⟩) (fun t=>xss.length-t.1.1) ⟨(0,0,es,nx2+3),Ll _,Ll _,rfl⟩ ?_ ?_
 ·exact CH
 rintro⟨⟨i,ver,fs,nxi⟩,hi,hf1,hf2⟩;dsimp only at hi hf1 hf2;refine AW (ZT 1 ?_);by_cases hlt:i<xss.length
 ·have c1:(decide ((i:Int)<(xss.length:Int)))=true:=Cb;have e1:xss[i]? =some xss[i]:=Ld hlt;have e2:(xss.map (eL AD))[i]? =some [D.sl (xss[i].map AD)]:=Cs (eL AD) e1;have es2:(xss.take (i+1)).flatten.length=(xss.take i).flatten.length+xss[i].length:=by rw[dJ e1,Lf]
  have et:(xss.take (i+1)).flatten.length<=xss.flatten.length:=by
   conv=>rhs;rw[<-LM (i+1) xss]
   rw[BX,Lf];omega
  refine Ck c1 ?_;refine Dj ?_;have w:=Y2 e2 (Y5 (Cx .i64 (show(0:Int)<=(i:Int) by omega)) (show((i:Int)).toNat=i from Lv _) (show((xss.take i).flatten.length<=fs.length)=True from eq_true hf1) (show((xss.take (i+1)).flatten.length<=4294967296)=True from FB) (And.intro es2.symm <|And.intro (Wz (f:=AD) (fun _=>rfl) xss[i]) (show ED 3 (xss[i].map AD)=true by simp[ED])));refine Z1 w ?_;refine ZT 1 ?_;refine Z1 (As (n:=i)) ?_;refine⟨⟨(i+1,ver+1,fs.take (xss.take i).flatten.length++xss[i].map AD,nxi+1+3+4+2),hlt,?_,?_⟩,Fz (EL ..).symm C7,by dsimp only;omega⟩
  ·dsimp only;rw[es2,Lf,Lw,LC];omega
  dsimp only;rw[es2,hf2,dJ e1,<-Na];exact Ny (by rw[LC,Lf];exact Lc _)
 have c1:(decide ((i:Int)<(xss.length:Int)))=false:=Cr;obtain rfl:i=xss.length:=by omega
 rw[Bx] at hf1 hf2;refine Z1 (Y2 c1 (show xss.take xss.length=xss from Bx)) ?_;refine Az ?_;exact⟨⟨(ver,fs,_),hf2⟩,CH⟩
def S8 (n:Nat)(s:AC)(x:AY)(t18:Ac × Bool):Nat->Int->Option ((Unit) ⊕ Int)
 |0,_=>none
 |c+1,t30=>(if decide (t30<(t18.1.subs.length:Int)) then (C4 t18.1.subs t30).bind fun x3=>(Gm n s x3.type_ x.b).bind fun t402=>(if t402.2 then (if (x3.rel.toList==({ data:= #[] }:ByteArray).toList) then S8 n s x t18 c (i64.wrap (t30+1)) else some (.inr 13)) else some (.inr 13)) else some (.inl ()))
def S9 (n:Nat)(s:AC)(typ:ByteArray)(x:AY):Option Int:=(Gm n s typ x.a).bind fun t18=>(if t18.2 then (if ((t18.1.subs.length:Int)==0) then some 13 else (S8 n s x t18 n 0:Option ((Unit) ⊕ Int)).bind fun
    | .inl _=>some 0
    | .inr r=>some r) else some 12)
theorem wS {n:Nat}{s:AC}{typ:ByteArray}{x:AY}{r:Int}(H:S9 n s typ x=some r):AI Tryz.prog 113 [D.pt (Ap s) 0,D.v (.string typ),D.ag (Aj x)] (D.v (.int .i64 r)) true:=by
 unfold S9 at H;refine zP #[.tmp 6] Tryz.func113 ?_;refine Az ?_;refine AW (ZT 1 ?_);obtain⟨t18,b1,H2⟩:=AJ H;refine Z0 ?_;refine DB (Ka b1) ?_;refine Dj ?_;refine Z0 ?_;obtain⟨c3,H4⟩ |⟨c3,H4⟩:=CM H2;rotate_left
 ·refine Z1 c3 ?_;cases H4;exact CC
 refine MP c3 ?_;obtain⟨c5,H6⟩ |⟨c5,H6⟩:=CM H4
 ·refine Z1 (Y2 c3 c5) ?_;cases H6;exact CC
 have w137_:=Y2 c3 c5;refine Qy w137_ ?_;refine zi H6 (fun _ _ _=>⟨AQ,AS,0⟩) (fun e_ E7 H8=> ?_) fun _ H8=> ?_
 ·refine IX E7 (fun f h t30=>⟨kp [5,28,29] f (upd 0 (.d (.pt [.mp (CO Value.string false eI s.types),.mp (CO qb_ true Al s.rels),.mp (CO qb_ false eI s.ranks)] 0) true) (upd 30 (.v (.int .i64 t30)) AQ)),kh [0] h AS,1⟩) (ZR [(0,0)]) fun c t30 L9=> ?_
  refine AN ?_;obtain⟨c24,H25⟩ |⟨c24,H25⟩:=CM L9
  ·obtain⟨x3,h28,h29,h30,H27⟩:=zI AZ H25;obtain⟨t402,b32,H33⟩:=AJ H27;have w138_:=Y2 c24 h30;refine Z1 w138_ ?_;refine DB (Ka b32) ?_;refine Z1 w138_ ?_;obtain⟨w139_,H35⟩ |⟨w139_,H35⟩:=DU w138_ H33
   ·refine Z1 w139_ ?_;obtain⟨w140_,H37⟩ |⟨w140_,H37⟩:=DU w139_ H35
    ·refine Z1 w140_ ?_;exact⟨_,H37,ZR [(0,0)]⟩
    refine Z1 w140_ ?_;cases H37;cases H8;exact CC
   refine Z1 w139_ ?_;cases H35;cases H8;exact CC
  refine Z1 c24 ?_;cases H25;exact⟨_,rfl,ZR []⟩
 refine AN ?_;cases H8;exact CC
def qI_ (n:Nat)(c2:AC)(t2:Ac):Nat->Int->Option ((Unit) ⊕ Int)
 |0,_=>none
 |c+1,t19=>(if decide (t19<(t2.subs.length:Int)) then (C4 t2.subs t19).bind fun x2=>(Gm n c2 x2.type_ x2.rel).bind fun t292=>(if ((qg_ x2.type_ 0 c2.types)==0) then some (.inr 12) else (if (x2.rel.toList==({ data:= #[] }:ByteArray).toList) then qI_ n c2 t2 c (i64.wrap (t19+1)) else (if t292.2 then qI_ n c2 t2 c (i64.wrap (t19+1)) else some (.inr 12)))) else some (.inl ()))
def Vw (n:Nat)(c2:AC)(_:Ac)(st:Unit)(x2:AL)(k:Unit->Option ((Unit) ⊕ Int)):Option ((Unit) ⊕ Int):=
 match st with
 |_=>
  (Gm n c2 x2.type_ x2.rel).bind fun t292=>
  (if ((qg_ x2.type_ 0 c2.types)==0) then
   some (.inr 12)
  else
   (if (x2.rel.toList==({ data:= #[] }:ByteArray).toList) then
    k ()
   else
    (if t292.2 then
     k ()
    else
     some (.inr 12))))
def YP (_:Nat)(_:AC)(_:Ac)(st:Unit):Option ((Unit) ⊕ Int):=
 match st with
 |_=>some (.inl ())
theorem wT (n:Nat)(c2:AC)(t2:Ac)(hx:t2.subs.length<4611686018427387904)(c:Nat)(st:Unit)(ix:Nat)(hi:ix<=t2.subs.length)(hc:t2.subs.length-ix<c):qI_ n c2 t2 c (match st,(ix:Int) with |_,ix=>ix)=Eb (Vw n c2 t2) (YP n c2 t2) (t2.subs.drop ix) st:=
 Mq (fun c st ix=>qI_ n c2 t2 c (match st,ix with |_,ix=>ix)) t2.subs (Vw n c2 t2) (YP n c2 t2) (fun _ _ _=>rfl) hx c st ix hi hc
def qw_ (n:Nat)(c2:AC)(t1:ByteArray)(t2:Ac):Nat->Int->Option ((Unit) ⊕ Int)
 |0,_=>none
 |c+1,t53=>(if decide (t53<(t2.expr.length:Int)) then (C4 t2.expr t53).bind fun x4=>(if (x4.kind==2) then (S9 n c2 t1 x4).bind fun t632=>(if (t632 != 0) then some (.inr t632) else qw_ n c2 t1 t2 c (i64.wrap (t53+1))) else (Gm n c2 t1 x4.a).bind fun t722=>(if t722.2 then qw_ n c2 t1 t2 c (i64.wrap (t53+1)) else (if (x4.kind==1) then some (.inr 12) else qw_ n c2 t1 t2 c (i64.wrap (t53+1))))) else some (.inl ()))
def Vx (n:Nat)(c2:AC)(t1:ByteArray)(_:Ac)(st:Unit)(x4:AY)(k:Unit->Option ((Unit) ⊕ Int)):Option ((Unit) ⊕ Int):=
 match st with
 |_=>
  (if (x4.kind==2) then
   (S9 n c2 t1 x4).bind fun t632=>
   (if (t632 != 0) then
    some (.inr t632)
   else
    k ())
  else
   (Gm n c2 t1 x4.a).bind fun t722=>
   (if t722.2 then
    k ()
   else
    (if (x4.kind==1) then
     some (.inr 12)
    else
     k ())))
def YQ (_:Nat)(_:AC)(_:ByteArray)(_:Ac)(st:Unit):Option ((Unit) ⊕ Int):=
 match st with
 |_=>some (.inl ())
theorem wU (n:Nat)(c2:AC)(t1:ByteArray)(t2:Ac)(hx:t2.expr.length<4611686018427387904)(c:Nat)(st:Unit)(ix:Nat)(hi:ix<=t2.expr.length)(hc:t2.expr.length-ix<c):qw_ n c2 t1 t2 c (match st,(ix:Int) with |_,ix=>ix)=Eb (Vx n c2 t1 t2) (YQ n c2 t1 t2) (t2.expr.drop ix) st:=
 Mq (fun c st ix=>qw_ n c2 t1 t2 c (match st,ix with |_,ix=>ix)) t2.expr (Vx n c2 t1 t2) (YQ n c2 t1 t2) (fun _ _ _=>rfl) hx c st ix hi hc
def Vy (n:Nat)(c2:AC)(t1:ByteArray)(t2:Ac):Option Int:=
 (
  qI_ n c2 t2 n 0:Option ((Unit) ⊕ Int)).bind fun
  | .inl _=>
   (
    qw_ n c2 t1 t2 n 0:Option ((Unit) ⊕ Int)).bind fun
    | .inl _=>
     some 0
    | .inr r=>some r
  | .inr r=>some r
theorem wV {n:Nat}{c2:AC}{t1:ByteArray}{t2:Ac}{r:Int}(H:Vy n c2 t1 t2=some r):AI Tryz.prog 89 [D.pt (Ap c2) 0,D.v (.string t1),D.ag (Al t2)] (D.v (.int .i64 r)) true:=by
 unfold Vy at H;refine zP #[.tmp 6] Tryz.func89 ?_;refine Qx ?_;refine zi H (fun f h _=>⟨kp [1,5] f (upd 0 (.d (.pt [.mp (CO Value.string false eI c2.types),.mp (CO qb_ true Al c2.rels),.mp (CO qb_ false eI c2.ranks)] 0) true) AQ),kh [0] h AS,1⟩) (fun e_ E1 H2=> ?_) fun _ H2=> ?_
 ·refine IX E1 (fun f h t19=>⟨kp [1,5,17,18] f (upd 0 (.d (.pt [.mp (CO Value.string false eI c2.types),.mp (CO qb_ true Al c2.rels),.mp (CO qb_ false eI c2.ranks)] 0) true) (upd 19 (.v (.int .i64 t19)) AQ)),kh [0] h AS,1⟩) (ZR [(0,0)]) fun c t19 L3=> ?_
  refine AN ?_;obtain⟨c21,H22⟩ |⟨c21,H22⟩:=CM L3;rotate_left
  ·refine Z1 c21 ?_;cases H22;exact⟨_,rfl,ZR [(0,0)]⟩
  obtain⟨x2,h25,h26,h27,H24⟩:=zI AZ H22;obtain⟨t292,b29,H30⟩:=AJ H24;have w141_:=Y2 c21 h27;refine Z1 w141_ ?_;refine DB (Ka b29) ?_;have h31:EM (false,[.string]) (.string x2.type_) (.v (.int .i64 0)) false (Et true (CO Value.string false eI c2.types))=some (.v (.int .i64 (qg_ x2.type_ 0 c2.types)),[]):=HU (b:=true) (ag:=false) (enc:=eI) UR x2.type_ (0:Int) false c2.types;have w142_:=Y2 w141_ h31;refine Z1 w142_ ?_;obtain⟨w143_,H33⟩ |⟨w143_,H33⟩:=DU w142_ H30
  ·refine GU w143_ ?_;cases H33;cases H2;exact CC
  refine Z1 w143_ ?_;obtain⟨w144_,H35⟩ |⟨w144_,H35⟩:=DU w143_ H33
  ·refine GU w144_ ?_;exact⟨_,H35,ZR [(0,0)]⟩
  refine GU w144_ ?_;obtain⟨w145_,H37⟩ |⟨w145_,H37⟩:=DU w144_ H35
  ·refine Z1 w145_ ?_;exact⟨_,H37,ZR [(0,0)]⟩
  refine Z1 w145_ ?_;cases H37;cases H2;exact CC
 refine ET ?_;refine zi H2 (fun _ _ _=>⟨AQ,AS,0⟩) (fun e_2 E38 H39=> ?_) fun _ H39=> ?_;rotate_left
 ·refine AN ?_;cases H39;exact CC
 refine IX E38 (fun f _ t53=>⟨kp [1,51,52] f (upd 0 (.d (.pt [.mp (CO Value.string false eI c2.types),.mp (CO qb_ true Al c2.rels),.mp (CO qb_ false eI c2.ranks)] 0) true) (upd 53 (.v (.int .i64 t53)) AQ)),AS,0⟩) (ZR []) fun c t53 L40=> ?_
 refine AN ?_;obtain⟨c61,H62⟩ |⟨c61,H62⟩:=CM L40;rotate_left
 ·refine Z1 c61 ?_;cases H62;exact⟨_,rfl,ZR []⟩
 obtain⟨x4,h65,h66,h67,H64⟩:=zI Aj H62;have w146_:=Y2 c61 h67;refine Z1 w146_ ?_;obtain⟨w147_,H70⟩ |⟨w147_,H70⟩:=DU w146_ H64
 ·obtain⟨t632,b71,H72⟩:=AJ H70;refine Z1 w147_ ?_;refine DB (wS b71) ?_;refine Z1 w147_ ?_;obtain⟨w148_,H74⟩ |⟨w148_,H74⟩:=DU w147_ H72
  ·refine Z1 w148_ ?_;cases H74;cases H39;exact CC
  refine Z1 w148_ ?_;exact⟨_,H74,ZR []⟩
 obtain⟨t722,b75,H76⟩:=AJ H70;refine Z1 w147_ ?_;refine DB (Ka b75) ?_;refine Z1 w147_ ?_;obtain⟨w149_,H78⟩ |⟨w149_,H78⟩:=DU w147_ H76
 ·refine Z1 w149_ ?_;exact⟨_,H78,ZR []⟩
 refine Z1 w149_ ?_;obtain⟨w150_,H80⟩ |⟨w150_,H80⟩:=DU w149_ H78
 ·refine Z1 w150_ ?_;cases H80;cases H39;exact CC
 refine Z1 w150_ ?_;exact⟨_,H80,ZR []⟩
def TA (n:Nat)(x:AY)(t26:Ac × Bool):Nat->(List AG × Int)->Option (List AG)
 |0,_=>none
 |c+1,(out,t32)=>(if decide (t32<(t26.1.subs.length:Int)) then (C4 t26.1.subs t32).bind fun x3=>(EA out [(⟨(⟨x3.type_,x.b⟩:AA),0⟩:AG)]).bind fun l=>TA n x t26 c (l,(i64.wrap (t32+1))) else some out)
def TB (n:Nat)(s:AC)(typ:ByteArray)(x:AY):Option (List AG):=(if (x.kind==1) then some [(⟨(⟨typ,x.a⟩:AA),0⟩:AG)] else (Gm n s typ x.a).bind fun t26=>(TA n x t26 n ([],0):Option (List AG)).bind fun out3=>some out3)
theorem wW {n:Nat}{s:AC}{typ:ByteArray}{x:AY}{r:List AG}(H:TB n s typ x=some r):AI Tryz.prog 165 [D.pt (Ap s) 0,D.v (.string typ),D.ag (Aj x)] (D.sl (List.map AD r)) true:=by
 unfold TB at H;refine zP #[.tmp 6] Tryz.func165 ?_;refine D3 ?_;obtain⟨c1,H2⟩ |⟨c1,H2⟩:=CM H
 ·refine Z1 c1 ?_;cases H2;exact bi c1
 refine MP c1 ?_;refine AW (ZT 1 ?_);obtain⟨t26,b3,H4⟩:=AJ H2;refine Z1 c1 ?_;refine DB (Ka b3) ?_;refine Qy c1 ?_;refine GT H4 (fun _ _ out3 g3=>⟨upd 7 (Aa 0 g3 (List.map AD out3)) AQ,upd 0 (CD 3 g3 false (List.map AD out3)) AS,1⟩) (fun e_ E5 H6=> ?_) fun out3 g3 H6=> ?_
 ·refine Ft E5 (fun f h (out,t32) g=>⟨kp [5,30,31] f (upd 7 (Aa 1 g (List.map AD out)) (upd 32 (.v (.int .i64 t32)) AQ)),kh [0] h (upd 1 (CD 3 g false (List.map AD out)) AS),2⟩) 0 (ZR [(0,0)]) fun c ⟨out,t32⟩ g L7=> ?_
  refine AN ?_;obtain⟨c16,H17⟩ |⟨c16,H17⟩:=CM L7
  ·obtain⟨x3,h20,h21,h22,H19⟩:=zI AZ H17;obtain⟨l,b24,H25⟩:=AJ H19;obtain⟨h26,h27⟩:=G7 b24;have h26:out.length+1<=4294967296:=h26;have h28:List.map AD out++[[.v (.string x3.type_),.v (.string x.b),.v (.int .i64 0)]]=List.map AD l:=GX AD h27;have h29:out.length+1=l.length:=GY h27;have h30:l.length<=4294967296:=(by omega);have q31:0<l.length:=(by omega);refine Z1 (Y6 c16 h22 h26 h28 h29 h30) ?_;rcases out with _ |⟨q0,q1⟩
   ·try simp only[LD,Cw,C8]
    exact⟨_,0,H25,ZR [(0,0),(1,15)]⟩
   try simp only[Lk,Cw,C8]
   exact⟨_,(g+1),H25,ZR [(0,0),(1,1)]⟩
  refine Z1 c16 ?_;cases H17;exact⟨g,ZR [(0,1)]⟩
 refine AN ?_;cases H6;exact CC
theorem dX (xs:List AG)(h:decide (xs.length=0)=true):AI Tryz.prog 166 [.sl (List.map AD xs)] (.sl []) true:=by
 rw[LW (of_decide_eq_true h)];exact SN EO D7 Tryz.func166 (T:=201) (B:=4) rfl (by kernel_rfl) (by kernel_rfl) (by decide) rfl (by simp only[go_sem]) (by simp only[go_sem]) (by simp only[go_sem];decide) (by simp only[go_sem];decide)
theorem dY (xs:List AG)(h0:0<xs.length)(hn:xs.length<=4294967296){b:Bool}{hp:Hp}{nx:Nat}:AK Tryz.prog 166 [.d (.sl (List.map AD xs)) b] hp nx fun v hp2 nx2=>v= .so (nx+3) 1 0 xs.length/\hp2=upd (nx+3) (some (.rw (List.map AD xs) 3 1 false false)) hp/\nx2=nx+7:=by
 have h:=Z2 (e:=AD) (k:=3) (b:=b) (hp:=hp) (nx:=nx) EO D7 Tryz.func166 (T:=201) (B:=4) rfl (by kernel_rfl) (by kernel_rfl) (by decide) rfl (by simp only[go_sem]) (by simp only[go_sem]) (by simp only[go_sem]) (by decide) (by simp only[go_sem];decide) (fun _=>rfl) xs h0 hn;rw[Wz (f:=AD) (fun _=>rfl),BQ,ND] at h;exact h
def nY (_:Nat):Nat->Unit->Option (Unit)
 |0,_=>none
 |_+1,_=>some ()
def Pc (n:Nat)(x2:AY)(x3:List AG):Nat->(List AG × Int)->Option (List AG)
 |0,_=>none
 |c+1,(t11,t48)=>(if decide (t48<(x3.length:Int)) then (if (x2.kind==4) then (C4 t11 t48).bind fun x6=>(some (List.set t11 (Int.toNat t48) (⟨x6.to1,1⟩:AG))).bind fun l5=>Pc n x2 x3 c (l5,(i64.wrap (t48+1))) else Pc n x2 x3 c (t11,(i64.wrap (t48+1)))) else some t11)
def Pd (n:Nat)(c2:AC)(t1:ByteArray)(t2:List AY):Nat->(List (List AG) × Int)->Option (List (List AG))
 |0,_=>none
 |c+1,(t7,t15)=>(if decide (t15<(t2.length:Int)) then (C4 t2 t15).bind fun x2=>((if (x2.kind==1) then some true else some (x2.kind==2)):Option (Bool)).bind fun t212=>(if t212 then (TB n c2 t1 x2).bind fun t342=>(EA t7 [t342]).bind fun l=>Pd n c2 t1 t2 c (l,(i64.wrap (t15+1))) else (if decide (2<=(t7.length:Int)) then (C4 t7 (i64.wrap ((t7.length:Int)-1))).bind fun x3=>(if decide (x3.length=0) then (nY n n ():Option (Unit)).bind fun _=>(G6 t7 0 (i64.wrap ((t7.length:Int)-2))).bind fun l2=>(C4 t7 (i64.wrap ((t7.length:Int)-2))).bind fun x4=>(if decide (x4.length=0) then none else DD (decide (x4.length<=4294967296))<| (EA l2 [x4]).bind fun l3=>Pd n c2 t1 t2 c (l3,(i64.wrap (t15+1)))) else DD (decide (x3.length<=4294967296))<| (Pc n x2 x3 n (x3,0):Option (List AG)).bind fun t113=>(G6 t7 0 (i64.wrap ((t7.length:Int)-2))).bind fun l6=>(C4 t7 (i64.wrap ((t7.length:Int)-2))).bind fun x7=>(if decide (x7.length=0) then none else DD (decide (x7.length<=4294967296))<| (EA x7 t113).bind fun l7=>(EA l6 [l7]).bind fun l8=>Pd n c2 t1 t2 c (l8,(i64.wrap (t15+1))))) else Pd n c2 t1 t2 c (t7,(i64.wrap (t15+1))))) else some t7)
def Vz (n:Nat)(c2:AC)(t1:ByteArray)(_:List AY)(st:List (List AG))(x2:AY)(k:List (List AG)->Option (List (List AG))):Option (List (List AG)):=
 match st with
 |t7=>
  (
   (if (x2.kind==1) then
    some true
   else
    some (x2.kind==2)):Option (Bool)).bind fun t212=>
  (if t212 then
   (TB n c2 t1 x2).bind fun t342=>
   (EA t7 [t342]).bind fun l=>
   k l
  else
   (if (decide (2<=(t7.length:Int))) then
    (C4 t7 (i64.wrap ((t7.length:Int)-1))).bind fun x3=>
    (if (decide (x3.length=0)) then
     (
      nY n n ():Option (Unit)).bind fun _=>
     (G6 t7 0 (i64.wrap ((t7.length:Int)-2))).bind fun l2=>
     (C4 t7 (i64.wrap ((t7.length:Int)-2))).bind fun x4=>
     (if (decide (x4.length=0)) then
      none
     else
      DD (decide (x4.length<=4294967296))<|
      (EA l2 [x4]).bind fun l3=>
      k l3)
    else
     DD (decide (x3.length<=4294967296))<|
     (
      Pc n x2 x3 n (x3,0):Option (List AG)).bind fun t113=>
     (G6 t7 0 (i64.wrap ((t7.length:Int)-2))).bind fun l6=>
     (C4 t7 (i64.wrap ((t7.length:Int)-2))).bind fun x7=>
     (if (decide (x7.length=0)) then
      none
     else
      DD (decide (x7.length<=4294967296))<|
      (EA x7 t113).bind fun l7=>
      (EA l6 [l7]).bind fun l8=>
      k l8))
   else
    k t7))
def YR (_:Nat)(_:AC)(_:ByteArray)(_:List AY)(st:List (List AG)):Option (List (List AG)):=
 match st with
 |t7=>some t7
theorem wX (n:Nat)(c2:AC)(t1:ByteArray)(t2:List AY)(hx:t2.length<4611686018427387904)(c:Nat)(st:List (List AG))(ix:Nat)(hi:ix<=t2.length)(hc:t2.length-ix<c):Pd n c2 t1 t2 c (match st,(ix:Int) with |t7,ix=>(t7,ix))=Eb (Vz n c2 t1 t2) (YR n c2 t1 t2) (t2.drop ix) st:=
 Mq (fun c st ix=>Pd n c2 t1 t2 c (match st,ix with |t7,ix=>(t7,ix))) t2 (Vz n c2 t1 t2) (YR n c2 t1 t2) (fun _ _ _=>rfl) hx c st ix hi hc
def V0 (n:Nat)(c2:AC)(t1:ByteArray)(t2:List AY):Option (List AG):=(Pd n c2 t1 t2 n ([],0):Option (List (List AG))).bind fun t73=>(MW n t73).bind fun t75=>some t75
set_option maxHeartbeats 8000000 in
theorem wY {n:Nat}{c2:AC}{t1:ByteArray}{t2:List AY}{r:List AG}(H:V0 n c2 t1 t2=some r):AI Tryz.prog 141 [D.pt (Ap c2) 0,D.v (.string t1),D.sl (List.map Aj t2)] (D.sl (List.map AD r)) true:=by
 unfold V0 at H;refine zP #[.tmp 6] Tryz.func141 ?_;refine D3 ?_;refine ET ?_;refine GT H (fun _ _ t73 g4=>⟨upd 7 (Aa 0 g4 (List.map (eL AD) t73)) AQ,upd 0 (CD 1 g4 false (List.map (eL AD) t73)) AS,1⟩) (fun e_ E1 H2=> ?_) fun t73 g4 H2=> ?_;rotate_left
 ·refine ZT 1 ?_;obtain⟨t75,b182,H183⟩:=AJ H2;refine Z0 ?_;refine DB (wE b182) ?_;refine Z0 ?_;cases H183;exact CC
 refine Ft E1 (fun f _ (t7,t15) g=>⟨kp [1,13,14] f (upd 0 (.d (.pt [.mp (CO Value.string false eI c2.types),.mp (CO qb_ true Al c2.rels),.mp (CO qb_ false eI c2.ranks)] 0) true) (upd 7 (Aa 0 g (List.map (eL AD) t7)) (upd 15 (.v (.int .i64 t15)) AQ))),upd 0 (CD 1 g false (List.map (eL AD) t7)) AS,1⟩) 0 (ZR []) fun c ⟨t7,t15⟩ g L3=> ?_
 refine D3 ?_;obtain⟨c21,H22⟩ |⟨c21,H22⟩:=CM L3;rotate_left
 ·refine Z1 c21 ?_;cases H22;exact⟨g,ZR [(0,0)]⟩
 refine KB c21 ?_;obtain⟨x2,h25,h26,h27,H24⟩:=zI Aj H22;have w151_:=Y2 c21 h27;refine MP w151_ ?_;refine CN ?_;refine AW ?_;refine GT H24 (fun f _ t212 g2=>⟨kp [1,10,13,14,15] f (upd 0 (.d (.pt [.mp (CO Value.string false eI c2.types),.mp (CO qb_ true Al c2.rels),.mp (CO qb_ false eI c2.ranks)] 0) true) (upd 7 (Aa 0 g2 (List.map (eL AD) t7)) (upd 9 (.pt 1 0) (upd 21 (.v (.bool t212)) AQ)))),upd 0 (CD 1 g2 false (List.map (eL AD) t7)) (upd 1 (some (.bx [.v (.int .i64 x2.kind),.v (.string x2.a),.v (.string x2.b)])) AS),2⟩) (fun e_3 E29 H30=> ?_) fun t212 g2 H30=> ?_
 ·refine AN ?_;obtain⟨c31,H32⟩ |⟨c31,H32⟩:=CM E29
  ·refine Z1 c31 ?_;cases H32;exact⟨g,ZR [(0,0),(1,4)]⟩
  refine Z1 c31 ?_;cases H32;exact⟨g,ZR [(0,0),(1,4)]⟩
 obtain⟨c33,H34⟩ |⟨c33,H34⟩:=CM H30
 ·refine EV (by rfl) c33 ?_;refine Z1 c33 ?_;refine ZT 4 ?_;obtain⟨t342,b35,H36⟩:=AJ H34;refine Z1 c33 ?_;refine DB (wW b35) ?_;obtain⟨l,b37,H38⟩:=AJ H36;obtain⟨h39,h40⟩:=G7 b37;have h39:t7.length+1<=4294967296:=h39;have h41:List.map (eL AD) t7++[[.sl (List.map AD t342)]]=List.map (eL AD) l:=GX (eL AD) h40;have h42:t7.length+1=l.length:=GY h40;have h43:l.length<=4294967296:=by omega
  have q44:0<l.length:=by omega
  refine Z1 (Y5 c33 h39 h41 h42 h43) ?_;rcases t7 with _ |⟨q0,q1⟩
  ·try simp only[LD,Cw,C8]
   exact⟨_,0,H38,ZR [(0,8)]⟩
  try simp only[Lk,Cw,C8]
  exact⟨_,(g2+1),H38,ZR [(0,0)]⟩
 refine DF (by rfl) c33 ?_;refine MP c33 ?_;obtain⟨c45,H46⟩ |⟨c45,H46⟩:=CM H34;rotate_left
 ·refine DF (by rfl) c45 ?_;have w160_:=Y2 c33 c45;refine Z1 w160_ ?_;refine ZT 4 ?_;refine Z1 w160_ ?_;exact⟨_,g2,H46,ZR [(0,0)]⟩
 refine EV (by rfl) c45 ?_;have w152_:=Y2 c33 c45;refine Ck w152_ ?_;obtain⟨x3,h49,h50,h51,H48⟩:=zI (eL AD) H46;have h52:=GW h50;have q53:0<t7.length:=by omega
 have w153_:=Y5 w152_ h51 h52 (YV (f:=(eL AD)) q53) (YO (f:=(eL AD)) q53);refine Z1 w153_ ?_;obtain⟨c54,H55⟩ |⟨c54,H55⟩:=CM H48
 ·have w154_:=Y2 w153_ c54;refine Z1 w154_ ?_;refine DB (dX x3 c54) ?_;refine Qy w154_ ?_;refine zj H55 (fun f h _=>⟨kp [1,7,10,11,13,14,15] f (upd 0 (.d (.pt [.mp (CO Value.string false eI c2.types),.mp (CO qb_ true Al c2.rels),.mp (CO qb_ false eI c2.ranks)] 0) true) AQ),kh [0] h AS,1⟩) (fun e_4 E56 H57=> ?_) fun _ H57=> ?_
  ·refine IX E56 (fun f h _=>⟨kp [1,7,9,10,11,13,14,15,47,48] f (upd 0 (.d (.pt [.mp (CO Value.string false eI c2.types),.mp (CO qb_ true Al c2.rels),.mp (CO qb_ false eI c2.ranks)] 0) true) AQ),kh [0,1] h AS,2⟩) (ZR [(0,0),(1,1)]) fun c _ L58=> ?_
   refine AN ?_;cases L58;exact ZR [(0,0)]
  refine ZT 4 ?_;obtain⟨l2,b59,H60⟩:=AJ H57;obtain⟨h61,h62,h63,h64⟩:=Wt b59;have h65:0<=Int.toNat (i64.wrap ((t7.length:Int)-2)):=by omega
  have h66:Int.toNat (i64.wrap ((t7.length:Int)-2))<=t7.length:=by omega
  have h68:Int.toNat (i64.wrap ((t7.length:Int)-2))-0=l2.length:=by rw[h64];simp;try omega
  have h67:List.take l2.length (List.map (eL AD) t7)=List.map (eL AD) l2:=iF (eL AD) h64;try simp only[Lv] at h65 h66 h67 h68
  obtain⟨x4,h71,h72,h73,H70⟩:=zI (eL AD) H60;have h74:=GW h72;have w155_:=Y2 (Y6 (Cx .i64 (Bw h61 h62)) h65 h66 h68 h67 h73) h74;refine Z1 w155_ ?_;obtain⟨c75,H76⟩ |⟨c75,H76⟩:=CM H70
  ·refine Z1 (Y2 w155_ c75) ?_;refine Ea (dX x4 c75) ?_;cases H76
  obtain⟨g77,H78⟩:=Ev H76;have h79:x4.length<=4294967296:=of_decide_eq_true g77;have q80:0<x4.length:=by have:=of_decide_eq_false c75;omega
  refine Z1 (Y2 w155_ c75) ?_;refine P3 (ids':=[]) (v:=.so 19 1 0 x4.length) (δ:=[(19,.rw (List.map AD x4) 3 1 false false)]) (nx':=23) (fun hp1 _=>AK.mono (dY x4 q80 h79) fun v2 hp2 nx2 e=>e) ?_;have h84:x4.length<=4294967296:=by omega
  obtain⟨l3,b85,H86⟩:=AJ H78;obtain⟨h87,h88⟩:=G7 b85;have h87:l2.length+1<=4294967296:=h87;have h89:List.map (eL AD) l2++[[.sl (List.map AD x4)]]=List.map (eL AD) l3:=GX (eL AD) h88;have h90:l2.length+1=l3.length:=GY h88;have h91:l3.length<=4294967296:=by omega
  have q92:0<l3.length:=by omega
  have hq_:(l2.length<=t7.length)=True:=FB;try simp -implicitDefEqProofs only[go_sem,Nj,Nat.reduceLT,Nat.reduceEqDiff,Nat.reduceAdd,Nat.reduceLeDiff,reduceCtorEq, ↓reduceIte,h67,h79,NS,LY,h89,h90,h91,hq_]
  refine DR (by rfl) ?_;try simp -implicitDefEqProofs only[go_sem,Nat.reduceEqDiff,Nat.reduceAdd,reduceCtorEq, ↓reduceIte]
  exact⟨_,(g2+1),H86,ZR [(0,0)]⟩
 obtain⟨g94,H95⟩:=Ev H55;have h96:x3.length<=4294967296:=of_decide_eq_true g94;have q97:0<x3.length:=by have:=of_decide_eq_false c54;omega
 have w156_:=Y2 w153_ c54;refine Z1 w156_ ?_;refine CG (AK.mono (dY x3 q97 h96) ?_);rintro v98 hp99 nx100 ⟨rfl,rfl,rfl⟩;have w157_:=Y2 w156_ h96;refine Qy w157_ ?_;refine zj H95 (fun f h t113=>⟨kp [1,7,10,13,14,15] f (upd 0 (.d (.pt [.mp (CO Value.string false eI c2.types),.mp (CO qb_ true Al c2.rels),.mp (CO qb_ false eI c2.ranks)] 0) true) (upd 11 (.so 1 1 0 (t113.length)) AQ)),kh [0] h (upd 1 (some (.rw (List.map AD t113) 3 1 false false)) AS),2⟩) (fun e_5 E101 H102=> ?_) fun t113 H102=> ?_
 ·refine IX E101 (fun f h (t11,t48)=>⟨kp [1,7,9,10,13,14,15,47] f (upd 0 (.d (.pt [.mp (CO Value.string false eI c2.types),.mp (CO qb_ true Al c2.rels),.mp (CO qb_ false eI c2.ranks)] 0) true) (upd 11 (.so 2 1 0 (t11.length)) (upd 48 (.v (.int .i64 t48)) AQ))),kh [0,1] h (upd 2 (some (.rw (List.map AD t11) 3 1 false false)) AS),3⟩) (ZR [(0,0),(1,1),(2,15)]) fun c ⟨t11,t48⟩ L103=> ?_
  refine AN ?_;obtain⟨c122,H123⟩ |⟨c122,H123⟩:=CM L103
  ·refine Z1 c122 ?_;obtain⟨c124,H125⟩ |⟨c124,H125⟩:=CM H123
   ·obtain⟨x6,h128,h129,h130,H127⟩:=zI AD H125;have h131:=GW h129;obtain⟨l5,b132,H133⟩:=AJ H127;have h134:List.set t11 (Int.toNat t48) (⟨x6.to1,1⟩:AG)=l5:=LI b132;have h135:List.set (List.map AD t11) (Int.toNat t48) [.v (.string x6.to1.typ),.v (.string x6.to1.rel),.v (.int .i64 1)]=List.map AD l5:=by rw[<-h134,NO]
    try simp only[Lk,LD] at h135
    have h136:t11.length=l5.length:=(by rw[<-h134,Bb]);have h137:∀w,AV.so 2 w 0 t11.length=AV.so 2 w 0 l5.length:=fun w=>(by rw[h136]);have h138:(Int.toNat t48)<l5.length:=(by omega);refine Z1 (Y2 (Y6 c122 c124 h130 h131 h135 h137) h138) ?_;exact⟨_,H133,ZR [(0,0),(1,1),(2,2)]⟩
   refine Z1 (Y2 c122 c124) ?_;exact⟨_,H125,ZR [(0,0),(1,1),(2,2)]⟩
  refine Z1 c122 ?_;cases H123;exact ZR [(0,0),(1,2)]
 refine ZT 4 ?_;obtain⟨l6,b139,H140⟩:=AJ H102;obtain⟨h141,h142,h143,h144⟩:=Wt b139;have h145:0<=Int.toNat (i64.wrap ((t7.length:Int)-2)):=by omega
 have h146:Int.toNat (i64.wrap ((t7.length:Int)-2))<=t7.length:=by omega
 have h148:Int.toNat (i64.wrap ((t7.length:Int)-2))-0=l6.length:=by rw[h144];simp;try omega
 have h147:List.take l6.length (List.map (eL AD) t7)=List.map (eL AD) l6:=iF (eL AD) h144;try simp only[Lv] at h145 h146 h147 h148
 obtain⟨x7,h151,h152,h153,H150⟩:=zI (eL AD) H140;have h154:=GW h152;have w158_:=Y2 (Y6 (Cx .i64 (Bw h141 h142)) h145 h146 h148 h147 h153) h154;refine Z1 w158_ ?_;obtain⟨c155,H156⟩ |⟨c155,H156⟩:=CM H150
 ·refine Z1 (Y2 w158_ c155) ?_;refine Ea (dX x7 c155) ?_;cases H156
 obtain⟨g157,H158⟩:=Ev H156;have h159:x7.length<=4294967296:=of_decide_eq_true g157;have q160:0<x7.length:=by have:=of_decide_eq_false c155;omega
 have w159_:=Y2 w158_ c155;refine Z1 w159_ ?_;refine P3 (ids':=[]) (v:=.so 20 1 0 x7.length) (δ:=[(20,.rw (List.map AD x7) 3 1 false false)]) (nx':=24) (fun hp1 _=>AK.mono (dY x7 q160 h159) fun v2 hp2 nx2 e=>e) ?_;obtain⟨l7,b164,H165⟩:=AJ H158;obtain⟨h166,h167⟩:=G7 b164;have h166:x7.length+t113.length<=4294967296:=h166;have h168:List.map AD x7++List.map AD t113=List.map AD l7:=GX AD h167;have h169:x7.length+t113.length=l7.length:=GY h167;have h170:l7.length<=4294967296:=by omega
 have q171:0<l7.length:=by omega
 obtain⟨l8,b172,H173⟩:=AJ H165;obtain⟨h174,h175⟩:=G7 b172;have h174:l6.length+1<=4294967296:=h174;have h176:List.map (eL AD) l6++[[.sl (List.map AD l7)]]=List.map (eL AD) l8:=GX (eL AD) h175;have h177:l6.length+1=l8.length:=GY h175;have h178:l8.length<=4294967296:=by omega
 have q179:0<l8.length:=by omega
 have hq_:(l6.length<=t7.length)=True:=FB;refine Z1 (And.intro hq_ (Y4 (Y6 (Cx .i64 (Bw h141 h142)) h145 h146 h148 h147 (Cx .i64 h151)) (Y6 h153 h154 c155 h159 (K4 (n:=3) (f:=AD) (fun _=>rfl) t113) h166) (Y6 h168 h169 h170 h174 h176 h177) h178)) ?_;refine DR (by rfl) ?_;refine Z1 (Y2 (Y6 w159_ h159 (K4 (n:=3) (f:=AD) (fun _=>rfl) t113) h166 h168 h169) (Y5 h170 h174 h176 h177 h178)) ?_;exact⟨_,(g2+1),H173,ZR [(0,0)]⟩
theorem AK.canon {P:Program}{f:FuncId}{vs:List AV}{hp hp0:Hp}{nx:Nat}{R:AV->Hp->Nat->Prop}{v0:AV}(h:AK P f vs hp nx R)(k:∀v hp2 nx2,R v hp2 nx2->nx<=nx2->A6 nx ⟨upd 0 v0 AQ,hp0,nx⟩ ⟨upd 0 v AQ,hp2,nx2⟩):
  AK P f vs hp nx fun v hp2 nx2=>v=v0/\hp2=hp0/\nx2=nx:=by
 refine⟨h.1,fun g c args h1 h2 h3 h4 h5=> ?_⟩;let g0:Gh:=⟨g.base,g.M0,0⟩;refine(h.2 g0 c args h1 h2 (h3.fb 0) h4 fun j x hj=>by obtain⟨u,e1,e2⟩:=h5 j x hj;exact⟨u,e1,e2.tr (F4.fb g c 0)⟩).mono ?_;rintro e w' ⟨u,v,c',nx',e1,e2,e3,e4,e5,e6,e7,e8⟩;have hk:=k v c'.hp nx' e2 e7;obtain⟨a,ha,hd⟩:∃a:Act,a.tmps= #[u]/\a.defers= []:=⟨{ tmps:= #[u],defers:=[] },rfl,rfl⟩;have hs:Dx g0 ⟨upd 0 v AQ,c'.hp,nx'⟩ c' a 1:=by
  refine⟨rfl,e5,fun i hi=> ?_,fun t=> ?_,by rw[ha];rfl,Ll _,by rw[hd];trivial⟩
  ·rcases e8 i hi with h6 |h6
   ·exact Lz (h2 i h6) e7
   exact h6.2
  cases t with |zero=>rw[ha];exact e6 |succ t=>trivial
 obtain⟨c2,q1,q2,q3,q4,q5⟩:=hs.weakR e7 hk;have hu:Am g0 c2 v0 u:=by
  have:=q1.fr 0;rw[ha] at this;exact this
 have tu:=F4.unfb g c2 0;refine⟨u,v0,c2,nx,e1,⟨rfl,q1.hp,rfl⟩,q2.trans e3,(e4.toR.trans q3).toE (h3.fb 0) h2,q1.hr.tr tu q1.hr.le q1.hr.m0 (fun id o ho=>(q1.hr.dom id o ho).2.1) (Lc _),hu.tr tu,Lc _,fun i hi=> ?_⟩;have hi2:=q1.kn i hi;rcases q5 i hi with h6 |h6
 ·rcases e8 i h6 with h7 |h7
  ·exact .inl h7
  exact absurd hi2 (Nat.not_lt.2 h7.1)
 exact absurd hi2 (Nat.not_lt.2 h6)
def GH (nx:Nat):Nat->Option Nat:=fun i=>if i<nx then some i else none
def IU (nx:Nat)(hp:Hp):Prop:=∀i o,hp i=some o->CP (GH nx) o=some o
theorem jq {hp:Hp}{id ver sz:Nat}{es:List (List D)}(h:es≠[]->hp id=some (.rw es sz ver false false)):∃is,CS hp (Aa id ver es)=some (.sl es,false,is)/\∀i∈is,es≠[]/\i=id:=by
 cases es with
 |nil=>exact⟨[],rfl,fun i hi=>nomatch hi⟩
 |cons a r=>
  have h1:=h (by simp);exact⟨[id],by simp[Aa,CS,h1],fun i hi=>⟨by simp,Ln.1 hi⟩⟩
def ovD (eq:Bool)(g:Ac)(ov:AV):AV:=if eq then .d (.sl (g.expr.map Aj)) false else ov
theorem jr {n c f:Nat}{hp:Hp}{nx q:Nat}{x:Ae}{y:Ae × Ac}{bl:Bool}{ov:AV}(hf:∀j,nx<=j->hp j=none)(hcl:IU nx hp)(hq:hp q=some (Ai x bl ov))(h:EJ n c f x=some y):
  AK Tryz.prog 57 [.pt q 0] hp nx fun v hp2 nx2=>v= .ag [.v (.string y.2.name),.d (.sl (y.2.subs.map AZ)) false,.d (.sl (y.2.expr.map Aj)) false]/\hp2=upd q (some (Ai y.1 bl (ovD (vI_ n x) y.2 ov))) hp/\nx2=nx:=by
 have hqn:q<nx:=CR hf hq;refine(Qp hf hq h).canon ?_;rintro v hp2 nx2 ⟨ov2,sid,sver,eid,ever,rfl,hb,eov,s1,e1,fr,new,le⟩ hle;have hov:CK (GH nx) ov=some ov:=by
  have h1:=hcl q _ hq;simp only[Ai,CP,Dv,CK,La] at h1;cases e:CK (GH nx) ov with |none=>rw[e] at h1;simp at h1 |some w=>rw[e] at h1;simpa using h1
 obtain⟨i1,d1,m1⟩:=jq (hp:=hp2) (id:=sid) (ver:=sver) (sz:=3) (es:=y.2.subs.map AZ) fun hn=>(s1 (by simpa using hn)).1;obtain⟨i2,d2,m2⟩:=jq (hp:=hp2) (id:=eid) (ver:=ever) (sz:=3) (es:=y.2.expr.map Aj) fun hn=>(e1 (by simpa using hn)).1;obtain⟨hp0,e0⟩:∃hp0,hp0=upd q (some (Ai y.1 bl (ovD (vI_ n x) y.2 ov))) hp:=⟨_,rfl⟩;rw[<-e0];have hD:∀j o,hp0 j=some o->j<nx:=fun j o hj=>by
  rw[e0] at hj;by_cases e:j=q
  ·omega
  rw[Ad _ _ e] at hj;exact CR hf hj
 have f1:∀i∈i1,∀o,hp0 i=some o->o.fz=true:=fun i hi o ho=>by
  obtain⟨k1,rfl⟩:=m1 i hi
  have:=hD _ _ ho
  have:=(s1 (by simpa using k1)).2.1;omega
 have f2:∀i∈i2,∀o,hp0 i=some o->o.fz=true:=fun i hi o ho=>by
  obtain⟨k1,rfl⟩:=m2 i hi
  have:=hD _ _ ho
  have:=(e1 (by simpa using k1)).2.1;omega
 refine .trans (m:=⟨upd 0 (.ag [.v (.string y.2.name),.d (.sl (y.2.subs.map AZ)) false,.d (.sl (y.2.expr.map Aj)) false]) AQ,hp0,nx2⟩) (.ren (GH nx) ⟨fun i hi=>if_pos hi,fun i j hi h=> ?_,fun i i' j h1 h2=> ?_,fun t=> ?_,fun i o ho=> ?_,Lc _⟩) (.dat ⟨fun t=> ?_,fun i o' ho=> ?_,Lc _⟩)
 ·rw[show GH nx i=none from ifn] at h;cases h
 ·unfold GH at h1 h2;split at h1
  ·split at h2
   ·cases h1;cases h2;rfl
   cases h2
  cases h1
 ·cases t with |zero=>exact .inr rfl |succ t=>exact .inl rfl
 ·have hi:=hD _ _ ho;refine⟨i,o,if_pos hi,?_,ho⟩;by_cases e:i=q
  ·subst e;dsimp only at ho;rw[e0,Ah] at ho;cases ho;unfold ovD;split
   ·rfl
   simp[Ai,CP,Dv,CK,hov]
  dsimp only at ho;rw[e0,Ad _ _ e] at ho;exact hcl i o ho
 ·cases t with |zero=>exact .ag (.cons (.same _) (.cons (.dat _ _ _ _ i1 d1 id f1) (.cons (.dat _ _ _ _ i2 d2 id f2) .nil))) |succ t=>exact .same _
 dsimp only at ho⊢;by_cases e:i=q
 ·subst e;rw[e0,Ah] at ho;cases ho;refine⟨_,hb,?_⟩;cases he:vI_ n x with
  |true=>
   rw[he,if_pos rfl] at eov;rw[eov];exact .bx (cs:=[_,_,_,_,_,_,_,_]) (.cons (.same _) (.cons (.same _) (.cons (.same _) (.cons (.same _) (.cons (.same _) (.cons (.same _) (.cons (.dat _ _ _ _ i2 d2 id f2) (.cons (.same _) .nil))))))))
  |false=>
   rw[he,if_neg (by decide)] at eov;rw[eov];exact .same _
 rw[e0,Ad _ _ e] at ho;exact⟨o',by rw[fr i (CR hf ho) e];exact ho,.same _⟩
end Go.Proofs.YtnmkbmefohakmaaGreat.Ab
