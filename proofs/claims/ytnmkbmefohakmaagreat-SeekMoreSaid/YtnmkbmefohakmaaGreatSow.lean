/-
 What is asked of any schema: the error of one that does not hold together, too.
-/
import Derived.Test.YtnmkbmefohakmaaGreatTea
set_option linter.all false
namespace Go.Proofs.YtnmkbmefohakmaaGreat.Ab
open Go.RowKit IntKind
def PX (n:Nat)(rows_:List AE)(t13:AC × Int):Nat->(List AE × Int)->Option (List AE)
 |0,_=>none
 |c+1,(fit,t21)=>(if decide (t21<(rows_.length:Int)) then (C4 rows_ t21).bind fun x2=>(RO n (⟨t13.1.types,t13.1.rels,t13.1.ranks⟩:AC) x2).bind fun t272=>(if t272 then (EA fit [x2]).bind fun l2=>PX n rows_ t13 c (l2,(i64.wrap (t21+1))) else PX n rows_ t13 c (fit,(i64.wrap (t21+1)))) else some fit)
def dH (n:Nat)(_:List AE)(t13:AC × Int)(st:List AE)(x2:AE)(k:List AE->Option (List AE)):Option (List AE):=
 match st with
 |fit=>
  (RO n (⟨t13.1.types,t13.1.rels,t13.1.ranks⟩:AC) x2).bind fun t272=>
  (if t272 then
   (EA fit [x2]).bind fun l2=>
   k l2
  else
   k fit)
def dI (_:Nat)(_:List AE)(_:AC × Int)(st:List AE):Option (List AE):=
 match st with
 |fit=>some fit
theorem wB (n:Nat)(rows_:List AE)(t13:AC × Int)(hx:rows_.length<4611686018427387904)(c:Nat)(st:List AE)(ix:Nat)(hi:ix<=rows_.length)(hc:rows_.length-ix<c):PX n rows_ t13 c (match st,(ix:Int) with |fit,ix=>(fit,ix))=Eb (dH n rows_ t13) (dI n rows_ t13) (rows_.drop ix) st:=
 Mq (fun c st ix=>PX n rows_ t13 c (match st,ix with |fit,ix=>(fit,ix))) rows_ (dH n rows_ t13) (dI n rows_ t13) (fun _ _ _=>rfl) hx c st ix hi hc
def Vo (n:Nat)(l:List AT)(rows_:List AE):Option (AM × Int):=(YI n l).bind fun t13=>(if (t13.2 != 0) then none else (PX n rows_ t13 n ([],0):Option (List AE)).bind fun fit3=>(Vn n fit3).bind fun t35=>(if decide (fit3.length=0) then some ((⟨(⟨t13.1.types,t13.1.rels,t13.1.ranks⟩:AC),t35,[]⟩:AM),0) else some ((⟨(⟨t13.1.types,t13.1.rels,t13.1.ranks⟩:AC),t35,fit3⟩:AM),0)))
theorem wC {n:Nat}{l:List AT}{rows_:List AE}{r:AM × Int}(H:Vo n l rows_=some r):CQ Tryz.prog 32 [.d (D.sl (List.map Ak l)),.d (D.sl (List.map AH rows_))] (D.tu [D.pt (Aq r.1) 0,D.v (.int .i64 r.2)]) false:=by
 unfold Vo at H;refine bj EO D7 (rs:= #[.tmp 4,.tmp 5]) Tryz.func32 ?_;refine Az ?_;refine AW (ZT 1 ?_);obtain⟨t13,b1,H2⟩:=AJ H;refine Z0 ?_;refine DB (vc b1) ?_;refine Dj ?_;refine Z0 ?_;rcases CM H2 with⟨c3,H4⟩ |⟨c3,H4⟩
 ·refine Z1 c3 ?_;cases H4
 refine MP c3 ?_;refine AW (AW ?_);refine HG c3 ?_;obtain⟨e_,E5,H6⟩:=AJ H4;refine EI (α:={ y:List AE // e_=y } × Nat) (fun |⟨⟨fit3,_⟩,g3⟩=>⟨upd 6 (.d (.pt [.mp (CO Value.string false eI t13.1.types),.mp (CO qb_ true Al t13.1.rels),.mp (CO qb_ false eI t13.1.ranks)] 0) true) (upd 8 (Aa 0 g3 (List.map AH fit3)) AQ),upd 0 (CD 6 g3 false (List.map AH fit3)) AS,1⟩) ?_ ?_
 ·refine CN ?_;refine DS (α:={ q:(Nat × (List AE × Int)) × Nat // PX n rows_ t13 q.1.1 q.1.2=some e_ }) (fun |⟨⟨⟨c,⟨fit,t21⟩⟩,g⟩,_⟩=>⟨upd 6 (.d (.pt [.mp (CO Value.string false eI t13.1.types),.mp (CO qb_ true Al t13.1.rels),.mp (CO qb_ false eI t13.1.ranks)] 0) true) (upd 8 (Aa 0 g (List.map AH fit)) (upd 19 (.d (.sl (List.map AH rows_)) true) (upd 20 (.v (.int .i64 (rows_.length:Int))) (upd 21 (.v (.int .i64 t21)) AQ)))),upd 0 (CD 6 g false (List.map AH fit)) AS,1⟩) (fun q=>q.1.1.1) ⟨((n,([],0)),0),E5⟩ ?_ ?_
  ·exact ZR []
  rintro⟨⟨⟨c,⟨fit,t21⟩⟩,g⟩,L7⟩;rcases c with _ |c
  ·exact Zx L7
  unfold PX at L7
  try dsimp only at L7
  refine AN ?_;rcases CM L7 with⟨c20,H21⟩ |⟨c20,H21⟩
  ·obtain⟨x2,b22,H23⟩:=AJ H21;obtain⟨h24,h25⟩:=Je b22;try simp only[Int.reduceToNat,Lv] at h25
   have h26:=Cs AH h25;obtain⟨t272,b28,H29⟩:=AJ H23;refine Z1 (Y3 c20 (Cx .i64 h24) h26) ?_;refine DB (vw b28) ?_;refine Z1 (Y3 c20 (Cx .i64 h24) h26) ?_;rcases CM H29 with⟨c30,H31⟩ |⟨c30,H31⟩
   ·obtain⟨l2,b32,H33⟩:=AJ H31;obtain⟨h34,h35⟩:=G7 b32;have h34:fit.length+1<=4294967296:=h34;have h36:List.map AH fit++[[.v (.string x2.obj.type_),.v (.string x2.obj.id_),.v (.string x2.rel),.v (.string x2.sub_.type_),.v (.string x2.sub_.id_),.v (.string x2.sub_.rel)]]=List.map AH l2:=GX AH h35;have h37:fit.length+1=l2.length:=GY h35;have h38:l2.length<=4294967296:=(by omega);have q39:0<l2.length:=(by omega);refine Z1 (Y2 (Y6 c20 (Cx .i64 h24) h26 c30 h34 h36) (Y2 h37 h38)) ?_;rcases fit with _ |⟨q0,q1⟩
    ·try simp only[LD,Cw,C8]
     exact⟨⟨((c,(l2,(i64.wrap (t21+1)))),0),H33⟩,ZR [(0,12)],LF _⟩
    try simp only[Lk,Cw,C8]
    exact⟨⟨((c,(l2,(i64.wrap (t21+1)))),(g+1)),H33⟩,ZR [(0,0)],LF _⟩
   refine Z1 (Y4 c20 (Cx .i64 h24) h26 c30) ?_;exact⟨⟨((c,(fit,(i64.wrap (t21+1)))),g),H31⟩,ZR [(0,0)],LF _⟩
  refine Z1 c20 ?_;obtain rfl:=Zi H21;exact⟨⟨⟨fit,rfl⟩,g⟩,ZR [(0,0)]⟩
 rintro⟨⟨fit3,he48⟩,g3⟩;obtain rfl:=he48.symm;try dsimp only at H6
 refine ZT 1 ?_;obtain⟨t35,b40,H41⟩:=AJ H6;refine Z0 ?_;refine kb (wA b40) ?_;refine Z0 ?_;rcases CM H41 with⟨c42,H43⟩ |⟨c42,H43⟩
 ·have e44:fit3= []:=LW (of_decide_eq_true c42);subst e44;simp only[LD,Ws,Zp];try simp only[G9,G8]
  refine Z0 ?_;obtain rfl:=Zi H43;exact Mt (b:=true) (v:=.tu [.pt 6 0,.v (.int .i64 0)]) (by first |(simp -implicitDefEqProofs only[go_sem,Nat.reduceEqDiff, ↓reduceIte]<;>rfl) |rfl) (GB.tu (PW.cons (CW.one (Ce.place (by rfl) (PW.cons (Ce.one (b':=true) (is:=[]) rfl (fun _=>rfl)) (PW.cons (Ce.one (b':=false) (is:=[]) rfl (fun _=>rfl)) (PW.cons (Ce.one (b':=false) (is:=[]) rfl (fun _=>rfl)) PW.nil)))) rfl) (PW.cons (CW.one (Ce.one (b':=false) (is:=[]) rfl (fun _=>rfl)) rfl) PW.nil))) (by intro h;first |rfl |cases h)
 have q45:0<fit3.length:=by have:=of_decide_eq_false c42;omega
 have h46:∀i,G9 i (List.map AH fit3)= [i]:=fun i=>by cases hx:fit3 with |nil=>(rw[hx] at q45;simp at q45) |cons a r=>rfl
 have h47:∀b,G8 b (List.map AH fit3)=b:=fun b=>by cases hx:fit3 with |nil=>(rw[hx] at q45;simp at q45) |cons a r=>rfl
 refine Z1 (Y6 c42 h46 h47 q45 (YV (f:=AH) q45) (YO (f:=AH) q45)) ?_;obtain rfl:=Zi H43;exact Mt (b:=true) (v:=.tu [.pt 6 0,.v (.int .i64 0)]) (by first |(simp -implicitDefEqProofs only[go_sem,Nat.reduceEqDiff, ↓reduceIte]<;>rfl) |rfl) (GB.tu (PW.cons (CW.one (Ce.place (by rfl) (PW.cons (Ce.one (b':=true) (is:=[]) rfl (fun _=>rfl)) (PW.cons (Ce.one (b':=false) (is:=[]) rfl (fun _=>rfl)) (PW.cons (Ce.one (b':=false) (is:=[0]) (by first |rfl |(simp -implicitDefEqProofs only[go_sem,reduceCtorEq, ↓reduceIte];done) |(simp -implicitDefEqProofs only[go_sem,Nj,Int.reduceToNat,Int.reduceLT,Int.reduceLE,Int.reduceBEq,Int.reduceBNe,Nat.reduceLT,Nat.reduceBEq,Int.reduceEq,Nat.reduceEqDiff,Nat.reduceAdd,Nat.reduceSub,Nat.reduceMul,Nat.reduceLeDiff,reduceCtorEq, ↓reduceIte,Al,Du,AZ,Aj,AF,AH,Ak,Ap,AX,Cz,D6,EK,Aq,c42,h46,h47,q45,JC (f:=AH) q45,UL (f:=AH) q45];rfl)) (fun _=>rfl)) PW.nil)))) rfl) (PW.cons (CW.one (Ce.one (b':=false) (is:=[]) rfl (fun _=>rfl)) rfl) PW.nil))) (by intro h;first |rfl |cases h)
def YN (n:Nat)(g:AM)(typ:ByteArray)(rel:ByteArray):Option Bool:=(Gm n g.schema typ rel).bind fun t16=>some t16.2
theorem wD {n:Nat}{g:AM}{typ:ByteArray}{rel:ByteArray}{r:Bool}(H:YN n g typ rel=some r):AI Tryz.prog 33 [D.pt (Aq g) 0,D.v (.string typ),D.v (.string rel)] (D.v (.bool r)) true:=by
 unfold YN at H;refine zP #[.tmp 6] Tryz.func33 ?_;refine ZT 1 ?_;obtain⟨t16,b1,H2⟩:=AJ H;refine Z0 ?_;refine DB (Ka b1) ?_;refine Z0 ?_;obtain rfl:=Zi H2;exact CC
def S6 (n:Nat)(l:List AT)(rows_:List AE)(o:Ao)(rel:ByteArray)(s:AL):Option (Bool × Int):=(Vo n l rows_).bind fun t17=>(if (t17.2 != 0) then some (false,t17.2) else (if (s.rel.toList==({ data:= #[] }:ByteArray).toList) then (YN n (⟨(⟨t17.1.schema.types,t17.1.schema.rels,t17.1.schema.ranks⟩:AC),(⟨(⟨t17.1.index.left.subs,t17.1.index.left.objs⟩:DO),(⟨t17.1.index.right.refs,t17.1.index.right.users⟩:Di)⟩:Cn),t17.1.rows_⟩:AM) o.type_ rel).bind fun t33=>(if t33 then (Hw n (⟨(⟨t17.1.schema.types,t17.1.schema.rels,t17.1.schema.ranks⟩:AC),(⟨(⟨t17.1.index.left.subs,t17.1.index.left.objs⟩:DO),(⟨t17.1.index.right.refs,t17.1.index.right.users⟩:Di)⟩:Cn),t17.1.rows_⟩:AM) o rel s).bind fun t39=>some (t39,0) else some (false,12)) else some (false,13)))
theorem vu {n:Nat}{l:List AT}{rows_:List AE}{o:Ao}{rel:ByteArray}{s:AL}{r:Bool × Int}(H:S6 n l rows_ o rel s=some r):AI Tryz.prog 13 [D.sl (List.map Ak l),D.sl (List.map AH rows_),D.ag (Du o),D.v (.string rel),D.ag (AZ s)] (D.tu [D.v (.bool r.1),D.v (.int .i64 r.2)]) true:=by
 unfold S6 at H;refine ZP EO D7 (rs:= #[.tmp 10,.tmp 11]) Tryz.func13 ?_;refine ZT 1 ?_;obtain⟨t17,b1,H2⟩:=AJ H;refine Z0 ?_;refine kb (wC b1) ?_;refine Z0 ?_;obtain⟨c3,H4⟩ |⟨c3,H4⟩:=CM H2
 ·refine Z1 c3 ?_;cases H4;exact CC
 refine Z1 c3 ?_;obtain⟨c5,H6⟩ |⟨c5,H6⟩:=CM H4
 ·obtain⟨t33,b7,H8⟩:=AJ H6;have w38_:=Y2 c3 c5;refine Z1 w38_ ?_;refine DB (wD b7) ?_;refine Z1 w38_ ?_;obtain⟨w39_,H10⟩ |⟨w39_,H10⟩:=DU w38_ H8
  ·obtain⟨t39,b11,H12⟩:=AJ H10;refine Z1 w39_ ?_;refine DB (vJ b11) ?_;refine Z1 w39_ ?_;cases H12;exact CC
  refine Z1 w39_ ?_;cases H10;exact CC
 refine Z1 (Y2 c3 c5) ?_;cases H6;exact CC
theorem ve {n:Nat}{l:List AT}{rows:List AE}{o:Ao}{rel:ByteArray}{s:AL}{e:Int}(h:I6 n l=some (.inr e))(he:(e != 0)=true):AI Tryz.prog 13 [D.sl (l.map Ak),D.sl (rows.map AH),D.ag (Du o),D.v (.string rel),D.ag (AZ s)] (D.tu [.v (.bool false),D.v (.int .i64 e)]) true:=by
 refine ZP EO D7 (rs:= #[.tmp 10,.tmp 11]) Tryz.func13 ?_;refine AW (ZT 1 ?_);refine Z0 ?_;refine AW (ZT 1 ?_);refine Z0 ?_;refine DB (vd h he) ?_;refine Z0 ?_;refine AW (CN ?_);refine ZT 1 ?_;refine Z1 he ?_;exact CC
def JK (n:Nat)(l:List AT)(rows_:List AE)(o:Ao)(rel:ByteArray)(s:AL):Option (Bool × Int):=match I6 n l with
 |some (.inr e)=>if e != 0 then some (false,e) else none
 |_=>S6 n l rows_ o rel s
theorem cW {n:Nat}{l:List AT}{rows_:List AE}{o:Ao}{rel:ByteArray}{s:AL}{r:Bool × Int}(H:JK n l rows_ o rel s=some r):AI Tryz.prog 13 [D.sl (List.map Ak l),D.sl (List.map AH rows_),D.ag (Du o),D.v (.string rel),D.ag (AZ s)] (D.tu [D.v (.bool r.1),D.v (.int .i64 r.2)]) true:=by
 unfold JK at H;split at H
 ·rename_i e h;split at H
  ·rename_i he;cases H;exact ve h he
  cases H
 exact vu H
section
variable {P:Program}{tab:Nat->TI}{ops:Array Oper}{nx0 nx i:Nat}{k:List It}{Q:Ex->St->Prop}{r:List Oper}{dst:Option Nat}{acc:List Cd}{fr:Fr}{hp:Hp}{ρ:Operand->AV}
@[go_sem] theorem xw (A B:TypeId)(x:Operand):En P tab ops nx0 nx k Q i r dst acc fr hp (.convert A B x)=FD P tab ops nx0 nx k Q (i+1) r dst acc (CX (ev fr) (.convert A B x)) fr hp (CB tab (ev fr) hp (nx0+i) (.convert A B x)):=rfl
@[go_sem] theorem xx (S T:TypeId)(x:Operand):CX ρ (.convert S T x)=Au (ρ x):=by simp[CX,F5,Op.operands,Ax]
end
@[go_sem] theorem vM:tab 5={ ok:=true,kind:=.int .u8,size:=1,bytes:=1,zero:=[.int .u8 0] }:=C6 (by kernel_rfl)
@[go_sem] theorem mD:tab 42={ ok:=true,kind:=.slice,size:=1,bytes:=24,elem:=5,zero:=[.slice none 0 0] }:=C6 (by kernel_rfl)
abbrev VY (x:Int):List D:=[D.v (.int .u8 x)]
def S4 (l:List Int):List UInt8:=l.map fun n=>UInt8.ofNat n.toNat
def Iz (l:List Int):ByteArray:=⟨(S4 l).toArray⟩
theorem mE:∀l:List Int,Kq (List.map VY l)=some (S4 l)
 |[]=>rfl
 |x::l=>by
  rw[Lk];show(Kq (List.map VY l)).map _=_;rw[mE l];rfl
theorem vN (l:List Int):(Kq (List.map VY l)).map (fun bs=>((.v (.string ⟨bs.toArray⟩),[]):AV × List (Nat × AO)))=some (.v (.string (Iz l)),[]):=by rw[mE];rfl
def YD (n:Nat)(t1:List Int)(t2:List Int)(t3:Int)(t4:List Int):Option Bool:=(MO n (Iz t4)).bind fun t56=>(G6 t1 0 (if 20<(t1.length:Int) then 20 else(t1.length:Int))).bind fun l=>(Sk n l).bind fun t62=>(Ux n t3).bind fun t65=>(JK n t56 t62 (⟨t65.1.type_,t65.1.id_⟩:Ao) t65.2.1 (⟨t65.2.2.type_,t65.2.2.id_,t65.2.2.rel⟩:AL)).bind fun t75=>(EA [] t62).bind fun l2=>(G6 t2 0 (if 10<(t2.length:Int) then 10 else(t2.length:Int))).bind fun l3=>(Sk n l3).bind fun t88=>(EA t62 t88).bind fun l4=>(JK n t56 l4 (⟨t65.1.type_,t65.1.id_⟩:Ao) t65.2.1 (⟨t65.2.2.type_,t65.2.2.id_,t65.2.2.rel⟩:AL)).bind fun t93=>(JK n t56 [] (⟨t65.1.type_,t65.1.id_⟩:Ao) t65.2.1 (⟨t65.2.2.type_,t65.2.2.id_,t65.2.2.rel⟩:AL)).bind fun t101=>(if t75.1 then (if t93.1 then (if (t75.2==t93.2) then (if (t75.2==t101.2) then (if t101.1 then some false else (if ((t56.length:Int)==3) then (aN n).bind fun t129=>some t129 else some false)) else some false) else some false) else some false) else (if (t75.2==t93.2) then (if (t75.2==t101.2) then (if t101.1 then some false else (if ((t56.length:Int)==3) then (aN n).bind fun t1292=>some t1292 else some false)) else some false) else some false))
theorem vL {A B C rest:Code}(hcode:Tryz.f4.body=some (.seq A (.seq B (.seq C rest)))){n:Nat}{t1 t2:List Int}{t3:Int}{t4:List Int}{r:Bool}(h0:0<t4.length)(H:YD n t1 t2 t3 t4=some r):CA 0 Tryz.prog [.c rest] (Cu tab #[.tmp 8] (D9 (D.v (.bool r)) true)) ⟨upd 9 (.d (.sl (List.map VY t4)) false) (upd 8 (.v (.bool false)) (upd 1 (.d (.sl (List.map eI t1)) true) (upd 2 (.d (.sl (List.map eI t2)) true) (upd 3 (.v (.int .i64 t3)) AQ)))),AS,0⟩:=by
 unfold YD at H;have hc:=LI hcode;injection hc with e1 e2;injection e2 with e3 e4;injection e4 with e5 e6;subst e6;clear hcode;refine ZT 1 ?_;obtain⟨t56,b1,H2⟩:=AJ H;have w1_:=Y2 h0 (vN t4);refine Z1 w1_ ?_;refine Ea (vZ b1) ?_;obtain⟨l,b3,H4⟩:=AJ H2;obtain⟨h5,h6,h7,h8⟩:=Wt b3;have h9:0<=Int.toNat (if 20<(t1.length:Int) then 20 else(t1.length:Int)):=by omega
 have h10:Int.toNat (if 20<(t1.length:Int) then 20 else(t1.length:Int))<=(List.length t1):=by omega
 have h11:List.take (Int.toNat (if 20<(t1.length:Int) then 20 else(t1.length:Int))) (List.map eI t1)=List.map eI l:=by rw[h8];simp[OY,Be]
 try simp only[Lv] at h9 h10 h11
 obtain⟨t62,b12,H13⟩:=AJ H4;have w2_:=Y6 w1_ (Cx .i64 (Bw h5 h6)) h9 h10 h11 (K4 (n:=1) (f:=eI) (fun _=>rfl) t1);refine Z1 w2_ ?_;refine Ea (jF b12) ?_;refine Z1 w2_ ?_;refine DR (by rfl) ?_;obtain⟨t65,b14,H15⟩:=AJ H13;refine Z1 w2_ ?_;refine DB (tP b14) ?_;obtain⟨t75,b16,H17⟩:=AJ H15;refine Z1 w2_ ?_;refine DB (cW b16) ?_;obtain⟨l2,b18,H19⟩:=AJ H17;obtain⟨h20,h21⟩:=G7 b18;have h21:t62=l2:=h21;subst h21;have h20:t62.length<=4294967296:=by have:=h20;simpa using this
 obtain⟨l3,b24,H25⟩:=AJ H19;obtain⟨h26,h27,h28,h29⟩:=Wt b24;have h30:0<=Int.toNat (if 10<(t2.length:Int) then 10 else(t2.length:Int)):=by omega
 have h31:Int.toNat (if 10<(t2.length:Int) then 10 else(t2.length:Int))<=(List.length t2):=by omega
 have h32:List.take (Int.toNat (if 10<(t2.length:Int) then 10 else(t2.length:Int))) (List.map eI t2)=List.map eI l3:=by rw[h29];simp[OY,Be]
 try simp only[Lv] at h30 h31 h32
 obtain⟨t88,b33,H34⟩:=AJ H25;have w3_:=Y2 (Y6 w2_ (K4 (n:=6) (f:=AH) (fun _=>rfl) t62) h20 (Cx .i64 (Bw h26 h27)) h30 h31) (Y2 h32 (K4 (n:=1) (f:=eI) (fun _=>rfl) t2));refine Z1 w3_ ?_;refine Ea (jF b33) ?_;obtain⟨l4,b35,H36⟩:=AJ H34;obtain⟨h37,h38⟩:=G7 b35;have h37:t62.length+t88.length<=4294967296:=h37;have h39:List.map AH t62++List.map AH t88=List.map AH l4:=GX AH h38;have h40:t62.length+t88.length=l4.length:=GY h38;have h41:l4.length<=4294967296:=by omega
 obtain⟨t93,b42,H43⟩:=AJ H36;have w4_:=Y6 w3_ (K4 (n:=6) (f:=AH) (fun _=>rfl) t88) h37 h39 h40 h41;refine Z1 w4_ ?_;refine ud w4_ (cW b42) ?_;refine Z1 w4_ ?_;refine DR (by rfl) ?_;obtain⟨t101,b44,H45⟩:=AJ H43;refine Z1 w4_ ?_;refine DB (cW b44) ?_;refine Z1 w4_ ?_;obtain⟨w5_,H47⟩ |⟨w5_,H47⟩:=DU w4_ H45
 ·refine Z1 w5_ ?_;obtain⟨w6_,H49⟩ |⟨w6_,H49⟩:=DU w5_ H47;rotate_left
  ·refine Z1 w6_ ?_;cases H49;exact CC
  refine Z1 w6_ ?_;obtain⟨w7_,H51⟩ |⟨w7_,H51⟩:=DU w6_ H49
  ·refine Z1 w7_ ?_;obtain⟨w8_,H53⟩ |⟨w8_,H53⟩:=DU w7_ H51
   ·refine Z1 w8_ ?_;obtain⟨w9_,H55⟩ |⟨w9_,H55⟩:=DU w8_ H53
    ·refine Z1 w9_ ?_;cases H55;exact CC
    refine Z1 w9_ ?_;obtain⟨w10_,H57⟩ |⟨w10_,H57⟩:=DU w9_ H55
    ·obtain⟨t129,b58,H59⟩:=AJ H57;refine Z1 w10_ ?_;refine DB (iR b58) ?_;refine Z1 w10_ ?_;cases H59;exact CC
    refine Z1 w10_ ?_;cases H57;exact CC
   refine Z1 w8_ ?_;cases H53;exact CC
  refine Z1 w7_ ?_;cases H51;exact CC
 refine Z1 w5_ ?_;obtain⟨w11_,H61⟩ |⟨w11_,H61⟩:=DU w5_ H47
 ·refine Z1 w11_ ?_;obtain⟨w12_,H63⟩ |⟨w12_,H63⟩:=DU w11_ H61
  ·refine Z1 w12_ ?_;obtain⟨w13_,H65⟩ |⟨w13_,H65⟩:=DU w12_ H63
   ·refine Z1 w13_ ?_;cases H65;exact CC
   refine Z1 w13_ ?_;obtain⟨w14_,H67⟩ |⟨w14_,H67⟩:=DU w13_ H65
   ·obtain⟨t1292,b68,H69⟩:=AJ H67;refine Z1 w14_ ?_;refine DB (iR b68) ?_;refine Z1 w14_ ?_;cases H69;exact CC
   refine Z1 w14_ ?_;cases H67;exact CC
  refine Z1 w12_ ?_;cases H63;exact CC
 refine Z1 w11_ ?_;cases H61;exact CC
theorem u7 {n:Nat}{l:List AE}(h:l.length<=4294967296):Xs n l=some (tO.ofL l):=if_pos h
section
variable {K α:Type}[BEq K][LawfulBEq K]
theorem cB (k k':K)(ys:List α):∀es:List (K × List α),qg_ k [] (An k' ys es)=if k==k' then qg_ k [] es++ys else qg_ k [] es
 |[]=>by
  cases h:(k==k')<;>simp[An,qg_,mget,h]
 |p::r=>by
  have ih:=cB k k' ys r;grind [An,qg_,mget]
omit [LawfulBEq K] in
theorem lJ (k:K)(ys:List α):∀es:List (K × List α),(An k ys es).length<=es.length+1
 |[]=>by simp[An]
 |p::r=>by
  have ih:=lJ k ys r;unfold An;split<;>simp <;>omega
structure small (m:Nat) (es:List (K × List α)):Prop where
 l:es.length<=m
 g:∀k,(qg_ k [] es).length<=m
theorem small.add {m:Nat}{es:List (K × List α)}(h:small m es)(k:K)(y:α):small (m+1) (An k [y] es):=⟨Lp (lJ k [y] es) (Nat.add_le_add_right h.l 1),fun k'=>by
 rw[cB]
 have:=h.g k';grind⟩
omit [LawfulBEq K] in
theorem small.up {m m':Nat}{es:List (K × List α)}(h:small m es)(k:m<=m'):small m' es:=⟨Lp h.l k,fun x=>Lp (h.g x) k⟩
omit [LawfulBEq K] in
theorem MR {m:Nat}:small m ([]:List (K × List α)):=⟨Ll _,fun _=>Ll _⟩
omit [LawfulBEq K] in
theorem small.fam {m:Nat}{es:List (K × List α)}(h:small m es)(hm:m<4294967296)(k:K):Ey k es=true:=by
 have h1:=h.l;have h2:=h.g k;simp only[Ey,Li,decide_eq_true_eq];omega
omit [LawfulBEq K] in
theorem small.dec {m:Nat}{es:List (K × List α)}(h:small m es)(hm:m<=4294967296):decide (es.length<=4294967296)=true:=decide_eq_true (Lp h.l hm)
theorem lK {β:Type}(key:β->K)(val:β->α)(k:K):∀(l:List β) (es:List (K × List α)),qg_ k [] (l.foldl (fun es t=>An (key t) [val t] es) es)=qg_ k [] es++(l.filter fun t=>k==key t).map val
 |[],es=>by simp
 |t::r,es=>by
  rw[Ba,lK key val k r,cB,OA];split<;>simp
theorem VS {β:Type}(key:β->K)(val:β->α):∀(l:List β) (m:Nat) (es:List (K × List α)),small m es->small (m+l.length) (l.foldl (fun es t=>An (key t) [val t] es) es)
 |[],m,es,h=>h
 |t::r,m,es,h=>by
  have:=VS key val r (m+1) _ (h.add (key t) (val t));grind
end
theorem Fv {β:Type}{c:Bool}{k:Option β}(h:c=true):DD c k=k:=by
 unfold DD;rw[if_pos h]
theorem u9 {β:Type}(x:List β)(h:x.length<=4294967296):(if (decide (x.length=0)) then some [] else DD (decide (x.length<=4294967296))<|some x)=some x:=by
 by_cases h0:x.length=0
 ·grind
 rw[decide_eq_false h0,if_neg (by decide),decide_eq_true h];rfl
def kR (t:AE):AB:=⟨t.obj,t.rel⟩
def Ix (t:AE):Bool:=decide (t.sub_.rel={ data:= #[] })
def Sx (l:List AE)(es:List (AB × List AL)):List (AB × List AL):=l.foldl (fun es t=>An (kR t) [t.sub_] es) es
def Hr (l:List AE)(es:List (ByteArray × List ByteArray)):List (ByteArray × List ByteArray):=l.foldl (fun es t=>An t.obj.type_ [t.obj.id_] es) es
def Hs (l:List AE)(es:List (AL × List AB)):List (AL × List AB):=l.foldl (fun es t=>An t.sub_ [kR t] es) es
def X3 (l:List AE)(es:List (ByteArray × List ByteArray)):List (ByteArray × List ByteArray):=(l.filter Ix).foldl (fun es t=>An t.sub_.type_ [t.sub_.id_] es) es
theorem vA {n m:Nat}{t16:List AE}{t:AE}{a:List (AB × List AL)}{b:List (ByteArray × List ByteArray)}{c:List (AL × List AB)}{d:List (ByteArray × List ByteArray)}(ha:small m a)(hb:small m b)(hc:small m c)(hd:small m d)(hm:m+1<4294967296)(k):
  Vl n t16 (a,b,c,d) t k=k (An (kR t) [t.sub_] a,An t.obj.type_ [t.obj.id_] b,An t.sub_ [kR t] c,if Ix t then An t.sub_.type_ [t.sub_.id_] d else d):=by
 have h1:decide ((An (⟨t.obj,t.rel⟩:AB) [t.sub_] a).length<=4294967296)=true:=(ha.add (kR t) t.sub_).dec (by omega);have h2:=(hb.add t.obj.type_ t.obj.id_).dec (by omega);have h3:decide ((An t.sub_ [(⟨t.obj,t.rel⟩:AB)] c).length<=4294967296)=true:=(hc.add t.sub_ (kR t)).dec (by omega);have h4:=(hd.add t.sub_.type_ t.sub_.id_).dec (by omega);unfold Vl;dsimp only;rw[Fv (ha.dec (by omega)),Fv (hb.dec (by omega)),Fv (hc.dec (by omega)),Fv (hd.dec (by omega)),Fv (ha.fam (by omega) _),Zo,Fv h1,Fv (hc.fam (by omega) _),Zo,Fv h3,Fv (hb.fam (by omega) _),Zo,Ge,Fv h2,Fv h2];unfold Ix kR;cases decide (t.sub_.rel={ data:= #[] })
 ·rfl
 rw[if_pos rfl,if_pos rfl,Fv (hd.fam (by omega) _),Zo,Fv h4]
theorem lL (n:Nat)(t16:List AE):∀(l:List AE) (m:Nat) (a:List (AB × List AL)) (b:List (ByteArray × List ByteArray)) (c:List (AL × List AB)) (d:List (ByteArray × List ByteArray)),small m a->small m b->small m c->small m d->m+l.length<4294967296->
  Eb (Vl n t16) (Vm n t16) l (a,b,c,d)=some (Sx l a,Hr l b,Hs l c,X3 l d)
 |[],m,a,b,c,d,ha,hb,hc,hd,hm=>by
  rw[LB] at hm;show Vm n t16 (a,b,c,d)=_;unfold Vm;dsimp only;rw[Fv (ha.dec (by omega)),Fv (hb.dec (by omega)),Fv (hc.dec (by omega)),Fv (hd.dec (by omega))];rfl
 |t::r,m,a,b,c,d,ha,hb,hc,hd,hm=>by
  rw[Lg] at hm;have h4:small (m+1) (if Ix t then An t.sub_.type_ [t.sub_.id_] d else d):=by
   split
   ·exact hd.add _ _
   exact hd.up (Bj m)
  rw[Eb,vA ha hb hc hd (by omega),lL n t16 r (m+1) _ _ _ _ (ha.add _ _) (hb.add _ _) (hc.add _ _) h4 (by omega)];unfold Sx Hr Hs X3;grind
def EE (l:List AE):Cn:=⟨⟨Sx (tO.ofL l) [],Hr (tO.ofL l) []⟩,⟨Hs (tO.ofL l) [],X3 (tO.ofL l) []⟩⟩
theorem vB {n:Nat}{l:List AE}(h:l.length<=1000000)(hn:1000000<n):Vn n l=some (EE l):=by
 have hl:=Xl tO l;have hz:=fun{K α:Type} [BEq K]=>@MR K α _ 0;have hL:S7 n (tO.ofL l) n (([]:List (AB × List AL)),([]:List (ByteArray × List ByteArray)),([]:List (AL × List AB)),([]:List (ByteArray × List ByteArray)),0)=_:=vz n (tO.ofL l) (by omega) n ([],[],[],[]) 0 (by omega) (by omega)
 rw[Nt,lL n _ _ 0 [] [] [] [] MR MR MR MR (by omega)] at hL;have s1:small (0+(tO.ofL l).length) (Sx (tO.ofL l) []):=VS _ _ _ 0 [] MR;have s2:small (0+(tO.ofL l).length) (Hr (tO.ofL l) []):=VS _ _ _ 0 [] MR;have s3:small (0+(tO.ofL l).length) (Hs (tO.ofL l) []):=VS _ _ _ 0 [] MR;have s4:small (0+((tO.ofL l).filter Ix).length) (X3 (tO.ofL l) []):=VS _ _ _ 0 [] MR;have hf:((tO.ofL l).filter Ix).length<=(tO.ofL l).length:=NP _ _;unfold Vn;rw[u7 (by omega),Zo,hL,Zo];dsimp only;rw[Fv (s1.dec (by omega)),Fv (s2.dec (by omega)),Fv (s3.dec (by omega)),Fv (s4.dec (by omega))];rfl
def GM (s:List AE)(o:Ao)(rel:ByteArray):List AL:=(s.filter fun t=>(⟨o,rel⟩:AB)==kR t).map (·.sub_)
theorem vC (s:List AE)(o:Ao)(rel:ByteArray):qg_ (⟨o,rel⟩:AB) [] (Sx s [])=GM s o rel:=by
 unfold Sx GM;rw[lK];rfl
theorem cC (s:List AE)(o:Ao)(rel:ByteArray):(GM s o rel).length<=s.length:=by unfold GM;grind
theorem aR (x y:AL):((x.type_==y.type_)&&((x.id_==y.id_)&&(x.rel==y.rel)))=decide (x=y):=by
 obtain⟨a,b,c⟩:=x;obtain⟨a',b',c'⟩:=y;rw[NF];simp
theorem aS {n:Nat}{l:List AL}{v:AL}(hn:l.length<n)(hx:l.length<4611686018427387904):Qv n l v=some (decide (v∈l)):=by
 obtain⟨r,h1,h2⟩:=jj (L:=Xt n l v) (P:=fun x=>some ((v.type_==x.type_)&&((v.id_==x.id_)&&(v.rel==x.rel)))) (fun x=>decide (v=x)) (fun _ _=>rfl) (fun x _=>by rw[aR]) hx n 0 (Ll _) (by omega);have h1:Xt n l v n 0=some r:=h1;unfold Qv Xu;rw[h1,Zo];rw[Nt] at h2;have e:l.any (fun x=>decide (v=x))=decide (v∈l):=by
  rw[NF];simp
 rcases h2 with⟨h2,k,rfl⟩ |⟨h2,rfl⟩
 ·rw[<-e,h2];simp
 rw[<-e,h2];rfl
theorem XU {n:Nat}{l:List AE}(hl:l.length<=1000000)(o:Ao)(rel:ByteArray):PO n (EE l).left o rel=some (GM (tO.ofL l) o rel):=by
 have h1:qg_ (⟨o,rel⟩:AB) [] (EE l).left.subs=GM (tO.ofL l) o rel:=vC (tO.ofL l) o rel;have h2:=cC (tO.ofL l) o rel;have h3:=Xl tO l;unfold PO;rw[h1];cases hm:Ar (⟨o,rel⟩:AB) (EE l).left.subs with
 |true=>
  rw[if_pos rfl];exact u9 _ (by omega)
 |false=>
  simp_all [if_neg,Ar,qg_,mget,EE]
def Jt (s:AL):AB:=⟨⟨s.type_,s.id_⟩,s.rel⟩
def Ju (l:List AL):List AB:=(l.filter fun s=>decide (s.rel≠{ data:= #[] })).map Jt
theorem aT (n:Nat)(t:List AL):∀(l:List AL) (out:List AB),out.length+l.length<=4294967296->Eb (VO n t) (bf n t) l out=some (out++Ju l)
 |[],out,_=>by
  show some out=_;simp[Ju]
 |x::l,out,h=>by
  simp only[Lg] at h;have st:∀k:List AB->Option (List AB),VO n t out x k=if decide (x.rel={ data:= #[] }) then k out else(EA out [Jt x]).bind k:=fun k=>by
   unfold VO;dsimp only;rw[Ge];rfl
  rw[Eb,st];by_cases e:x.rel={ data:= #[] }
  ·rw[decide_eq_true e,if_pos rfl,aT n t l out (by omega)];simp[Ju,e]
  rw[decide_eq_false e,if_neg (by decide),Ef (by grind),Zo,aT n t l _ (by grind)];simp[Ju,e]
theorem sy {n:Nat}{sc:AC}{l r0:List AE}(hl:l.length<=1000000)(hn:1000000<n)(r:AB)(he:(qg_ (⟨r.obj.type_,r.rel⟩:AA) (⟨ByteArray.empty,[],[]⟩:Ac) sc.rels).expr= []):Qu n ⟨sc,EE l,r0⟩ r=some (Ju (GM (tO.ofL l) r.obj r.rel)):=by
 obtain⟨m,rfl⟩:∃m,n=m+1:=⟨n-1,by omega⟩;have h2:=cC (tO.ofL l) r.obj r.rel;have h3:=Xl tO l;have hL:Ss (m+1) (GM (tO.ofL l) r.obj r.rel) (m+1) (([]:List AB),0)=_:=uY (m+1) (GM (tO.ofL l) r.obj r.rel) (by omega) (m+1) [] 0 (by omega) (by omega);rw[Nt,aT _ _ _ _ (by simp only[LB];omega)] at hL;unfold Qu Gm;rw[Zo];unfold Kb;dsimp only;rw[he];have e0:decide ((0:Int)<(([]:List AY).length:Int))=false:=by decide
 rw[e0,if_neg (by decide),Zo,if_neg (by decide),XU hl,Zo,hL];rfl
theorem ME {l:List AE}{o:Ao}{rel:ByteArray}{s:AL}:s∈GM (tO.ofL l) o rel↔∃t∈l,t.obj=o/\t.rel=rel/\t.sub_=s:=by
 unfold GM;rw[LQ];constructor
 ·rintro⟨t,h1,h2⟩;obtain⟨h3,h4⟩:=Nh.1 h1;have h5:=eq_of_beq h4;simp only[kR,AB.mk.injEq] at h5;exact⟨t,tO.mem_ofL.1 h3,h5.1.symm,h5.2.symm,h2⟩
 rintro⟨t,h1,h2,h3,h4⟩;refine⟨t,Nh.2 ⟨tO.mem_ofL.2 h1,?_⟩,h4⟩;rw[<-h2,<-h3];exact beq_self_eq_true _
theorem XV {l:List AL}{d:AB}:d∈Ju l↔∃s∈l,s.rel≠{ data:= #[] }/\Jt s=d:=by
 unfold Ju;grind
section
variable {n:Nat}{sc:AC}{l r0:List AE}(hl:l.length<=10000)(hn:1000000<n)
def QU (l:List AE)(o:Ao)(x:AY):List AB:=(GM (tO.ofL l) o x.a).map fun s=>⟨⟨s.type_,s.id_⟩,x.b⟩
theorem Uq (l:List AE)(o:Ao)(rel:ByteArray):(GM (tO.ofL l) o rel).length<=l.length:=Lp (cC _ _ _) (Xl tO l)
include hl hn in
theorem iW (o:Ao)(x:AY):Sr n ⟨sc,EE l,r0⟩ o x=some (QU l o x):=by
 have h2:=Uq l o x.a;have key:∀(ss:List AL) (l2:List AL) (out:List AB),out.length+l2.length<=4294967296->Eb (bZ n x ss) (bc n x ss) l2 out=some (out++l2.map fun s=>⟨⟨s.type_,s.id_⟩,x.b⟩):=fun ss l2=>by
  induction l2 with
  |nil=>
   intro out _;show some out=_;simp
  |cons s r ih=>
   intro out h;simp only[Lg] at h;rw[Eb];show(EA out [(⟨⟨s.type_,s.id_⟩,x.b⟩:AB)]).bind _=_;grind [Ef,List.length_singleton,Zo,List.length_append]
 have hL:VN n x (GM (tO.ofL l) o x.a) n (([]:List AB),0)=_:=uX n x (GM (tO.ofL l) o x.a) (by omega) n [] 0 (by omega) (by omega);rw[Nt,key _ _ _ (by simp only[LB];omega)] at hL;unfold Sr;rw[XU (by omega),Zo,hL];rfl
def EX (l:List AE)(o:Ao)(x:AY):List AB:=if x.kind==1 then[⟨o,x.a⟩] else if x.kind==2 then QU l o x else[]
def Gb (l:List AE)(o:Ao)(ex:List AY):List AB:=ex.flatMap (EX l o)
theorem XW (l:List AE)(o:Ao)(x:AY):(QU l o x).length<=l.length:=by unfold QU;rw[LC];exact Uq l o x.a
include hl hn in
theorem iX {r:AB}{g:Ac}{b:Bool}(he:g.expr.length<=1000):∀(d i c:Nat) (t:List AB),d=g.expr.length-i->i<=g.expr.length->d<c->t.length<=10001*i->Kb n ⟨sc,EE l,r0⟩ r (g,b) c (t,(i:Int))=some (t++Gb l r.obj (g.expr.drop i))
 |0,i,c,t,hd,hi,hc,ht=>by
  obtain⟨c,rfl⟩:=sx c;unfold Kb;dsimp only;rw[Cr,if_neg (by decide),NL (by omega)];simp[Gb]
 |d+1,i,c,t,hd,hi,hc,ht=>by
  obtain⟨c,rfl⟩:=sx c;have hlt:i<g.expr.length:=by omega
  have ih:=fun t2 h=>iX (r:=r) (b:=b) he d (i+1) c t2 (by omega) (by omega) (by omega) h;have ed:Gb l r.obj (g.expr.drop i)=EX l r.obj g.expr[i]++Gb l r.obj (g.expr.drop (i+1)):=by
   rw[Ly hlt];rfl
  unfold Kb;dsimp only;rw[Cb,if_pos rfl,Mp,Ld hlt,Zo,As,ed];have ha:=XW l r.obj g.expr[i];unfold EX;split
  ·grind [Ef,List.length_singleton,Zo,List.length_append,List.append_assoc]
  split
  ·rw[iW hl hn,Zo];by_cases h0:t.length=0
   ·obtain rfl:=LW h0;rw[decide_eq_true h0,if_pos rfl,Ef (by simp only[LB];omega),Zo,ih _ (by omega),LE]
   rw[decide_eq_false h0,if_neg (by decide),Ef (by omega),Zo,ih _ (by rw[Lf];omega),Lq]
  rw[ih t (by omega),LE]
def D1 (sc:AC)(l:List AE)(r:AB):List AB:=if (qg_ (⟨r.obj.type_,r.rel⟩:AA) DX sc.rels).expr= [] then Ju (GM (tO.ofL l) r.obj r.rel) else Gb l r.obj (qg_ (⟨r.obj.type_,r.rel⟩:AA) DX sc.rels).expr
include hl hn in
theorem tA (hS:Fw sc)(r:AB):Qu n ⟨sc,EE l,r0⟩ r=some (D1 sc l r):=by
 have hb:=(Kl hS ⟨r.obj.type_,r.rel⟩).2.1;unfold D1;by_cases he:(qg_ (⟨r.obj.type_,r.rel⟩:AA) DX sc.rels).expr= []
 ·rw[if_pos he];exact sy (by omega) hn r he
 rw[if_neg he];unfold Qu;rw[JM,Zo];have e1:Kb n ⟨sc,EE l,r0⟩ r (qg_ (⟨r.obj.type_,r.rel⟩:AA) DX sc.rels,Ar (⟨r.obj.type_,r.rel⟩:AA) sc.rels) n (([]:List AB),0)=_:=iX hl hn (by omega) _ 0 n [] rfl (Ll _) (by omega) (Ll _);simp_all
include hl hn in
theorem kd_ (hS:Fw sc)(r:AB):Ir n ⟨sc,EE l,r0⟩ r=some (Ca sc.ranks ⟨r.obj.type_,r.rel⟩,D1 sc l r):=by
 unfold Ir;rw[tA hl hn hS];rfl
include hl hn in
theorem iY (o:Ao)(x:AY)(hk:(x.kind==1||x.kind==2)=true):Q0 n ⟨sc,EE l,r0⟩ o x=some (EX l o x):=by
 unfold Q0 EX;split
 ·rfl
 rename_i h;rw[if_pos (by simpa [h] using hk)];exact iW hl hn o x
include hl hn in
theorem aU {o:Ao}{N:List PN}:∀(ex:List AY) (st:List Bool),(∀d∈Gb l o ex,(Cp d N).isSome=true)->st.length+ex.length<=1000->∃b,Hu n ⟨sc,EE l,r0⟩ o N ex st=some b
 |[],st,_,_=>⟨_,rfl⟩
 |x::ex,st,hd,hs=>by
  simp only[Lg] at hs;have hd1:∀d∈EX l o x,(Cp d N).isSome=true:=fun d h=>hd d (LS _ h);have hd2:∀d∈Gb l o ex,(Cp d N).isSome=true:=fun d h=>hd d (LZ _ h);unfold Hu Sz;by_cases hk:(x.kind==1||x.kind==2)=true
  ·rw[if_pos hk,iY hl hn o x hk,Zo,if_pos]
   ·rw[Zo];exact aU ex _ hd2 (by grind)
   have hll:(EX l o x).length<=10001:=by
    have:=XW l o x;unfold EX;split
    ·simp
    split
    ·omega
    simp
   grind
  rw[if_neg hk];by_cases h2:st.length<2
  ·rw[if_pos h2];exact⟨_,rfl⟩
  rw[if_neg h2,Zo];exact aU ex _ hd2 (by grind)
include hl hn in
theorem tB (hS:Fw sc){s:AL}{N:List PN}{r:AB}{x:PN}(hf:Cp r N=some x)(hx:x.deps=D1 sc l r)(hd:∀d∈D1 sc l r,(Cp d N).isSome=true):∃b,Ek n ⟨sc,EE l,r0⟩ s N r=some b:=by
 have hb:=(Kl hS ⟨r.obj.type_,r.rel⟩).2.1;have hsl:=Uq l r.obj r.rel;unfold Ek;rw[JM,Zo];dsimp only;cases he:(qg_ (⟨r.obj.type_,r.rel⟩:AA) DX sc.rels).expr.isEmpty with
 |true=>
  have he2:=Od.1 he;have hdl:(D1 sc l r).length<=10000:=by
   unfold D1;rw[if_pos he2];unfold Ju;rw[LC];exact Lp (NP _ _) (by omega)
  rw[if_pos rfl];unfold KF;rw[JM,Zo];dsimp only;rw[he,if_pos rfl,XU (by omega),Zo,aS (by omega) (by omega),Zo,hf,Zo,hx,if_pos]
  ·exact⟨_,rfl⟩
  grind
 |false=>
  have he2:(qg_ (⟨r.obj.type_,r.rel⟩:AA) DX sc.rels).expr≠[]:=fun h=>by rw[h] at he;cases he
  rw[if_neg (by decide),ifp];refine aU hl hn _ [] (fun d h=>hd d ?_) (by simp only[LB];omega);unfold D1;rw[if_neg he2];exact h
end
def Ez (S:AC)(t:AE):Prop:=(⟨t.sub_.type_,ByteArray.empty,t.sub_.rel⟩:AL)∈(qg_ (⟨t.obj.type_,t.rel⟩:AA) DX S.rels).subs
section
variable {ts:List AT}{S:AC}
section
variable (hW:Vu ts S)(hB:JG ts)
include hW hB in
theorem tC:Fw S:=fun p hp=>by
 rw[hW.rels] at hp;obtain⟨t,ht,g,hg,rfl⟩:=dV.1 hp;exact(hB.2 t ht).2 g hg
include hW in
theorem tD {m:AA}(h:Ar m S.rels=true):∃t∈ts,∃g∈t.rels,m=⟨t.name,g.name⟩/\qg_ m DX S.rels=g:=by
 have h1:=Pb.1 h;rw[hW.rels,Vv] at h1;obtain⟨t,ht,g,hg,rfl⟩:=nV.1 h1;refine⟨t,ht,g,hg,rfl,?_⟩;unfold qg_;rw[nW hW.rels hW.keys ht hg];rfl
end
variable (hW:Es ts S)(hB:JG ts)
include hW hB in
theorem Ur:Fw S:=tC hW.toVu hB
include hW in
theorem iZ {m:AA}(h:Ar m S.rels=true):∃t∈ts,∃g∈t.rels,m=⟨t.name,g.name⟩/\qg_ m DX S.rels=g:=tD hW.toVu h
theorem tE {b:ByteArray}(h:(b.toList==({ data:= #[] }:ByteArray).toList)=true):b={ data:= #[] }:=by
 rw[Ge] at h;exact of_decide_eq_true h
include hW in
theorem aV {l:List AE}(hfit:∀t∈l,Ez S t){r d:AB}(hr:Ar (⟨r.obj.type_,r.rel⟩:AA) S.rels=true)(hd:d∈D1 S l r):Ar (⟨d.obj.type_,d.rel⟩:AA) S.rels=true/\(d.obj=r.obj\/∃t∈l,d.obj=⟨t.sub_.type_,t.sub_.id_⟩):=by
 obtain⟨t,ht,g,hg,e1,e2⟩:=iZ hW hr;obtain⟨n1,n2⟩:=hW.nms t ht g hg;have ety:r.obj.type_=t.name:=congrArg AA.typ e1;unfold D1 at hd;split at hd
 ·obtain⟨s,hs,hne,rfl⟩:=XV.1 hd;obtain⟨u,hu,q1,q2,q3⟩:=ME.1 hs;have hf:=hfit u hu;unfold Ez at hf;rw[q1,q2,q3,e2] at hf;refine⟨?_,.inr ⟨u,hu,by rw[q3];rfl⟩⟩;rcases(n1 _ hf).2 with h |h
  ·exact absurd (tE h) hne
  exact h
 rw[e2] at hd;unfold Gb at hd;obtain⟨x,hx,hd⟩:=Ob.1 hd;obtain⟨s1,s2⟩:=n2 x hx;unfold EX at hd;split at hd
 ·grind
 split at hd
 ·rename_i hk;obtain⟨a1,a2,a3⟩:=s2 (eq_of_beq hk);rw[<-ety] at a3;unfold QU at hd;obtain⟨s,hs,rfl⟩:=LQ.1 hd;obtain⟨u,hu,q1,q2,q3⟩:=ME.1 hs;have hf:=hfit u hu;unfold Ez at hf;rw[q1,q2,q3] at hf;exact⟨(a3 _ hf).1,.inr ⟨u,hu,by rw[q3]⟩⟩
 cases hd
def Sf (l:List AE)(o:Ao):List Ao:=o::l.map fun t=>⟨t.sub_.type_,t.sub_.id_⟩
def MF (ts:List AT)(l:List AE)(o:Ao):List AB:=(Sf l o).flatMap fun p=>((FY ts).filter fun q=>q.typ==p.type_).map fun q=>⟨p,q.rel⟩
theorem ic {l:List AE}{o:Ao}{r:AB}:r∈MF ts l o↔r.obj∈Sf l o/\(⟨r.obj.type_,r.rel⟩:AA)∈FY ts:=by
 unfold MF;rw[Ob];constructor
 ·rintro⟨p,hp,hr⟩;obtain⟨q,hq,rfl⟩:=LQ.1 hr;obtain⟨h1,h2⟩:=Nh.1 hq;refine⟨hp,?_⟩
  have:(⟨p.type_,q.rel⟩:AA)=q:=by rw[<-eq_of_beq h2]
  exact this▸h1
 rintro⟨h1,h2⟩;exact⟨r.obj,h1,LQ.2 ⟨⟨r.obj.type_,r.rel⟩,Nh.2 ⟨h2,beq_self_eq_true _⟩,rfl⟩⟩
theorem aW (a:ByteArray):∀ {l:List AT},(l.map (·.name)).Nodup->(∀t∈l,t.rels.length<=200)->((FY l).filter fun q=>q.typ==a).length<=200/\(a∉l.map (·.name)->((FY l).filter fun q=>q.typ==a)= [])
 |[],_,_=>⟨Ll _,fun _=>rfl⟩
 |t::l,hn,hb=>by
  rw[Lk,Ng] at hn;obtain⟨i1,i2⟩:=aW a hn.2 fun x hx=>hb x (Lh _ hx);have e:FY (t::l)=t.rels.map (fun g=>⟨t.name,g.name⟩)++FY l:=by simp[FY]
  have hf:(t.rels.map fun g=>(⟨t.name,g.name⟩:AA)).filter (fun q=>q.typ==a)=if t.name=a then t.rels.map fun g=>⟨t.name,g.name⟩ else[]:=by
   split
   ·simp_all
   simp_all
  grind
theorem aX {α:Type}[DecidableEq α]:∀L:List α,∃U:List α,U.Nodup/\(∀x,x∈U↔x∈L)/\U.length<=L.length
 |[]=>⟨[],NZ,fun _=>Iff.rfl,Lc _⟩
 |a::L=>by
  obtain⟨U,h1,h2,h3⟩:=aX L;by_cases h:a∈U
  ·grind
  exact⟨a::U,Ng.2 ⟨h,h1⟩,fun x=>by rw[Lm,Lm,h2],by grind⟩
theorem ig (l:List AE)(o:Ao):∀ex:List AY,(Gb l o ex).length<=ex.length*(l.length+1)
 |[]=>Ll _
 |x::ex=>by
  have h1:=ig l o ex;have h2:=XW l o x;have h3:(EX l o x).length<=l.length+1:=by
   unfold EX;split
   ·simp
   split
   ·omega
   simp
  have e:Gb l o (x::ex)=EX l o x++Gb l o ex:=rfl;rw[e,Lf,Lg,Oz];omega
theorem aY {α β:Type}(f:α->List β)(k:Nat):∀ {l:List α},(∀x∈l,(f x).length<=k)->(l.flatMap f).length<=l.length*k
 |[],_=>Ll _
 |a::l,h=>by
  have h1:=h a (Lo ..);have h2:=aY f k fun x hx=>h x (Lh _ hx);rw[If,Lf,Lg,Oz];omega
theorem aZ {α:Type}(f:α->Nat)(k:Nat):∀ {l:List α},(∀x∈l,f x<=k)->(l.map f).sum<=l.length*k
 |[],_=>Ll _
 |a::l,h=>by
  have h1:=h a (Lo ..);have h2:=aZ f k fun x hx=>h x (Lh _ hx);rw[Lk,BV,Lg,Oz];omega
include hW hB in
theorem ii {l:List AE}(hl:l.length<=100)(r:AB):(D1 S l r).length<=20200:=by
 have hb:=(Ur hW hB|>fun h=>Kl h ⟨r.obj.type_,r.rel⟩).2.1;unfold D1;split
 ·grind [Uq,Ju,List.length_map,Nat.le_trans,List.length_filter_le]
 refine Lp (ig l r.obj _) (Lp (BL hb (Nat.succ_le_succ hl)) (by decide))
include hW hB in
theorem tF {n:Nat}{l r0:List AE}{o:Ao}{rel:ByteArray}{s:AL}(hl:l.length<=100)(hn:2000000000<n)(hfit:∀t∈l,Ez S t)(hk:Ar (⟨o.type_,rel⟩:AA) S.rels=true):∃b,Hw n ⟨S,EE l,r0⟩ o rel s=some b:=by
 have hS:=Ur hW hB;obtain⟨U,u1,u2,u3⟩:=aX (MF ts l o);have hUl:U.length<=20200:=by
  refine Lp u3 (Lp (aY _ 200 fun p _=> ?_) ?_)
  ·rw[LC];exact(aW p.type_ hW.tys fun t ht=>(hB.2 t ht).1).1
  grind [Sf,List.length_cons,List.length_map,Nat.le_trans,Nat.mul_le_mul_right]
 have mU:∀r,r∈U↔r.obj∈Sf l o/\Ar (⟨r.obj.type_,r.rel⟩:AA) S.rels=true:=fun r=>by
  rw[u2,ic,Pb,hW.rels,Vv]
 have hc:∀r∈U,∀d∈D1 S l r,d∈U:=fun r hr d hd=>by
  obtain⟨h1,h2⟩:=(mU r).1 hr;obtain⟨c1,c2⟩:=aV hW hfit h2 hd;refine(mU d).2 ⟨?_,c1⟩;rcases c2 with c2 |⟨t,ht,c2⟩
  ·rw[c2];exact h1
  rw[c2];exact Lh _ (LH ht)
 refine vD (U:=U) (D:=D1 S l) (rk:=fun r=>Ca S.ranks ⟨r.obj.type_,r.rel⟩) u1 (by omega) ((mU _).2 ⟨Lo ..,hk⟩) (fun r _=>kd_ (by omega) (by omega) hS r) hc ?_ hn fun K St N k1 k2 k3 k4 r hr=> ?_
 ·unfold total;exact Lp (aZ _ 20200 fun r _=>ii hW hB hl r) (Lp (LR _ hUl) (by decide))
 obtain⟨x,hx⟩:=JJ (N:=N) (r:=r) (by rw[k2];exact hr);obtain⟨x1,x2⟩:=Iw hx;refine tB (by omega) (by omega) hS hx (by rw[(k3 x x1).1,x2]) fun d hd=> ?_;rw[VT,k2];exact k4 r hr d hd
end
theorem tG {n:Nat}{S:AC}{l r0 r1:List AE}(hl:l.length<=10000)(hn:1000000<n)(hS:Fw S)(o:Ao)(rel:ByteArray)(s:AL):Hw n ⟨S,EE l,r0⟩ o rel s=Hw n ⟨S,EE l,r1⟩ o rel s:=by
 have e1:Ir n ⟨S,EE l,r0⟩=Ir n ⟨S,EE l,r1⟩:=funext fun r=>by rw[kd_ hl hn hS,kd_ hl hn hS]
 have e2:∀ob x,Q0 n ⟨S,EE l,r0⟩ ob x=Q0 n ⟨S,EE l,r1⟩ ob x:=fun ob x=>by
  rfl
 have e3:∀ob N ex st,Hu n ⟨S,EE l,r0⟩ ob N ex st=Hu n ⟨S,EE l,r1⟩ ob N ex st:=fun ob N ex=>by
  induction ex with
  |nil=>exact fun _=>rfl
  |cons x ex ih=>
   grind [Hu,Sz]
 have e4:Ek n ⟨S,EE l,r0⟩ s=Ek n ⟨S,EE l,r1⟩ s:=funext fun N=>funext fun r=>by
  unfold Ek;simp only[e3];rfl
 unfold Hw;rw[e1,e4]
end Go.Proofs.YtnmkbmefohakmaaGreat.Ab
