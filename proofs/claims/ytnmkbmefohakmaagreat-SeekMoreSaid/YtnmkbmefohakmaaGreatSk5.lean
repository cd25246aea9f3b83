/-
 The search's nodes as they stand: a map of pointers, boxes, rows that grow.
-/
import Derived.Test.YtnmkbmefohakmaaGreatSk2
set_option linter.all false
namespace Go.Proofs.YtnmkbmefohakmaaGreat.Ab
open Go.RowKit IntKind
def Gm (_:Nat)(s:AC)(typ:ByteArray)(rel:ByteArray):Option (Ac × Bool):=some ((⟨(qg_ (⟨typ,rel⟩:AA) (⟨ByteArray.empty,[],[]⟩:Ac) s.rels).name,(qg_ (⟨typ,rel⟩:AA) (⟨ByteArray.empty,[],[]⟩:Ac) s.rels).subs,(qg_ (⟨typ,rel⟩:AA) (⟨ByteArray.empty,[],[]⟩:Ac) s.rels).expr⟩:Ac),(Ar (⟨typ,rel⟩:AA) s.rels))
theorem Ka {n:Nat}{s:AC}{typ:ByteArray}{rel:ByteArray}{r:Ac × Bool}(H:Gm n s typ rel=some r):AI Tryz.prog 65 [D.pt (Ap s) 0,D.v (.string typ),D.v (.string rel)] (D.tu [D.ag (Al r.1),D.v (.bool r.2)]) false:=by
 unfold Gm at H;refine zP #[.cell 6 52,.tmp 7] Tryz.func65 ?_;refine ZT 1 ?_;have h1:EM (true,[.string,.string]) (.agg #[.string typ,.string rel]) (.d (.ag [.v (.string ByteArray.empty),.sl [],.sl []]) true) true (Et true (CO qb_ true Al s.rels))=some (.tu [.d (.ag [.v (.string (qg_ (⟨typ,rel⟩:AA) (⟨ByteArray.empty,[],[]⟩:Ac) s.rels).name),.sl (List.map AZ (qg_ (⟨typ,rel⟩:AA) (⟨ByteArray.empty,[],[]⟩:Ac) s.rels).subs),.sl (List.map Aj (qg_ (⟨typ,rel⟩:AA) (⟨ByteArray.empty,[],[]⟩:Ac) s.rels).expr)]) true,.v (.bool (Ar (⟨typ,rel⟩:AA) s.rels))],[]):=HU (b:=true) (ag:=true) (enc:=Al) Kc (⟨typ,rel⟩:AA) ((⟨ByteArray.empty,[],[]⟩:Ac):Ac) true s.rels;refine Z1 h1 ?_;cases H;exact CC
theorem uU (xs:List AL)(h:decide (xs.length=0)=true):AI Tryz.prog 145 [.sl (List.map AZ xs)] (.sl []) true:=by
 rw[LW (of_decide_eq_true h)];exact SN EO D7 Tryz.func145 (T:=49) (B:=4) rfl (by kernel_rfl) (by kernel_rfl) (by decide) rfl (by simp only[go_sem]) (by simp only[go_sem]) (by simp only[go_sem];decide) (by simp only[go_sem];decide)
theorem uV (xs:List AL)(h0:0<xs.length)(hn:xs.length<=4294967296){b:Bool}{hp:Hp}{nx:Nat}:AK Tryz.prog 145 [.d (.sl (List.map AZ xs)) b] hp nx fun v hp2 nx2=>v= .so (nx+3) 1 0 xs.length/\hp2=upd (nx+3) (some (.rw (List.map AZ xs) 3 1 false false)) hp/\nx2=nx+7:=by
 have h:=Z2 (e:=AZ) (k:=3) (b:=b) (hp:=hp) (nx:=nx) EO D7 Tryz.func145 (T:=49) (B:=4) rfl (by kernel_rfl) (by kernel_rfl) (by decide) rfl (by simp only[go_sem]) (by simp only[go_sem]) (by simp only[go_sem]) (by decide) (by simp only[go_sem];decide) (fun _=>rfl) xs h0 hn;rw[Wz (f:=AZ) (fun _=>rfl),BQ,ND] at h;exact h
theorem uW {hp:Hp}{nx:Nat}:AK Tryz.prog 145 [.v (.slice none 0 0)] hp nx fun v hp2 nx2=>v= .v (.slice none 0 0)/\hp2=hp/\nx2=nx+4:=by
 refine zr Tryz.func145 ?_;refine Z0 ?_;exact Jc (v:=.v (.slice none 0 0)) (by simp -implicitDefEqProofs only[go_sem, ↓reduceIte,Tryz.f145]<;>rfl) ⟨rfl,rfl,rfl⟩
def PO (_:Nat)(x:DO)(o:Ao)(rel:ByteArray):Option (List AL):=(if (Ar (⟨o,rel⟩:AB) x.subs) then (if (decide ((qg_ (⟨o,rel⟩:AB) [] x.subs).length=0)) then some [] else DD (decide ((qg_ (⟨o,rel⟩:AB) [] x.subs).length<=4294967296))<| some (qg_ (⟨o,rel⟩:AB) [] x.subs)) else some [])
theorem bY {n:Nat}{x:DO}{o:Ao}{rel:ByteArray}{r:List AL}(H:PO n x o rel=some r):AI Tryz.prog 123 [D.pt (D6 x) 0,D.ag (Du o),D.v (.string rel)] (D.sl (List.map AZ r)) true:=by
 unfold PO at H;refine zP #[.tmp 6] Tryz.func123 ?_;refine AN ?_;obtain⟨c1,H2⟩ |⟨c1,H2⟩:=CM H
 ·have h3:EM (true,[.string,.string,.string]) (.agg #[.string o.type_,.string o.id_,.string rel]) (.v (.slice none 0 0)) false (Et true (CO Fs false (eL AZ) x.subs))=some (.d (.sl (List.map AZ (qg_ (⟨o,rel⟩:AB) [] x.subs))) true,[]):=sI (b:=true) (ag:=false) (enc:=(eL AZ)) Qw (⟨o,rel⟩:AB) ([]:List AL) x.subs _ c1;have w185_:=Y2 c1 h3;refine Z1 w185_ ?_;obtain⟨c4,H5⟩ |⟨c4,H5⟩:=CM H2
  ·have w186_:=Y2 w185_ c4;refine Z1 w186_ ?_;refine Ea (uU (qg_ (⟨o,rel⟩:AB) [] x.subs) c4) ?_;refine GU w186_ ?_;cases H5;exact CC
  obtain⟨g6,H7⟩:=Ev H5;have h8:(qg_ (⟨o,rel⟩:AB) [] x.subs).length<=4294967296:=of_decide_eq_true g6;have q9:0<(qg_ (⟨o,rel⟩:AB) [] x.subs).length:=by have:=of_decide_eq_false c4;omega
  have w187_:=Y2 w185_ c4;refine Z1 w187_ ?_;refine P3 (ids':=[]) (v:=.so 15 1 0 (qg_ (⟨o,rel⟩:AB) [] x.subs).length) (δ:=[(15,.rw (List.map AZ (qg_ (⟨o,rel⟩:AB) [] x.subs)) 3 1 false false)]) (nx':=19) (fun hp1 _=>AK.mono (uV (qg_ (⟨o,rel⟩:AB) [] x.subs) q9 h8) fun v2 hp2 nx2 e=>e) ?_;have w188_:=Y2 w187_ h8;refine GU w188_ ?_;cases H7;exact bi w188_
 have h13:EM (true,[.string,.string,.string]) (.agg #[.string o.type_,.string o.id_,.string rel]) (.v (.slice none 0 0)) false (Et true (CO Fs false (eL AZ) x.subs))=some (.v (.slice none 0 0),[]):=sJ (b:=true) (ag:=false) (enc:=(eL AZ)) Qw (⟨o,rel⟩:AB) x.subs _ c1;have w189_:=Y2 c1 h13;refine Z1 w189_ ?_;refine P3 (ids':=[]) (v:=.v (.slice none 0 0)) (δ:=[]) (nx':=16) (fun hp1 _=>AK.mono uW fun v2 hp2 nx2 e=>e) ?_;refine GU w189_ ?_;cases H2;exact CC
def VN (n:Nat)(x:AY)(t19:List AL):Nat->(List AB × Int)->Option (List AB)
 |0,_=>none
 |c+1,(out,t21)=>(if decide (t21<(t19.length:Int)) then (C4 t19 t21).bind fun x3=>(EA out [(⟨(⟨x3.type_,x3.id_⟩:Ao),x.b⟩:AB)]).bind fun l=>VN n x t19 c (l,(i64.wrap (t21+1))) else some out)
def bZ (_:Nat)(x:AY)(_:List AL)(st:List AB)(x3:AL)(k:List AB->Option (List AB)):Option (List AB):=
 match st with
 |out=>
  (EA out [(⟨(⟨x3.type_,x3.id_⟩:Ao),x.b⟩:AB)]).bind fun l=>
  k l
def bc (_:Nat)(_:AY)(_:List AL)(st:List AB):Option (List AB):=
 match st with
 |out=>some out
theorem uX (n:Nat)(x:AY)(t19:List AL)(hx:t19.length<4611686018427387904)(c:Nat)(st:List AB)(ix:Nat)(hi:ix<=t19.length)(hc:t19.length-ix<c):VN n x t19 c (match st,(ix:Int) with |out,ix=>(out,ix))=Eb (bZ n x t19) (bc n x t19) (t19.drop ix) st:=
 Mq (fun c st ix=>VN n x t19 c (match st,ix with |out,ix=>(out,ix))) t19 (bZ n x t19) (bc n x t19) (fun _ _ _=>rfl) hx c st ix hi hc
def Sr (n:Nat)(g:AM)(o:Ao)(x:AY):Option (List AB):=(PO n g.index.left o x.a).bind fun t19=>(VN n x t19 n ([],0):Option (List AB)).bind fun out3=>some out3
theorem kZ {n:Nat}{g:AM}{o:Ao}{x:AY}{r:List AB}(H:Sr n g o x=some r):AI Tryz.prog 122 [D.pt (Aq g) 0,D.ag (Du o),D.ag (Aj x)] (D.sl (List.map AF r)) true:=by
 unfold Sr at H;refine zP #[.tmp 6] Tryz.func122 ?_;refine D3 ?_;refine AW (AW ?_);refine ZT 1 ?_;obtain⟨t19,b1,H2⟩:=AJ H;refine Z0 ?_;refine W7 (b:=true) [] (fun hp1 h1=>by exact(PW.cons (DZ.d (CW.one (Ce.rbE 2 (Ce.one (b':=true) (is:=[]) rfl (fun _=>rfl)) (by rfl)) rfl)) (PW.cons (DZ.d (CW.agP (PW.cons (Ce.one (b':=false) (is:=[]) rfl (fun _=>rfl)) (PW.cons (Ce.one (b':=false) (is:=[]) rfl (fun _=>rfl)) PW.nil)))) (PW.cons (DZ.d (CW.one (Ce.one (b':=false) (is:=[]) rfl (fun _=>rfl)) rfl)) PW.nil)))) (CQ.of_pure (bY b1)) ?_;refine PP ?_;refine GT H2 (fun _ _ out3 g4=>⟨upd 7 (Aa 0 g4 (List.map AF out3)) AQ,upd 0 (CD 3 g4 false (List.map AF out3)) AS,1⟩) (fun e_ E3 H4=> ?_) fun out3 g4 H4=> ?_
 ·refine Ft E3 (fun f _ (out,t21) g2=>⟨kp [19,20] f (upd 5 (.pt 0 0) (upd 7 (Aa 1 g2 (List.map AF out)) (upd 21 (.v (.int .i64 t21)) AQ))),upd 0 (some (.bx [.v (.int .i64 x.kind),.v (.string x.a),.v (.string x.b)])) (upd 1 (CD 3 g2 false (List.map AF out)) AS),2⟩) 0 (ZR [(0,1)]) fun c ⟨out,t21⟩ g2 L5=> ?_
  refine AN ?_;obtain⟨c14,H15⟩ |⟨c14,H15⟩:=CM L5
  ·obtain⟨x3,h18,h19,h20,H17⟩:=zI AZ H15;obtain⟨l,b22,H23⟩:=AJ H17;obtain⟨h24,h25⟩:=G7 b22;have h24:out.length+1<=4294967296:=h24;have h26:List.map AF out++[[.v (.string x3.type_),.v (.string x3.id_),.v (.string x.b)]]=List.map AF l:=GX AF h25;have h27:out.length+1=l.length:=GY h25;have h28:l.length<=4294967296:=(by omega);have q29:0<l.length:=(by omega);refine Z1 (Y6 c14 h20 h24 h26 h27 h28) ?_;rcases out with _ |⟨q0,q1⟩
   ·try simp only[LD,Cw,C8]
    exact⟨_,0,H23,ZR [(0,0),(1,17)]⟩
   try simp only[Lk,Cw,C8]
   exact⟨_,(g2+1),H23,ZR [(0,0),(1,1)]⟩
  refine Z1 c14 ?_;cases H15;exact⟨g2,ZR [(0,1)]⟩
 refine AN ?_;cases H4;exact CC
def Kb (n:Nat)(c2:AM)(t1:AB)(t22:Ac × Bool):Nat->(List AB × Int)->Option (List AB)
 |0,_=>none
 |c+1,(t7,t28)=>(if decide (t28<(t22.1.expr.length:Int)) then (C4 t22.1.expr t28).bind fun x2=>(if (x2.kind==1) then (EA t7 [(⟨t1.obj,x2.a⟩:AB)]).bind fun l2=>Kb n c2 t1 t22 c (l2,(i64.wrap (t28+1))) else (if (x2.kind==2) then (Sr n (⟨c2.schema,c2.index,c2.rows_⟩:AM) t1.obj x2).bind fun t512=>(if decide (t7.length=0) then (EA [] t512).bind fun _=>Kb n c2 t1 t22 c (t512,(i64.wrap (t28+1))) else (EA t7 t512).bind fun l4=>Kb n c2 t1 t22 c (l4,(i64.wrap (t28+1)))) else Kb n c2 t1 t22 c (t7,(i64.wrap (t28+1))))) else some t7)
def Ss (n:Nat)(t69:List AL):Nat->(List AB × Int)->Option (List AB)
 |0,_=>none
 |c+1,(t74,t71)=>(if decide (t71<(t69.length:Int)) then (C4 t69 t71).bind fun x4=>(if (x4.rel.toList==({ data:= #[] }:ByteArray).toList) then Ss n t69 c (t74,(i64.wrap (t71+1))) else (EA t74 [(⟨(⟨x4.type_,x4.id_⟩:Ao),x4.rel⟩:AB)]).bind fun l6=>Ss n t69 c (l6,(i64.wrap (t71+1)))) else some t74)
def VO (_:Nat)(_:List AL)(st:List AB)(x4:AL)(k:List AB->Option (List AB)):Option (List AB):=
 match st with
 |t74=>
  (if (x4.rel.toList==({ data:= #[] }:ByteArray).toList) then
   k t74
  else
   (EA t74 [(⟨(⟨x4.type_,x4.id_⟩:Ao),x4.rel⟩:AB)]).bind fun l6=>
   k l6)
def bf (_:Nat)(_:List AL)(st:List AB):Option (List AB):=
 match st with
 |t74=>some t74
theorem uY (n:Nat)(t69:List AL)(hx:t69.length<4611686018427387904)(c:Nat)(st:List AB)(ix:Nat)(hi:ix<=t69.length)(hc:t69.length-ix<c):Ss n t69 c (match st,(ix:Int) with |t74,ix=>(t74,ix))=Eb (VO n t69) (bf n t69) (t69.drop ix) st:=
 Mq (fun c st ix=>Ss n t69 c (match st,ix with |t74,ix=>(t74,ix))) t69 (VO n t69) (bf n t69) (fun _ _ _=>rfl) hx c st ix hi hc
def Qu (n:Nat)(c2:AM)(t1:AB):Option (List AB):=(Gm n c2.schema t1.obj.type_ t1.rel).bind fun t22=>(Kb n c2 t1 t22 n ([],0):Option (List AB)).bind fun t73=>(if decide (0<(t22.1.expr.length:Int)) then some t73 else (PO n c2.index.left t1.obj t1.rel).bind fun t69=>(Ss n t69 n (t73,0):Option (List AB)).bind fun t76=>some t76)
set_option maxHeartbeats 8000000 in
theorem uZ {n:Nat}{c2:AM}{t1:AB}{r:List AB}(H:Qu n c2 t1=some r):AI Tryz.prog 96 [D.pt (Aq c2) 0,D.ag (AF t1)] (D.sl (List.map AF r)) true:=by
 unfold Qu at H;refine zP #[.tmp 4] Tryz.func96 ?_;refine Az ?_;refine AW (ZT 1 ?_);obtain⟨t22,b1,H2⟩:=AJ H;refine Z0 ?_;refine Ea (Ka b1) ?_;refine PP ?_;refine Qx ?_;refine GT H2 (fun _ _ t73 g3=>⟨upd 0 (.d (.pt [.pt [.mp (CO Value.string false eI c2.schema.types),.mp (CO qb_ true Al c2.schema.rels),.mp (CO qb_ false eI c2.schema.ranks)] 0,.pt [.mp (CO Fs false (eL AZ) c2.index.left.subs),.mp (CO Value.string false (eL eS) c2.index.left.objs),.mp (CO GS false (eL AF) c2.index.right.refs),.mp (CO Value.string false (eL eS) c2.index.right.users)] 0,.sl (List.map AH c2.rows_)] 0) true) (upd 3 (.pt 0 0) (upd 5 (.pt 1 0) (upd 7 (Aa 2 g3 (List.map AF t73)) AQ))),upd 0 (some (.bx [.v (.string t1.obj.type_),.v (.string t1.obj.id_),.v (.string t1.rel)])) (upd 1 (some (.bx [.v (.string t22.1.name),.d (.sl (List.map AZ t22.1.subs)) true,.d (.sl (List.map Aj t22.1.expr)) true])) (upd 2 (CD 3 g3 false (List.map AF t73)) AS)),3⟩) (fun e_ E3 H4=> ?_) fun t73 g3 H4=> ?_
 ·refine Ft E3 (fun f _ (t7,t28) g=>⟨kp [26,27] f (upd 0 (.d (.pt [.pt [.mp (CO Value.string false eI c2.schema.types),.mp (CO qb_ true Al c2.schema.rels),.mp (CO qb_ false eI c2.schema.ranks)] 0,.pt [.mp (CO Fs false (eL AZ) c2.index.left.subs),.mp (CO Value.string false (eL eS) c2.index.left.objs),.mp (CO GS false (eL AF) c2.index.right.refs),.mp (CO Value.string false (eL eS) c2.index.right.users)] 0,.sl (List.map AH c2.rows_)] 0) true) (upd 3 (.pt 0 0) (upd 5 (.pt 1 0) (upd 7 (Aa 2 g (List.map AF t7)) (upd 28 (.v (.int .i64 t28)) AQ))))),upd 0 (some (.bx [.v (.string t1.obj.type_),.v (.string t1.obj.id_),.v (.string t1.rel)])) (upd 1 (some (.bx [.v (.string t22.1.name),.d (.sl (List.map AZ t22.1.subs)) true,.d (.sl (List.map Aj t22.1.expr)) true])) (upd 2 (CD 3 g false (List.map AF t7)) AS)),3⟩) 0 (ZR [(0,0),(1,15)]) fun c ⟨t7,t28⟩ g L5=> ?_
  refine AN ?_;obtain⟨c24,H25⟩ |⟨c24,H25⟩:=CM L5;rotate_left
  ·refine Z1 c24 ?_;cases H25;exact⟨g,ZR [(0,0),(1,1),(2,2)]⟩
  obtain⟨x2,h28,h29,h30,H27⟩:=zI Aj H25;have w190_:=Y2 c24 h30;refine Z1 w190_ ?_;obtain⟨c32,H33⟩ |⟨c32,H33⟩:=CM H27
  ·obtain⟨l2,b34,H35⟩:=AJ H33;obtain⟨h36,h37⟩:=G7 b34;have h36:t7.length+1<=4294967296:=h36;have h38:List.map AF t7++[[.v (.string t1.obj.type_),.v (.string t1.obj.id_),.v (.string x2.a)]]=List.map AF l2:=GX AF h37;have h39:t7.length+1=l2.length:=GY h37;have h40:l2.length<=4294967296:=(by omega);have q41:0<l2.length:=(by omega);refine Z1 (Y6 w190_ c32 h36 h38 h39 h40) ?_;rcases t7 with _ |⟨q0,q1⟩
   ·try simp only[LD,Cw,C8]
    exact⟨_,0,H35,ZR [(0,0),(1,1),(2,19)]⟩
   try simp only[Lk,Cw,C8]
   exact⟨_,(g+1),H35,ZR [(0,0),(1,1),(2,2)]⟩
  have w191_:=Y2 w190_ c32;refine Z1 w191_ ?_;obtain⟨w192_,H43⟩ |⟨w192_,H43⟩:=DU w191_ H33
  ·obtain⟨t512,b44,H45⟩:=AJ H43;refine Z1 w192_ ?_;refine DB (kZ b44) ?_;have w193_:=Y2 w192_ (K4 (n:=3) (f:=AF) (fun _=>rfl) t512);refine Z1 w193_ ?_;obtain⟨c46,H47⟩ |⟨c46,H47⟩:=CM H45
   ·have e48:t7= []:=LW (of_decide_eq_true c46);subst e48;simp only[LD,Ws,Zp];try simp only[G9,G8]
    obtain⟨l3,b49,H50⟩:=AJ H47;obtain⟨h51,h52⟩:=G7 b49;have h52:t512=l3:=h52;subst h52;have h51:t512.length<=4294967296:=(by have:=h51;simpa using this);refine Z1 (Y2 w193_ h51) ?_;exact⟨_,0,H50,ZR [(0,0),(1,1),(2,20)]⟩
   have q53:0<t7.length:=(by have:=of_decide_eq_false c46;omega);have h54:∀i,G9 i (List.map AF t7)= [i]:=fun i=>(by cases hx:t7 with |nil=>(rw[hx] at q53;simp at q53) |cons a r=>rfl);have h55:∀b,G8 b (List.map AF t7)=b:=fun b=>(by cases hx:t7 with |nil=>(rw[hx] at q53;simp at q53) |cons a r=>rfl);obtain⟨l4,b56,H57⟩:=AJ H47;obtain⟨h58,h59⟩:=G7 b56;have h58:t7.length+t512.length<=4294967296:=h58;have h60:List.map AF t7++List.map AF t512=List.map AF l4:=GX AF h59;have h61:t7.length+t512.length=l4.length:=GY h59;have h62:l4.length<=4294967296:=(by omega);have q63:0<l4.length:=(by omega);refine Z1 (Y2 (Y6 w193_ c46 h54 h55 q53 (YV (f:=AF) q53)) (Y5 (YO (f:=AF) q53) h58 h60 h61 h62)) ?_;exact⟨_,(g+1),H57,ZR [(0,0),(1,1),(2,2)]⟩
  refine Z1 w192_ ?_;exact⟨_,g,H43,ZR [(0,0),(1,1),(2,2)]⟩
 refine Az ?_;obtain⟨c64,H65⟩ |⟨c64,H65⟩:=CM H4
 ·refine Z1 c64 ?_;cases H65;exact bi c64
 refine Z1 c64 ?_;refine AW (AW ?_);refine ZT 1 ?_;obtain⟨t69,b66,H67⟩:=AJ H65;refine Z1 c64 ?_;refine W7 (b:=true) [] (fun hp1 h1=>by exact(PW.cons (DZ.d (CW.one (Ce.rbE 2 (Ce.one (b':=true) (is:=[]) rfl (fun _=>rfl)) (by rfl)) rfl)) (PW.cons (DZ.d (CW.agP (PW.cons (Ce.one (b':=false) (is:=[]) rfl (fun _=>rfl)) (PW.cons (Ce.one (b':=false) (is:=[]) rfl (fun _=>rfl)) PW.nil)))) (PW.cons (DZ.d (CW.one (Ce.one (b':=false) (is:=[]) rfl (fun _=>rfl)) rfl)) PW.nil)))) (CQ.of_pure (bY b66)) ?_;refine GU c64 ?_;refine GT H67 (fun _ _ t76 g7=>⟨upd 7 (Aa 0 g7 (List.map AF t76)) AQ,upd 0 (CD 3 g7 false (List.map AF t76)) AS,1⟩) (fun e_2 E68 H69=> ?_) fun t76 g7 H69=> ?_;rotate_left
 ·refine AN ?_;cases H69;exact CC
 refine Ft E68 (fun f _ (t74,t71) g5=>⟨kp [69,70] f (upd 7 (Aa 0 g5 (List.map AF t74)) (upd 71 (.v (.int .i64 t71)) AQ)),upd 0 (CD 3 g5 false (List.map AF t74)) AS,1⟩) g3 (ZR [(0,2)]) fun c ⟨t74,t71⟩ g5 L70=> ?_
 refine AN ?_;obtain⟨c89,H90⟩ |⟨c89,H90⟩:=CM L70
 ·obtain⟨x4,h93,h94,h95,H92⟩:=zI AZ H90;have w194_:=Y2 c89 h95;refine Z1 w194_ ?_;obtain⟨c97,H98⟩ |⟨c97,H98⟩:=CM H92
  ·refine Z1 (Y2 w194_ c97) ?_;exact⟨_,g5,H98,ZR [(0,0)]⟩
  obtain⟨l6,b99,H100⟩:=AJ H98;obtain⟨h101,h102⟩:=G7 b99;have h101:t74.length+1<=4294967296:=h101;have h103:List.map AF t74++[[.v (.string x4.type_),.v (.string x4.id_),.v (.string x4.rel)]]=List.map AF l6:=GX AF h102;have h104:t74.length+1=l6.length:=GY h102;have h105:l6.length<=4294967296:=by omega
  have q106:0<l6.length:=by omega
  refine Z1 (Y6 w194_ c97 h101 h103 h104 h105) ?_;rcases t74 with _ |⟨q0,q1⟩
  ·try simp only[LD,Cw,C8]
   exact⟨_,0,H100,ZR [(0,19)]⟩
  try simp only[Lk,Cw,C8]
  exact⟨_,(g5+1),H100,ZR [(0,0)]⟩
 refine Z1 c89 ?_;cases H90;exact⟨g5,ZR [(0,0)]⟩
def bh (_:Nat)(s:AC)(typ:ByteArray)(rel:ByteArray):Option Int:=some (qg_ (⟨typ,rel⟩:AA) 0 s.ranks)
theorem ua {n:Nat}{s:AC}{typ:ByteArray}{rel:ByteArray}{r:Int}(H:bh n s typ rel=some r):AI Tryz.prog 95 [D.pt (Ap s) 0,D.v (.string typ),D.v (.string rel)] (D.v (.int .i64 r)) true:=by
 unfold bh at H;refine zP #[.tmp 6] Tryz.func95 ?_;refine ZT 1 ?_;have h1:EM (true,[.string,.string]) (.agg #[.string typ,.string rel]) (.v (.int .i64 0)) false (Et true (CO qb_ false eI s.ranks))=some (.v (.int .i64 (qg_ (⟨typ,rel⟩:AA) 0 s.ranks)),[]):=HU (b:=true) (ag:=false) (enc:=eI) Kc (⟨typ,rel⟩:AA) (0:Int) false s.ranks;refine Z1 h1 ?_;cases H;exact CC
abbrev FG (hp:Hp)(es:List (Value × AV))(is:AB->Bool)(l:List AB):Prop:=∀r∈l,∃id rk dp ab,Db es r id/\hp id=some (.bx [rk,dp,ab,.v (.bool (is r))])
def Q0 (n:Nat)(G:AM)(ob:Ao)(x:AY):Option (List AB):=if x.kind==1 then some [⟨ob,x.a⟩] else Sr n G ob x
theorem Kd {hp:Hp}{nx i:Nat}{o:AO}(hf:∀j,nx<=j->hp j=none)(h:hp i=some o):(i=nx+1)=False:=eq_false fun e=>by
 have:=CR hf h;omega
theorem bn {hp:Hp}{nx:Nat}{x y:Option AO}(hf:∀j,nx<=j->hp j=none):Fj hp (upd (nx+1) x (upd nx y hp)):=⟨fun i=>by
 by_cases h:i<nx
 ·exact .inr (by simp[upd,show i≠nx by omega,show i≠nx+1 by omega])
 exact .inl (hf i (by omega))⟩
theorem Xy {hp:Hp}{nx q m n:Nat}{bg:Bool}{vo vx:AV}{G:AM}{ob:Ao}{x:AY}{l:List AB}{o:AV}{s1 s2 s3:AV}{es:List (Value × AV)}{dl:Bool}{is:AB->Bool}(hf:∀j,nx<=j->hp j=none)
  (hq:hp q=some (.bx [.d (.pt (Aq G) 0) bg,s1,s2,s3,.mo m,o])) (hm:hp m=some (.mo es dl)) (hl:Q0 n G ob x=some l) (hN:FG hp es is l) (hx:l.length<4611686018427387904) (ho:De vo=some [.v (.string ob.type_),.v (.string ob.id_)]) (hx2:De vx=some [.v (.int .i64 x.kind),.v (.string x.a),.v (.string x.b)]):
  ∃nx',nx<=nx'/\AK Tryz.prog 147 [.pt q 0,vo,vx] hp nx fun v hp2 nx2=>v= .v (.bool (l.any is))/\hp2=hp/\nx2=nx':=by
 unfold Q0 at hl;rcases hk:(x.kind==1) with _ |_
 ·rw[hk,if_neg (by simp)] at hl;obtain⟨hp1,e1⟩:∃hp1,hp1=upd (nx+1) (some (.bx [.v (.int .i64 x.kind),.v (.string x.a),.v (.string x.b)])) (upd nx (some (.bx [.v (.string ob.type_),.v (.string ob.id_)])) hp):=⟨_,rfl⟩;have old:∀ {i:Nat} {o:AO},hp i=some o->hp1 i=some o:=fun{i o} h=>by
   have:=CR hf h;rw[e1,AR,AR];exact h
  obtain⟨nx',g1,g2⟩:=kq (nx:=nx+3+3+10) (b:=false) (is:=is) (l:=l) (fun j hj=>by rw[e1,AR,AR];exact hf j (by omega)) (old hq) (old hm) (fun r hr=>by
   obtain⟨id,rk,dp,ab,k1,k2⟩:=hN r hr;exact⟨id,rk,dp,ab,k1,old k2⟩) hx
  refine⟨nx',by omega,Ky EO D7 Tryz.func147 (by rfl) (by kernel_rfl) (by kernel_rfl) (by exact NI rfl) ?_⟩;have w:=And.intro ho <|And.intro hx2 <|And.intro (show(nx=nx+1)=False from EU)<|And.intro (E8 hf hq) (Y6 (E8 hf hm) (Kd hf hq) (Kd hf hm) hq hm hk);refine Z1 w ?_;refine Ea (kZ hl) ?_;refine Z1 w ?_;rw[<-e1];refine Ms (δ:=[]) g2 ?_;refine PP ?_;exact⟨_,hp,rfl,by rw[e1];exact bn hf,rfl,rfl,rfl⟩
 rw[hk,if_pos rfl] at hl;cases hl;obtain⟨id,rk,dp,ab,e1,e2⟩:=hN _ (Lo ..);refine⟨nx+3+3+13,by omega,Ky EO D7 Tryz.func147 (by rfl) (by kernel_rfl) (by kernel_rfl) (by exact NI rfl) ?_⟩;have w:=And.intro ho <|And.intro hx2 <|And.intro (show(nx=nx+1)=False from EU)<|And.intro (E8 hf hq) (Y2 (Y6 (E8 hf hm) (E8 hf e2) (Kd hf hq) (Kd hf hm) (Kd hf e2) hq) (Y4 hm e1 e2 hk));refine GU w ?_;exact⟨_,hp,rfl,bn hf,by simp[Ah],rfl,rfl⟩
def Xt (n:Nat)(s:List AL)(v:AL):Nat->Int->Option ((Unit) ⊕ Int)
 |0,_=>none
 |c+1,t8=>(if decide (t8<(s.length:Int)) then (C4 s t8).bind fun x2=>(if ((v.type_==x2.type_)&&((v.id_==x2.id_)&&(v.rel==x2.rel))) then some (.inr t8) else Xt n s v c (i64.wrap (t8+1))) else some (.inl ()))
def Xu (n:Nat)(s:List AL)(v:AL):Option Int:=(Xt n s v n 0:Option ((Unit) ⊕ Int)).bind fun
  | .inl _=>some (-1)
  | .inr r=>some r
theorem ub {n:Nat}{s:List AL}{v:AL}{r:Int}(H:Xu n s v=some r):AI Tryz.prog 117 [D.sl (List.map AZ s),D.ag (AZ v)] (D.v (.int .i64 r)) true:=by
 unfold Xu at H;refine zP #[.tmp 4] Tryz.func117 ?_;refine Qx ?_;refine zi H (fun _ _ _=>⟨AQ,AS,0⟩) (fun e_ E1 H2=> ?_) fun _ H2=> ?_
 ·refine IX E1 (fun f h t8=>⟨kp [0,3,7] f (upd 8 (.v (.int .i64 t8)) AQ),kh [0] h AS,1⟩) (ZR [(0,0)]) fun c t8 L3=> ?_
  refine AN ?_;obtain⟨c14,H15⟩ |⟨c14,H15⟩:=CM L3
  ·obtain⟨x2,h18,h19,h20,H17⟩:=zI AZ H15;have w222_:=Y2 c14 h20;refine GU w222_ ?_;obtain⟨w223_,H23⟩ |⟨w223_,H23⟩:=DU w222_ H17
   ·refine Z1 w223_ ?_;cases H23;cases H2;exact CC
   refine Z1 w223_ ?_;exact⟨_,H23,ZR [(0,0)]⟩
  refine Z1 c14 ?_;cases H15;exact⟨_,rfl,ZR []⟩
 refine AN ?_;cases H2;exact CC
def Qv (n:Nat)(s:List AL)(v:AL):Option Bool:=(Xu n s v).bind fun t7=>some (decide (0<=t7))
theorem ka {n:Nat}{s:List AL}{v:AL}{r:Bool}(H:Qv n s v=some r):AI Tryz.prog 93 [D.sl (List.map AZ s),D.ag (AZ v)] (D.v (.bool r)) true:=by
 unfold Qv at H;refine zP #[.tmp 4] Tryz.func93 ?_;refine ZT 1 ?_;obtain⟨t7,b1,H2⟩:=AJ H;refine Z0 ?_;refine DB (ub b1) ?_;refine Z0 ?_;cases H2;exact CC
set_option maxRecDepth 4000 in
theorem Q4 {hp:Hp}{nx q m n rid:Nat}{bd:Bool}{G:AM}{r:AB}{s:AL}{rel:Ac × Bool}{subs:List AL}{c:Bool}{deps:List AB}{o rk ab rx:AV}{es:List (Value × AV)}{dl:Bool}{is:AB->Bool}(hf:∀j,nx<=j->hp j=none)
  (hq:hp q=some (.bx [.d (.pt (Aq G) 0) true,.v (.string s.type_),.v (.string s.id_),.v (.string s.rel),.mo m,o])) (hm:hp m=some (.mo es dl)) (hr:Db es r rid) (hn:hp rid=some (.bx [rk,.d (.sl (deps.map AF)) bd,ab,rx]))
  (h1:Gm n G.schema r.obj.type_ r.rel=some rel) (h2:rel.1.expr= []) (h3:PO n G.index.left r.obj r.rel=some subs) (h4:Qv n subs s=some c)
  (hN:FG hp es is deps) (hx:deps.length<4611686018427387904):
  ∃nx',nx<=nx'/\AK Tryz.prog 100 [.pt q 0,.ag [.v (.string r.obj.type_),.v (.string r.obj.id_),.v (.string r.rel)]] hp nx fun v hp2 nx2=>v= .v (.bool (c||deps.any is))/\hp2=hp/\nx2=nx':=by
 obtain⟨⟨rn,rs,re⟩,ro⟩:=rel;cases h2;have n0:nw nx q=0:=kl (CR hf hq);have n1:nw nx nx=1:=km;have n2:nw nx (nx+2+16)=19:=by unfold nw;omega
 have w:=And.intro (show(nx=nx+2+16)=False from EU)<|And.intro (show(q=nx+2+16)=False from eq_false (by have:=CR hf hq;omega))<|And.intro (show(m=nx+2+16)=False from eq_false (by have:=CR hf hm;omega))<|And.intro (show(rid=nx+2+16)=False from eq_false (by have:=CR hf hn;omega))<|And.intro (E8 hf hq) (Y6 (E8 hf hm) (E8 hf hn) hq hm hr hn);obtain⟨hp1,e1⟩:∃hp1,hp1=upd (nx+2+16) (some (.bx [.v (.string rn),.d (.sl (rs.map AZ)) true,.d (.sl []) true])) (upd (nx+2+16) (some (.bx [.v (.string ByteArray.empty),.v (.slice none 0 0),.v (.slice none 0 0)])) (upd nx (some (.bx [.v (.string r.obj.type_),.v (.string r.obj.id_),.v (.string r.rel)])) hp)):=⟨_,rfl⟩;have old:∀ {i:Nat} {o:AO},hp i=some o->hp1 i=some o:=fun{i o} h=>by
  have:=CR hf h;rw[e1,AR,AR,AR];exact h
 have less:Fj hp hp1:=⟨fun i=>by
  by_cases h:i<nx
  ·exact .inr (by rw[e1,AR,AR,AR])
  exact .inl (hf i (by omega))⟩
 obtain⟨nx',g1,g2⟩:=kq (nx:=nx+2+19+4+33) (b:=bd) (is:=is) (l:=deps) (fun j hj=>by rw[e1,AR,AR,AR];exact hf j (by omega)) (old hq) (old hm) (fun r hr=>by
   obtain⟨id,rk,dp,ab,k1,k2⟩:=hN r hr;exact⟨id,rk,dp,ab,k1,old k2⟩) hx
 refine⟨if c then nx+2+19+4+33 else nx',by split<;>omega,Ky EO D7 Tryz.func100 (by rfl) (by kernel_rfl) (by kernel_rfl) (by exact NI rfl) ?_⟩;refine Z1 w ?_;refine Ea (Ka h1) ?_;refine Z1 w ?_;refine JH (nw nx) _ rfl (by simp only[Nc,Nk,LE,LJ,Lk,LD,HH,n0,n1,n2];rfl) (by rfl) ?_;refine Z1 w ?_;refine W7 (b:=true) [] (fun hp1 h1=>by exact(PW.cons (DZ.d (CW.one (Ce.rbE 2 (Ce.one (b':=true) (is:=[]) rfl (fun _=>rfl)) (by rfl)) rfl)) (PW.cons (DZ.d (CW.agP (PW.cons (Ce.one (b':=false) (is:=[]) rfl (fun _=>rfl)) (PW.cons (Ce.one (b':=false) (is:=[]) rfl (fun _=>rfl)) PW.nil)))) (PW.cons (DZ.d (CW.one (Ce.one (b':=false) (is:=[]) rfl (fun _=>rfl)) rfl)) PW.nil)))) (CQ.of_pure (bY h3)) ?_;refine Z1 w ?_;refine Ea (ka h4) ?_;cases c with
 |true=>
  refine GU w ?_;exact⟨_,hp,rfl,by rw[<-e1];exact less,rfl,rfl,rfl⟩
 |false=>
  refine Z1 w ?_;rw[<-e1];refine Ms (δ:=[]) g2 ?_;refine PP ?_;exact⟨_,hp,rfl,less,rfl,rfl,rfl⟩
structure PN where
 k:AB
 rank:Int
 deps:List AB
 above:List AB
 is:Bool
structure Nd extends PN where
 id:Nat
 rid:Nat
 ver:Nat
def pN:Option Nat->AV
 |none=>.v (.pointer none)
 |some id=>.pt id 0
def FH (N:List Nd):List (AB × Option Nat):=N.map fun n=>(n.k,some n.id)
def FT (N:List Nd):List (Value × AV):=AP Fs pN (FH N)
def KC (n:Nd):AO:=.bx [.v (.int .i64 n.rank),.d (.sl (n.deps.map AF)) false,Aa n.rid n.ver (n.above.map AF),.v (.bool n.is)]
def Fe (r:AB):List Nd->Option Nd
 |[]=>none
 |n::l=>if r==n.k then some n else Fe r l
def Cp (r:AB):List PN->Option PN
 |[]=>none
 |n::l=>if r==n.k then some n else Cp r l
abbrev DW (N:List Nd):List PN:=N.map Nd.toPN
theorem IZ (r:AB):∀N:List Nd,Cp r (DW N)=(Fe r N).map Nd.toPN
 |[]=>rfl
 |n::l=>by
  have ih:=IZ r l;unfold Fe;show(if r==n.k then some n.toPN else Cp r (DW l))=_;split
  ·rfl
  exact ih
theorem Ke {r:AB}:∀ {N:List Nd} {n:Nd},Fe r N=some n->n∈N/\n.k=r
 |[],_,h=>by cases h
 |x::l,n,h=>by
  unfold Fe at h;split at h
  ·rename_i e;cases h;exact⟨Lo ..,(eq_of_beq e).symm⟩
  obtain⟨h1,h2⟩:=Ke h;exact⟨Lh _ h1,h2⟩
theorem ku {r:AB}:∀ {N:List Nd},Fe r N=none->∀n∈N,n.k≠r
 |[],_,_,hm=>by cases hm
 |x::l,h,n,hm=>by
  unfold Fe at h;split at h
  ·cases h
  rename_i e;rcases Lm.1 hm with rfl |hm
  ·exact fun e2=>e (by rw[e2];exact beq_self_eq_true _)
  exact ku h n hm
theorem Xz (r:AB):∀N:List Nd,mget r (FH N)=(Fe r N).map fun n=>some n.id
 |[]=>rfl
 |n::l=>by
  have ih:=Xz r l;unfold Fe;by_cases e:(r==n.k)=true
  ·simp[FH,mget,e]
  simp only[FH,Lk,mget,e];simpa [FH] using ih
theorem Kf {r:AB}{N:List Nd}{n:Nd}(h:Fe r N=some n):Db (FT N) r n.id:=by
 have:=SV (ev:=pN) Qw r none false (FH N);simp only[qg_,Xz,h] at this;exact this
theorem bp {r:AB}{N:List Nd}(h:Fe r N=none):EM (true,[.string,.string,.string]) (.agg #[.string r.obj.type_,.string r.obj.id_,.string r.rel]) (.v (.pointer none)) false (FT N)=some (.v (.pointer none),[]):=by
 have:=SV (ev:=pN) Qw r none false (FH N);simp only[qg_,Xz,h] at this;exact this
theorem uj {r:AB}{N:List Nd}(h:Fe r N=none)(n:Nd)(hk:n.k=r):EG (true,[.string,.string,.string]) (.agg #[.string r.obj.type_,.string r.obj.id_,.string r.rel]) (.pt n.id 0) (FT N)=some (FT (N++[n])):=by
 have h1:=W4 (ev:=pN) Qw r (some n.id) (FH N);obtain⟨o,_,_,h3⟩:=Mr (ev:=pN) Qw r (FH N);have h4:=(h3 (by rw[Xz,h];rfl)).2 (some n.id);rw[h4] at h1;subst hk;have e:FH N++[(n.k,some n.id)]=FH (N++[n]):=by simp[FH]
 rw[e] at h1;exact h1
structure C0 (hp:Hp) (m:Nat) (N:List Nd):Prop where
 map:hp m=some (.mo (FT N) false)
 box:∀n∈N,hp n.id=some (KC n)
 row:∀n∈N,n.above≠[]->hp n.rid=CD 3 n.ver false (n.above.map AF)
 keys:(N.map (·.k)).Nodup
 ids:(N.map (·.id)).Nodup
 rids:∀a∈N,∀b∈N,a.above≠[]->b.above≠[]->a.rid=b.rid->a.k=b.k
theorem C0.at_ {hp:Hp}{m:Nat}{N:List Nd}(h:C0 hp m N){l:List AB}(hl:∀r∈l,(Fe r N).isSome=true):FG hp (FT N) (fun r=>((Cp r (DW N)).map (·.is)).getD false) l:=fun r hr=>by
 obtain⟨n,hn⟩:=NH.1 (hl r hr);refine⟨n.id,.v (.int .i64 n.rank),.d (.sl (n.deps.map AF)) false,Aa n.rid n.ver (n.above.map AF),Kf hn,?_⟩;rw[h.box n (Ke hn).1];simp only[IZ,hn,LO,Nw];rfl
theorem Gn {sz ver:Nat}{br:Bool}{l:List AB}(h:l≠[]):CD sz ver br (l.map AF)=some (.rw (l.map AF) sz ver br false):=by
 cases l with
 |nil=>exact absurd rfl h
 |cons x r=>simp[CD]
def KD (N:List Nd):List Nat:=(N.filter fun n=> !n.above.isEmpty).map (·.rid)
theorem Q5 {N:List Nd}{n:Nd}(hn:n∈N)(ha:n.above≠[]):n.rid∈KD N:=LH (Nh.2 ⟨hn,by cases h:n.above with |nil=>exact absurd h ha |cons _ _=>rfl⟩)
theorem Sv {N:List Nd}{i:Nat}(h:i∈KD N):∃n∈N,n.above≠[]/\n.rid=i:=by
 obtain⟨n,h1,rfl⟩:=LQ.1 h;obtain⟨h2,h3⟩:=Nh.1 h1;exact⟨n,h2,fun e=>by rw[e] at h3;simp at h3,rfl⟩
theorem C0.more {hp hp':Hp}{m:Nat}{N:List Nd}(h:C0 hp m N)(em:hp' m=hp m)(eb:∀n∈N,hp' n.id=hp n.id)(er:∀n∈N,n.above≠[]->hp' n.rid=hp n.rid):C0 hp' m N where
 map:=em▸h.map
 box:=fun n hn=>(eb n hn).trans (h.box n hn)
 row:=fun n hn ha=>(er n hn ha).trans (h.row n hn ha)
 keys:=h.keys
 ids:=h.ids
 rids:=h.rids
theorem C0.upd_row {hp:Hp}{m i:Nat}{o:Option AO}{N:List Nd}(h:C0 hp m N)(hi:hp i=none\/∃es sz v b f,hp i=some (.rw es sz v b f))(hr:i∉KD N):C0 (upd i o hp) m N:=by
 have ne:∀ {j:Nat} {x:AO},hp j=some x->(∀es sz v b f,x≠ .rw es sz v b f)->j≠i:=fun hj hx e=>by
  subst e;rcases hi with hi |⟨es,sz,v,b,f,hi⟩
  ·rw[hj] at hi;cases hi
  rw[hj] at hi;cases hi;exact hx _ _ _ _ _ rfl
 exact h.more (Ad _ _ (ne h.map fun _ _ _ _ _ e=>by cases e)) (fun n hn=>Ad _ _ (ne (h.box n hn) fun _ _ _ _ _ e=>by cases e)) fun n hn ha=>Ad _ _ fun e=>hr (e▸Q5 hn ha)
theorem C0.upd_new {hp:Hp}{m i:Nat}{o:Option AO}{N:List Nd}(h:C0 hp m N)(hi:hp i=none):C0 (upd i o hp) m N:=h.upd_row (.inl hi) fun hm=>by
 obtain⟨n,h1,h2,h3⟩:=Sv hm
 have:=h.row n h1 h2;rw[h3,hi,Gn h2] at this;cases this
end Go.Proofs.YtnmkbmefohakmaaGreat.Ab
