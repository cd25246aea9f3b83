/-
 What is asked of any schema: the error of one that does not hold together, too.
-/
import Derived.Test.YtnmkbmefohakmaaGreatFpw
namespace Go.Proofs.YtnmkbmefohakmaaGreat.Ab
open Go.RowKit
def qz_ (n:Nat)(p:GPage)(c2:Int)(c3:List GType)(c4:List GTuple)(c5:GObj)(c6:ByteArray)(c7:GSub):Option (List ByteArray × Bool × Int):=
 (if (c2==0) then
  (qM_ n c3 c4 c5.type_ c6 c7 p).bind fun t20=>
  some (t20.1,t20.2.1,t20.2.2)
 else
  (q7_ n c3 c4 c5 c6 ({ data:= #[117] }) p).bind fun t29=>
  some (t29.1,t29.2.1,t29.2.2))
theorem xV_ {n:Nat}{p:GPage}{c2:Int}{c3:List GType}{c4:List GTuple}{c5:GObj}{c6:ByteArray}{c7:GSub}{r:List ByteArray × Bool × Int}(H:qz_ n p c2 c3 c4 c5 c6 c7=some r):PureOK Tryz.prog 20 [D.ag (eGPage p),D.pt [D.v (.int .i64 c2)] 0,D.pt [D.sl (List.map eGType c3)] 0,D.pt [D.sl (List.map eGTuple c4)] 0,D.pt (eGObj c5) 0,D.pt [D.v (.string c6)] 0,D.pt (eGSub c7) 0] (D.tu [D.sl (List.map eS r.1),D.v (.bool r.2.1),D.v (.int .i64 r.2.2)]) true:=by
 unfold qz_ at H;refine ZP qf_ fol (rs:= #[.tmp 8,.tmp 9,.tmp 10]) Tryz.func20 ?_;refine ZT 1 ?_;refine Z0 ?_;rcases zit H with⟨c1,H2⟩ |⟨c1,H2⟩
 ·obtain⟨t20,b3,H4⟩:=zbi H2
  refine Z1 c1 ?_;refine ZC0 (x0_ b3) ?_;refine Z1 c1 ?_;obtain rfl:=Zi H4;exact ZE0
 ·obtain⟨t29,b5,H6⟩:=zbi H2
  refine Z1 c1 ?_;refine ZC0 (z3_ b5) ?_;refine Z1 c1 ?_;obtain rfl:=Zi H6;exact ZE0
def jo_ (n:Nat)(a:List ByteArray)(b:List ByteArray):Nat->Int->Option ((Unit) ⊕ Bool)
 |0,_=>none
 |c+1,i=>
  (if (decide (i<(a.length:Int))) then
   (idx a i).bind fun x3=>
   (idx b i).bind fun x4=>
   (if (x3.toList==x4.toList) then
    jo_ n a b c (IntKind.i64.wrap (i+1))
   else
    some (.inr false))
  else
   some (.inl ()))
def q8_ (n:Nat)(a:List ByteArray)(b:List ByteArray):Option Bool:=
 (if ((a.length:Int) != (b.length:Int)) then
  some false
 else
  (
   jo_ n a b n 0:Option ((Unit) ⊕ Bool)).bind fun
   | .inl _=>
    some true
   | .inr r=>some r)
theorem xG_ {n:Nat}{a:List ByteArray}{b:List ByteArray}{r:Bool}(H:q8_ n a b=some r):PureOK Tryz.prog 23 [D.sl (List.map eS a),D.sl (List.map eS b)] (D.v (.bool r)) true:=by
 unfold q8_ at H;refine ZP qf_ fol (rs:= #[.tmp 4]) Tryz.func23 ?_;refine zsq (ZT 1 ?_);refine Z0 ?_;refine zsq (ZT 1 ?_);refine Z0 ?_;rcases zit H with⟨c1,H2⟩ |⟨c1,H2⟩
 ·refine Z1 c1 ?_
  obtain rfl:=Zi H2;exact ZE0
 ·refine Z1 c1 ?_
  refine zsq (zsq ?_);refine ZT 1 ?_;refine Z1 c1 ?_;obtain⟨e_,E3,H4⟩:=zbi H2;refine zjn (α:={ y:Unit // e_= .inl y }) (fun |⟨_,_⟩=>⟨noFr,noHp,0⟩) ?_ ?_
  ·refine zbk ?_
   refine zlp (α:={ q:Nat × Int // jo_ n a b q.1 q.2=some e_ }) (fun |⟨⟨c,i⟩,_⟩=>⟨upd 0 (.d (.sl (List.map eS a)) true) (upd 1 (.d (.sl (List.map eS b)) true) (upd 5 (.v (.int .i64 i)) noFr)),noHp,0⟩) (fun q=>q.1.1) ⟨(n,0),E3⟩ ?_ ?_
   ·exact ZR []
   ·rintro⟨⟨c,i⟩,L5⟩
    rcases c with _ |c
    ·exact Zx L5
    ·unfold jo_ at L5
     try dsimp only at L5
     refine ZT 1 ?_;refine Z0 ?_;rcases zit L5 with⟨c22,H23⟩ |⟨c22,H23⟩
     ·obtain⟨x3,b24,H25⟩:=zbi H23
      obtain⟨h26,h27⟩:=zix b24;try simp only[Int.reduceToNat,Int.toNat_natCast] at h27
      have h28:=qn_ eS h27;obtain⟨x4,b30,H31⟩:=zbi H25;obtain⟨h32,h33⟩:=zix b30;try simp only[Int.reduceToNat,Int.toNat_natCast] at h33
      have h34:=qn_ eS h33;refine Z1 (Y5 c22 (zno .i64 h26) h28 (zno .i64 h32) h34) ?_;refine qj_ (by rfl) ?_;refine Z1 (Y5 c22 (zno .i64 h26) h28 (zno .i64 h32) h34) ?_;rcases zit H31 with⟨c36,H37⟩ |⟨c36,H37⟩
      ·refine Z1 (Y6 c22 (zno .i64 h26) h28 (zno .i64 h32) h34 c36) ?_
       exact⟨⟨(c,(IntKind.i64.wrap (i+1))),H37⟩,ZR [],Nat.lt_succ_self _⟩
      ·refine Z1 (Y6 c22 (zno .i64 h26) h28 (zno .i64 h32) h34 c36) ?_
       obtain rfl:=Zi H37;obtain rfl:=Zi H4;exact ZE0
     ·refine Z1 c22 ?_
      obtain rfl:=Zi H23;exact⟨⟨(),rfl⟩,ZR []⟩
  ·rintro⟨_,he38⟩
   obtain rfl:=he38.symm;try dsimp only at H4
   refine ZT 1 ?_;refine Z0 ?_;obtain rfl:=Zi H4;exact ZE0
def xd_ (n:Nat):Nat->(List GTuple × Int)->Option (List GTuple)
 |0,_=>none
 |c+1,(t2,t3)=>
  (if (decide (t3<3)) then
   (bslc ({ data:= #[97,98,99] }) t3 (IntKind.i64.wrap (t3+1))).bind fun s2=>
   (app t2 [(⟨(⟨{ data:= #[100] },s2⟩:GObj),{ data:= #[111] },(⟨{ data:= #[117] },{ data:= #[120] },ByteArray.empty⟩:GSub)⟩:GTuple)]).bind fun l=>
   xd_ n c (l,(IntKind.i64.wrap (t3+1)))
  else
   some t2)
def xH_ (n:Nat):Option Bool:=
 (xI_ n ({ data:= #[116,121,112,101,32,117,32,116,121,112,101,32,100,32,123,32,111,58,32,117,59,32,125] })).bind fun t13=>
 (
  xd_ n n ([],0):Option (List GTuple)).bind fun t23=>
 (qM_ n t13 t23 ({ data:= #[100] }) ({ data:= #[111] }) (⟨{ data:= #[117] },{ data:= #[120] },ByteArray.empty⟩:GSub) (⟨{ data:= #[97] },1⟩:GPage)).bind fun t33=>
 (q7_ n t13 t23 (⟨{ data:= #[100] },{ data:= #[97] }⟩:GObj) ({ data:= #[111] }) ({ data:= #[117] }) (⟨ByteArray.empty,9⟩:GPage)).bind fun t42=>
 (qM_ n t13 t23 ({ data:= #[100] }) ({ data:= #[111] }) (⟨ByteArray.empty,ByteArray.empty,ByteArray.empty⟩:GSub) (⟨ByteArray.empty,0⟩:GPage)).bind fun t51=>
 (q8_ n t33.1 ([{ data:= #[98] }]:List ByteArray)).bind fun t57=>
 (if t57 then
  (if t33.2.1 then
   (if (t33.2.2==0) then
    (q8_ n t42.1 ([{ data:= #[120] }]:List ByteArray)).bind fun t68=>
    (if t68 then
     (if t42.2.1 then
      some false
     else
      (if (t42.2.2==0) then
       some (t51.2.2==1)
      else
       some false))
    else
     some false)
   else
    some false)
  else
   some false)
 else
  some false)
theorem uN_ {n:Nat}{r:Bool}(H:xH_ n=some r):PureOK Tryz.prog 24 [] (D.v (.bool r)) true:=by
 unfold xH_ at H;refine ZP qf_ fol (rs:= #[.tmp 0]) Tryz.func24 ?_;refine zsq (ZT 1 ?_);refine Z0 ?_;refine zsq (ZT 1 ?_);obtain⟨t13,b1,H2⟩:=zbi H;refine Z0 ?_;refine ZC0 (kb_ b1) ?_;refine Z0 ?_;refine zsq (ZT 1 ?_);refine Z0 ?_;refine zsq (zsq ?_);refine ZT 1 ?_;refine Z0 ?_;obtain⟨e_,E3,H4⟩:=zbi H2
 refine zjn (α:={ y:List GTuple // e_=y } × Nat) (fun |⟨⟨t23,_⟩,g3⟩=>⟨upd 1 (.d (.sl (List.map eGType t13)) false) (upd 2 (accV 0 g3 (List.map eGTuple t23)) noFr),upd 0 (accO 6 g3 false (List.map eGTuple t23)) noHp,1⟩) ?_ ?_
 ·refine zbk ?_
  refine zlp (α:={ q:(Nat × (List GTuple × Int)) × Nat // xd_ n q.1.1 q.1.2=some e_ }) (fun |⟨⟨⟨c,⟨t2,t3⟩⟩,g⟩,_⟩=>⟨upd 1 (.d (.sl (List.map eGType t13)) false) (upd 2 (accV 0 g (List.map eGTuple t2)) (upd 3 (.v (.int .i64 t3)) noFr)),upd 0 (accO 6 g false (List.map eGTuple t2)) noHp,1⟩) (fun q=>q.1.1.1) ⟨((n,([],0)),0),E3⟩ ?_ ?_
  ·exact ZR []
  ·rintro⟨⟨⟨c,⟨t2,t3⟩⟩,g⟩,L5⟩
   rcases c with _ |c
   ·exact Zx L5
   ·unfold xd_ at L5
    try dsimp only at L5
    refine ZT 1 ?_;refine Z0 ?_;rcases zit L5 with⟨c16,H17⟩ |⟨c16,H17⟩
    ·obtain⟨s2,b18,H19⟩:=zbi H17
     obtain⟨h20,h21,h22,h23⟩:=zbs b18;have h24:Int.toNat t3<=Int.toNat (IntKind.i64.wrap (t3+1)):=by omega
     have h25:Int.toNat (IntKind.i64.wrap (t3+1))<=(ByteArray.size ({ data:= #[97,98,99] })):=by omega
     have h26:ByteArray.extract ({ data:= #[97,98,99] }) (Int.toNat t3) (Int.toNat (IntKind.i64.wrap (t3+1)))=s2:=h23.symm;have h27:Int.toNat (IntKind.i64.wrap (t3+1))<=3:=h25;try simp only[Int.toNat_natCast] at h24 h27 h26
     obtain⟨l,b28,H29⟩:=zbi H19;obtain⟨h30,h31⟩:=jV_ b28;have h30:t2.length+1<=4294967296:=h30;have h32:List.map eGTuple t2++[[.v (.string { data:= #[100] }),.v (.string s2),.v (.string { data:= #[111] }),.v (.string { data:= #[117] }),.v (.string { data:= #[120] }),.v (.string ByteArray.empty)]]=List.map eGTuple l:=jD_ eGTuple h31
     have h33:t2.length+1=l.length:=jE_ h31;have h34:l.length<=4294967296:=by omega
     have q35:0<l.length:=by omega
     refine Z1 (Y2 (Y6 c16 (zno .i64 h20) (zno .i64 (Int.le_trans h20 h21)) h24 h27 h26) (Y4 h30 h32 h33 h34)) ?_;rcases t2 with _ |⟨q0,q1⟩
     ·try simp only[List.map_nil,accI,accN]
      exact⟨⟨((c,(l,(IntKind.i64.wrap (t3+1)))),0),H29⟩,ZR [(0,12)],Nat.lt_succ_self _⟩
     ·try simp only[List.map_cons,accI,accN]
      exact⟨⟨((c,(l,(IntKind.i64.wrap (t3+1)))),(g+1)),H29⟩,ZR [(0,0)],Nat.lt_succ_self _⟩
    ·refine Z1 c16 ?_
     obtain rfl:=Zi H17;exact⟨⟨⟨t2,rfl⟩,g⟩,ZR [(0,0)]⟩
 ·rintro⟨⟨t23,he58⟩,g3⟩
  obtain rfl:=he58.symm;try dsimp only at H4
  refine ZT 1 ?_;obtain⟨t33,b36,H37⟩:=zbi H4;refine Z0 ?_;refine ZC0 (x0_ b36) ?_;obtain⟨t42,b38,H39⟩:=zbi H37;refine Z0 ?_;refine ZC0 (z3_ b38) ?_;obtain⟨t51,b40,H41⟩:=zbi H39;refine Z0 ?_;refine ZC0 (x0_ b40) ?_;obtain⟨t57,b42,H43⟩:=zbi H41;refine Z0 ?_;refine ZC0 (xG_ b42) ?_;refine Z0 ?_;rcases zit H43 with⟨c44,H45⟩ |⟨c44,H45⟩
  ·refine Z1 c44 ?_
   rcases zit H45 with⟨c46,H47⟩ |⟨c46,H47⟩
   ·refine Z1 (Y2 c44 c46) ?_
    rcases zit H47 with⟨c48,H49⟩ |⟨c48,H49⟩
    ·obtain⟨t68,b50,H51⟩:=zbi H49
     refine Z1 (Y3 c44 c46 c48) ?_;refine ZC1 (Y3 c44 c46 c48) (xG_ b50) ?_;refine Z1 (Y3 c44 c46 c48) ?_;rcases zit H51 with⟨c52,H53⟩ |⟨c52,H53⟩
     ·refine Z1 (Y4 c44 c46 c48 c52) ?_
      rcases zit H53 with⟨c54,H55⟩ |⟨c54,H55⟩
      ·refine Z1 (Y5 c44 c46 c48 c52 c54) ?_
       obtain rfl:=Zi H55;exact ZE0
      ·refine Z1 (Y5 c44 c46 c48 c52 c54) ?_
       rcases zit H55 with⟨c56,H57⟩ |⟨c56,H57⟩
       ·refine Z1 (Y6 c44 c46 c48 c52 c54 c56) ?_
        obtain rfl:=Zi H57;exact ZE0
       ·refine Z1 (Y6 c44 c46 c48 c52 c54 c56) ?_
        obtain rfl:=Zi H57;exact ZE0
     ·refine Z1 (Y4 c44 c46 c48 c52) ?_
      obtain rfl:=Zi H53;exact ZE0
    ·refine Z1 (Y3 c44 c46 c48) ?_
     obtain rfl:=Zi H49;exact ZE0
   ·refine Z1 (Y2 c44 c46) ?_
    obtain rfl:=Zi H47;exact ZE0
  ·refine Z1 c44 ?_
   obtain rfl:=Zi H45;exact ZE0
def qA_ (n:Nat)(t3:Int)(t28:List GType)(t34:List GTuple)(t37:GObj × ByteArray × GSub)(t14:Int)(t522:List ByteArray × Bool × Int):Nat->(List ByteArray × ByteArray × Int)->Option ((List ByteArray) ⊕ Bool)
 |0,_=>none
 |c+1,(t194,t203,t213)=>
  (if (decide (t213<100)) then
   (qz_ n (⟨t203,(IntKind.i64.wrap ((IntKind.i64.wrap (an t3 3:Int))+1))⟩:GPage) t14 t28 t34 (⟨t37.1.type_,t37.1.id_⟩:GObj) t37.2.1 (⟨t37.2.2.type_,t37.2.2.id_,t37.2.2.rel⟩:GSub)).bind fun t664=>
   (
    (if (t664.2.2 != t522.2.2) then
     some (t664.2.1,true)
    else
     (if (decide ((IntKind.i64.wrap ((IntKind.i64.wrap (an t3 3:Int))+1))<(t664.1.length:Int))) then
      some (t664.2.1,true)
     else
      (if t664.2.1 then
       some (true,((t664.1.length:Int) != (IntKind.i64.wrap ((IntKind.i64.wrap (an t3 3:Int))+1))))
      else
       some (false,false)))):Option (Bool × Bool)).bind fun(t234,t874)=>
   (if t874 then
    some (.inr false)
   else
    (if (decide (t194.length=0)) then
     (app [] t664.1).bind fun _=>
     (if t234 then
      (if ((t664.1.length:Int)==0) then
       some (.inl t664.1)
      else
       (idx t664.1 (IntKind.i64.wrap ((t664.1.length:Int)-1))).bind fun x9=>
       qA_ n t3 t28 t34 t37 t14 t522 c (t664.1,x9,(IntKind.i64.wrap (t213+1))))
     else
      some (.inl t664.1))
    else
     (app t194 t664.1).bind fun l7=>
     (if t234 then
      (if ((t664.1.length:Int)==0) then
       some (.inl l7)
      else
       (idx t664.1 (IntKind.i64.wrap ((t664.1.length:Int)-1))).bind fun x10=>
       qA_ n t3 t28 t34 t37 t14 t522 c (l7,x10,(IntKind.i64.wrap (t213+1))))
     else
      some (.inl l7))))
  else
   some (.inl t194))
def qF_ (n:Nat)(t522:List ByteArray × Bool × Int):Nat->Int->Option ((Unit) ⊕ Bool)
 |0,_=>none
 |c+1,t253=>
  (if (decide (t253<(t522.1.length:Int))) then
   (idx t522.1 (IntKind.i64.wrap (t253-1))).bind fun x13=>
   (idx t522.1 t253).bind fun x14=>
   (if Op.bytesLess x13.toList x14.toList then
    qF_ n t522 c (IntKind.i64.wrap (t253+1))
   else
    some (.inr false))
  else
   some (.inl ()))
def qK_ (n:Nat)(t3:Int)(t28:List GType)(t34:List GTuple)(t37:GObj × ByteArray × GSub):Nat->Int->Option ((Unit) ⊕ Bool)
 |0,_=>none
 |c+1,t14=>
  (if (decide (t14<2)) then
   (qz_ n (⟨ByteArray.empty,1000⟩:GPage) t14 t28 t34 (⟨t37.1.type_,t37.1.id_⟩:GObj) t37.2.1 (⟨t37.2.2.type_,t37.2.2.id_,t37.2.2.rel⟩:GSub)).bind fun t522=>
   (if t522.2.1 then
    some (.inr false)
   else
    (
     qA_ n t3 t28 t34 t37 t14 t522 n ([],{ data:= #[] },0):Option ((List ByteArray) ⊕ Bool)).bind fun
     | .inl t196=>
      (q8_ n t196 t522.1).bind fun t1062=>
      (if t1062 then
       (
        qF_ n t522 n 1:Option ((Unit) ⊕ Bool)).bind fun
        | .inl _=>
         qK_ n t3 t28 t34 t37 c (IntKind.i64.wrap (t14+1))
        | .inr r=>some (.inr r)
      else
       some (.inr false))
     | .inr r=>some (.inr r))
  else
   some (.inl ()))
def xw_ (n:Nat)(t0:List Int)(t1:List Int)(t2:Int)(t3:Int):Option Bool:=
 (vE_ n t0).bind fun t27=>
 (xI_ n t27).bind fun t28=>
 (slc t1 0 (if 40<(t1.length:Int) then 40 else(t1.length:Int))).bind fun l=>
 (z6_ n l).bind fun t34=>
 (z7_ n t2).bind fun t37=>
 (
  qK_ n t3 t28 t34 t37 n 0:Option ((Unit) ⊕ Bool)).bind fun
  | .inl _=>
   (xH_ n).bind fun t125=>
   some t125
  | .inr r=>some r
set_option maxHeartbeats 8000000 in
theorem law11_FindPages_ok {n:Nat}{t0:List Int}{t1:List Int}{t2:Int}{t3:Int}{r:Bool}(H:xw_ n t0 t1 t2 t3=some r):PureOK Tryz.prog 6 [D.sl (List.map eI t0),D.sl (List.map eI t1),D.v (.int .i64 t2),D.v (.int .i64 t3)] (D.v (.bool r)) true:=by
 unfold xw_ at H;refine ZP qf_ fol (rs:= #[.tmp 8]) Tryz.func6 ?_;refine zsq (ZT 1 ?_);refine Z0 ?_;refine zsq (ZT 1 ?_);obtain⟨t27,b1,H2⟩:=zbi H;refine Z0 ?_;refine ZD0 (dj_ b1) ?_;obtain⟨t28,b3,H4⟩:=zbi H2;refine Z0 ?_;refine ZD0 (kb_ b3) ?_;obtain⟨l,b5,H6⟩:=zbi H4;obtain⟨h7,h8,h9,h10⟩:=fh_ b5
 have h11:0<=Int.toNat (if 40<(t1.length:Int) then 40 else(t1.length:Int)):=by omega
 have h12:Int.toNat (if 40<(t1.length:Int) then 40 else(t1.length:Int))<=(List.length t1):=by omega
 have h13:List.take (Int.toNat (if 40<(t1.length:Int) then 40 else(t1.length:Int))) (List.map eI t1)=List.map eI l:=by rw[h10];simp[List.map_take]
 try simp only[Int.toNat_natCast] at h11 h12 h13
 obtain⟨t34,b14,H15⟩:=zbi H6;refine Z1 (Y5 (zno .i64 (Int.le_trans h7 h8)) h11 h12 h13 (ja_ (n:=1) (f:=eI) (fun _=>rfl) t1)) ?_;refine ZD0 (g8_ b14) ?_;refine Z1 (Y5 (zno .i64 (Int.le_trans h7 h8)) h11 h12 h13 (ja_ (n:=1) (f:=eI) (fun _=>rfl) t1)) ?_;refine qj_ (by rfl) ?_;refine Z1 (Y5 (zno .i64 (Int.le_trans h7 h8)) h11 h12 h13 (ja_ (n:=1) (f:=eI) (fun _=>rfl) t1)) ?_
 refine zsq (ZT 1 ?_);obtain⟨t37,b16,H17⟩:=zbi H15;refine Z1 (Y5 (zno .i64 (Int.le_trans h7 h8)) h11 h12 h13 (ja_ (n:=1) (f:=eI) (fun _=>rfl) t1)) ?_;refine ZC0 (g9_ b16) ?_;refine Z1 (Y5 (zno .i64 (Int.le_trans h7 h8)) h11 h12 h13 (ja_ (n:=1) (f:=eI) (fun _=>rfl) t1)) ?_;refine zsq (ZT 1 ?_)
 refine Z1 (Y5 (zno .i64 (Int.le_trans h7 h8)) h11 h12 h13 (ja_ (n:=1) (f:=eI) (fun _=>rfl) t1)) ?_;refine zsq (zsq ?_);refine ZT 1 ?_;refine Z1 (Y5 (zno .i64 (Int.le_trans h7 h8)) h11 h12 h13 (ja_ (n:=1) (f:=eI) (fun _=>rfl) t1)) ?_;obtain⟨e_,E18,H19⟩:=zbi H17;refine zjn (α:={ y:Unit // e_= .inl y }) (fun |⟨_,_⟩=>⟨noFr,noHp,0⟩) ?_ ?_
 ·refine zbk ?_
  refine zlp (α:={ q:Nat × Int // qK_ n t3 t28 t34 t37 q.1 q.2=some e_ }) (fun |⟨⟨c,t14⟩,_⟩=>⟨upd 3 (.v (.int .i64 (IntKind.i64.wrap ((IntKind.i64.wrap (an t3 3:Int))+1)))) (upd 9 (.pt 0 0) (upd 10 (.pt 1 0) (upd 11 (.pt 2 0) (upd 12 (.pt 3 0) (upd 13 (.pt 4 0) (upd 14 (.pt 5 0) noFr)))))),upd 0 (some (.bx [.d (.sl (List.map eGType t28)) false])) (upd 1 (some (.bx [.d (.sl (List.map eGTuple t34)) false])) (upd 2 (some (.bx [.v (.string t37.1.type_),.v (.string t37.1.id_)])) (upd 3 (some (.bx [.v (.string t37.2.1)])) (upd 4 (some (.bx [.v (.string t37.2.2.type_),.v (.string t37.2.2.id_),.v (.string t37.2.2.rel)])) (upd 5 (some (.bx [.v (.int .i64 t14)])) noHp))))),6⟩) (fun q=>q.1.1) ⟨(n,0),E18⟩ ?_ ?_
  ·exact ZR [(0,10),(1,11),(2,20),(3,21),(4,22),(5,30)]
  ·rintro⟨⟨c,t14⟩,L20⟩
   rcases c with _ |c
   ·exact Zx L20
   ·unfold qK_ at L20
    try dsimp only at L20
    refine zsq (ZT 1 ?_);refine Z0 ?_;rcases zit L20 with⟨c149,H150⟩ |⟨c149,H150⟩
    ·refine Z1 c149 ?_
     refine zsq (zbk ?_);refine zsq (ZT 1 ?_);refine Z1 c149 ?_;refine zsq (ZT 1 ?_);obtain⟨t522,b151,H152⟩:=zbi H150;refine Z1 c149 ?_;refine ZA1 c149 (PureA.of_pure (xV_ b151)) ?_;refine Z1 c149 ?_;refine zsq (ZT 1 ?_);refine Z1 c149 ?_;rcases zit H152 with⟨c153,H154⟩ |⟨c153,H154⟩
     ·refine Z1 (Y2 c149 c153) ?_
      obtain rfl:=Zi H154;obtain rfl:=Zi H19;exact ZE0
     ·refine Z1 (Y2 c149 c153) ?_
      refine zsq (ZT 1 ?_);refine Z1 (Y2 c149 c153) ?_;refine zsq (ZT 1 ?_);refine Z1 (Y2 c149 c153) ?_;refine zsq (zsq ?_);refine ZT 1 ?_;refine Z1 (Y2 c149 c153) ?_;obtain⟨e_6,E155,H156⟩:=zbi H154
      refine zjn (α:={ y:List ByteArray // e_6= .inl y } × Nat) (fun |⟨⟨t196,_⟩,g8⟩=>⟨upd 3 (.v (.int .i64 (IntKind.i64.wrap ((IntKind.i64.wrap (an t3 3:Int))+1)))) (upd 9 (.pt 0 0) (upd 10 (.pt 1 0) (upd 11 (.pt 2 0) (upd 12 (.pt 3 0) (upd 13 (.pt 4 0) (upd 14 (.pt 5 0) (upd 16 (.d (.sl (List.map eS t522.1)) false) (upd 19 (accV 6 g8 (List.map eS t196)) noFr)))))))),upd 0 (some (.bx [.d (.sl (List.map eGType t28)) false])) (upd 1 (some (.bx [.d (.sl (List.map eGTuple t34)) false])) (upd 2 (some (.bx [.v (.string t37.1.type_),.v (.string t37.1.id_)])) (upd 3 (some (.bx [.v (.string t37.2.1)])) (upd 4 (some (.bx [.v (.string t37.2.2.type_),.v (.string t37.2.2.id_),.v (.string t37.2.2.rel)])) (upd 5 (some (.bx [.v (.int .i64 t14)])) (upd 6 (accO 1 g8 false (List.map eS t196)) noHp)))))),7⟩) ?_ ?_
      ·refine zbk ?_
       refine zlp (α:={ q:(Nat × (List ByteArray × ByteArray × Int)) × Nat // qA_ n t3 t28 t34 t37 t14 t522 q.1.1 q.1.2=some e_6 }) (fun |⟨⟨⟨c,⟨t194,t203,t213⟩⟩,g5⟩,_⟩=>⟨upd 3 (.v (.int .i64 (IntKind.i64.wrap ((IntKind.i64.wrap (an t3 3:Int))+1)))) (upd 9 (.pt 0 0) (upd 10 (.pt 1 0) (upd 11 (.pt 2 0) (upd 12 (.pt 3 0) (upd 13 (.pt 4 0) (upd 14 (.pt 5 0) (upd 15 (.fn 20 [.pt 5 0,.pt 0 0,.pt 1 0,.pt 2 0,.pt 3 0,.pt 4 0]) (upd 16 (.d (.sl (List.map eS t522.1)) false) (upd 18 (.v (.int .i64 t522.2.2)) (upd 19 (accV 6 g5 (List.map eS t194)) (upd 20 (.v (.string t203)) (upd 21 (.v (.int .i64 t213)) noFr)))))))))))),upd 0 (some (.bx [.d (.sl (List.map eGType t28)) false])) (upd 1 (some (.bx [.d (.sl (List.map eGTuple t34)) false])) (upd 2 (some (.bx [.v (.string t37.1.type_),.v (.string t37.1.id_)])) (upd 3 (some (.bx [.v (.string t37.2.1)])) (upd 4 (some (.bx [.v (.string t37.2.2.type_),.v (.string t37.2.2.id_),.v (.string t37.2.2.rel)])) (upd 5 (some (.bx [.v (.int .i64 t14)])) (upd 6 (accO 1 g5 false (List.map eS t194)) noHp)))))),7⟩) (fun q=>q.1.1.1) ⟨((n,([],{ data:= #[] },0)),0),E155⟩ ?_ ?_
       ·exact ZR [(0,0),(1,1),(2,2),(3,3),(4,4),(5,5)]
       ·rintro⟨⟨⟨c,⟨t194,t203,t213⟩⟩,g5⟩,L157⟩
        rcases c with _ |c
        ·exact Zx L157
        ·unfold qA_ at L157
         try dsimp only at L157
         refine zsq (ZT 1 ?_);refine Z0 ?_;rcases zit L157 with⟨c185,H186⟩ |⟨c185,H186⟩
         ·refine Z1 c185 ?_
          refine zsq (zbk ?_);refine zsq (ZT 1 ?_);obtain⟨t664,b187,H188⟩:=zbi H186;refine Z1 c185 ?_;refine ZA1 c185 (PureA.of_pure (xV_ b187)) ?_;refine Z1 c185 ?_;refine zsq (zsq ?_);obtain⟨e_8,E189,H190⟩:=zbi H188
          refine zjn (α:={ y:Bool × Bool // e_8=y } × Nat) (fun |⟨⟨⟨t234,t874⟩,_⟩,g6⟩=>⟨upd 3 (.v (.int .i64 (IntKind.i64.wrap ((IntKind.i64.wrap (an t3 3:Int))+1)))) (upd 9 (.pt 0 0) (upd 10 (.pt 1 0) (upd 11 (.pt 2 0) (upd 12 (.pt 3 0) (upd 13 (.pt 4 0) (upd 14 (.pt 5 0) (upd 15 (.fn 20 [.pt 5 0,.pt 0 0,.pt 1 0,.pt 2 0,.pt 3 0,.pt 4 0]) (upd 16 (.d (.sl (List.map eS t522.1)) false) (upd 18 (.v (.int .i64 t522.2.2)) (upd 19 (accV 6 g6 (List.map eS t194)) (upd 21 (.v (.int .i64 t213)) (upd 22 (.d (.sl (List.map eS t664.1)) false) (upd 23 (.v (.bool t234)) (upd 87 (.v (.bool t874)) noFr)))))))))))))),upd 0 (some (.bx [.d (.sl (List.map eGType t28)) false])) (upd 1 (some (.bx [.d (.sl (List.map eGTuple t34)) false])) (upd 2 (some (.bx [.v (.string t37.1.type_),.v (.string t37.1.id_)])) (upd 3 (some (.bx [.v (.string t37.2.1)])) (upd 4 (some (.bx [.v (.string t37.2.2.type_),.v (.string t37.2.2.id_),.v (.string t37.2.2.rel)])) (upd 5 (some (.bx [.v (.int .i64 t14)])) (upd 6 (accO 1 g6 false (List.map eS t194)) noHp)))))),7⟩) ?_ ?_
          ·refine ZT 1 ?_
           refine Z0 ?_;rcases zit E189 with⟨c191,H192⟩ |⟨c191,H192⟩
           ·refine Z1 c191 ?_
            obtain rfl:=Zi H192;exact⟨⟨⟨(t664.2.1,true),rfl⟩,g5⟩,ZR [(0,0),(1,1),(2,2),(3,3),(4,4),(5,5),(6,6)]⟩
           ·refine Z1 c191 ?_
            rcases zit H192 with⟨c193,H194⟩ |⟨c193,H194⟩
            ·refine Z1 (Y2 c191 c193) ?_
             obtain rfl:=Zi H194;exact⟨⟨⟨(t664.2.1,true),rfl⟩,g5⟩,ZR [(0,0),(1,1),(2,2),(3,3),(4,4),(5,5),(6,6)]⟩
            ·refine Z1 (Y2 c191 c193) ?_
             rcases zit H194 with⟨c195,H196⟩ |⟨c195,H196⟩
             ·refine Z1 (Y3 c191 c193 c195) ?_
              obtain rfl:=Zi H196;exact⟨⟨⟨(true,((t664.1.length:Int) != (IntKind.i64.wrap ((IntKind.i64.wrap (an t3 3:Int))+1)))),rfl⟩,g5⟩,ZR [(0,0),(1,1),(2,2),(3,3),(4,4),(5,5),(6,6)]⟩
             ·refine Z1 (Y3 c191 c193 c195) ?_
              obtain rfl:=Zi H196;exact⟨⟨⟨(false,false),rfl⟩,g5⟩,ZR [(0,0),(1,1),(2,2),(3,3),(4,4),(5,5),(6,6)]⟩
          ·rintro⟨⟨⟨t234,t874⟩,he237⟩,g6⟩
           obtain rfl:=he237.symm;try dsimp only at H190
           refine ZT 4 ?_;refine Z0 ?_;rcases zit H190 with⟨c197,H198⟩ |⟨c197,H198⟩
           ·refine Z1 c197 ?_
            obtain rfl:=Zi H198;obtain rfl:=Zi H156;obtain rfl:=Zi H19;exact ZE0
           ·refine Z1 (Y2 c197 (ja_ (n:=1) (f:=eS) (fun _=>rfl) t664.1)) ?_
            rcases zit H198 with⟨c199,H200⟩ |⟨c199,H200⟩
            ·have e201:t194= []:=List.eq_nil_of_length_eq_zero (of_decide_eq_true c199)
             subst e201;simp only[List.map_nil,wS_,k7_];try simp only[accK,accB]
             obtain⟨l6,b202,H203⟩:=zbi H200;obtain⟨h204,h205⟩:=jV_ b202;have h205:t664.1=l6:=h205;subst h205;have h204:t664.1.length<=4294967296:=by have:=h204;simpa using this
             refine Z1 (Y3 c197 (ja_ (n:=1) (f:=eS) (fun _=>rfl) t664.1) h204) ?_;rcases zit H203 with⟨c206,H207⟩ |⟨c206,H207⟩
             ·refine Z1 (Y4 c197 (ja_ (n:=1) (f:=eS) (fun _=>rfl) t664.1) h204 c206) ?_
              rcases zit H207 with⟨c208,H209⟩ |⟨c208,H209⟩
              ·refine Z1 (Y5 c197 (ja_ (n:=1) (f:=eS) (fun _=>rfl) t664.1) h204 c206 c208) ?_
               obtain rfl:=Zi H209;exact⟨⟨⟨t664.1,rfl⟩,0⟩,ZR [(0,0),(1,1),(2,2),(3,3),(4,4),(5,5),(6,9)]⟩
              ·obtain⟨x9,b210,H211⟩:=zbi H209
               obtain⟨h212,h213⟩:=zix b210;try simp only[Int.reduceToNat,Int.toNat_natCast] at h213
               have h214:=qn_ eS h213;refine Z1 (Y2 (Y6 c197 (ja_ (n:=1) (f:=eS) (fun _=>rfl) t664.1) h204 c206 c208 (zno .i64 h212)) h214) ?_;exact⟨⟨((c,(t664.1,x9,(IntKind.i64.wrap (t213+1)))),0),H211⟩,ZR [(0,0),(1,1),(2,2),(3,3),(4,4),(5,5),(6,9)],Nat.lt_succ_self _⟩
             ·refine Z1 (Y4 c197 (ja_ (n:=1) (f:=eS) (fun _=>rfl) t664.1) h204 c206) ?_
              obtain rfl:=Zi H207;exact⟨⟨⟨t664.1,rfl⟩,0⟩,ZR [(0,0),(1,1),(2,2),(3,3),(4,4),(5,5),(6,9)]⟩
            ·have q216:0<t194.length:=by have:=of_decide_eq_false c199;omega
             have h217:∀i,accK i (List.map eS t194)= [i]:=fun i=>by cases hx:t194 with |nil=>(rw[hx] at q216;simp at q216) |cons a r=>rfl
             have h218:∀b,accB b (List.map eS t194)=b:=fun b=>by cases hx:t194 with |nil=>(rw[hx] at q216;simp at q216) |cons a r=>rfl
             obtain⟨l7,b219,H220⟩:=zbi H200;obtain⟨h221,h222⟩:=jV_ b219;have h221:t194.length+t664.1.length<=4294967296:=h221;have h223:List.map eS t194++List.map eS t664.1=List.map eS l7:=jD_ eS h222;have h224:t194.length+t664.1.length=l7.length:=jE_ h222;have h225:l7.length<=4294967296:=by omega
             have q226:0<l7.length:=by omega
             refine Z1 (Y2 (Y6 c197 (ja_ (n:=1) (f:=eS) (fun _=>rfl) t664.1) c199 h217 h218 q216) (Y6 (YV (f:=eS) q216) (YO (f:=eS) q216) h221 h223 h224 h225)) ?_;rcases zit H220 with⟨c227,H228⟩ |⟨c227,H228⟩
             ·refine Z1 (Y3 (Y6 c197 (ja_ (n:=1) (f:=eS) (fun _=>rfl) t664.1) c199 h217 h218 q216) (Y6 (YV (f:=eS) q216) (YO (f:=eS) q216) h221 h223 h224 h225) c227) ?_
              rcases zit H228 with⟨c229,H230⟩ |⟨c229,H230⟩
              ·refine Z1 (Y3 (Y6 c197 (ja_ (n:=1) (f:=eS) (fun _=>rfl) t664.1) c199 h217 h218 q216) (Y6 (YV (f:=eS) q216) (YO (f:=eS) q216) h221 h223 h224 h225) (Y2 c227 c229)) ?_
               obtain rfl:=Zi H230;exact⟨⟨⟨l7,rfl⟩,(g6+1)⟩,ZR [(0,0),(1,1),(2,2),(3,3),(4,4),(5,5),(6,6)]⟩
              ·obtain⟨x10,b231,H232⟩:=zbi H230
               obtain⟨h233,h234⟩:=zix b231;try simp only[Int.reduceToNat,Int.toNat_natCast] at h234
               have h235:=qn_ eS h234;refine Z1 (Y3 (Y6 c197 (ja_ (n:=1) (f:=eS) (fun _=>rfl) t664.1) c199 h217 h218 q216) (Y6 (YV (f:=eS) q216) (YO (f:=eS) q216) h221 h223 h224 h225) (Y4 c227 c229 (zno .i64 h233) h235)) ?_
               exact⟨⟨((c,(l7,x10,(IntKind.i64.wrap (t213+1)))),(g6+1)),H232⟩,ZR [(0,0),(1,1),(2,2),(3,3),(4,4),(5,5),(6,6)],Nat.lt_succ_self _⟩
             ·refine Z1 (Y3 (Y6 c197 (ja_ (n:=1) (f:=eS) (fun _=>rfl) t664.1) c199 h217 h218 q216) (Y6 (YV (f:=eS) q216) (YO (f:=eS) q216) h221 h223 h224 h225) c227) ?_
              obtain rfl:=Zi H228;exact⟨⟨⟨l7,rfl⟩,(g6+1)⟩,ZR [(0,0),(1,1),(2,2),(3,3),(4,4),(5,5),(6,6)]⟩
         ·refine Z1 c185 ?_
          obtain rfl:=Zi H186;exact⟨⟨⟨t194,rfl⟩,g5⟩,ZR [(0,0),(1,1),(2,2),(3,3),(4,4),(5,5),(6,6)]⟩
      ·rintro⟨⟨t196,he278⟩,g8⟩
       obtain rfl:=he278.symm;try dsimp only at H156
       refine zsq (ZT 1 ?_);obtain⟨t1062,b238,H239⟩:=zbi H156;refine Z0 ?_;refine ZC0 (xG_ b238) ?_;refine Z0 ?_;rcases zit H239 with⟨c240,H241⟩ |⟨c240,H241⟩
       ·refine Z1 c240 ?_
        refine zsq (ZT 1 ?_);refine Z1 c240 ?_;obtain⟨e_9,E242,H243⟩:=zbi H241
        refine zjn (α:={ y:Unit // e_9= .inl y }) (fun |⟨_,_⟩=>⟨upd 3 (.v (.int .i64 (IntKind.i64.wrap ((IntKind.i64.wrap (an t3 3:Int))+1)))) (upd 9 (.pt 0 0) (upd 10 (.pt 1 0) (upd 11 (.pt 2 0) (upd 12 (.pt 3 0) (upd 13 (.pt 4 0) (upd 14 (.pt 5 0) noFr)))))),upd 0 (some (.bx [.d (.sl (List.map eGType t28)) false])) (upd 1 (some (.bx [.d (.sl (List.map eGTuple t34)) false])) (upd 2 (some (.bx [.v (.string t37.1.type_),.v (.string t37.1.id_)])) (upd 3 (some (.bx [.v (.string t37.2.1)])) (upd 4 (some (.bx [.v (.string t37.2.2.type_),.v (.string t37.2.2.id_),.v (.string t37.2.2.rel)])) (upd 5 (some (.bx [.v (.int .i64 t14)])) noHp))))),6⟩) ?_ ?_
        ·refine zbk ?_
         refine zlp (α:={ q:Nat × Int // qF_ n t522 q.1 q.2=some e_9 }) (fun |⟨⟨c,t253⟩,_⟩=>⟨upd 3 (.v (.int .i64 (IntKind.i64.wrap ((IntKind.i64.wrap (an t3 3:Int))+1)))) (upd 9 (.pt 0 0) (upd 10 (.pt 1 0) (upd 11 (.pt 2 0) (upd 12 (.pt 3 0) (upd 13 (.pt 4 0) (upd 14 (.pt 5 0) (upd 16 (.d (.sl (List.map eS t522.1)) false) (upd 25 (.v (.int .i64 t253)) noFr)))))))),upd 0 (some (.bx [.d (.sl (List.map eGType t28)) false])) (upd 1 (some (.bx [.d (.sl (List.map eGTuple t34)) false])) (upd 2 (some (.bx [.v (.string t37.1.type_),.v (.string t37.1.id_)])) (upd 3 (some (.bx [.v (.string t37.2.1)])) (upd 4 (some (.bx [.v (.string t37.2.2.type_),.v (.string t37.2.2.id_),.v (.string t37.2.2.rel)])) (upd 5 (some (.bx [.v (.int .i64 t14)])) noHp))))),6⟩) (fun q=>q.1.1) ⟨(n,1),E242⟩ ?_ ?_
         ·exact ZR [(0,0),(1,1),(2,2),(3,3),(4,4),(5,5)]
         ·rintro⟨⟨c,t253⟩,L244⟩
          rcases c with _ |c
          ·exact Zx L244
          ·unfold qF_ at L244
           try dsimp only at L244
           refine ZT 1 ?_;refine Z0 ?_;rcases zit L244 with⟨c261,H262⟩ |⟨c261,H262⟩
           ·obtain⟨x13,b263,H264⟩:=zbi H262
            obtain⟨h265,h266⟩:=zix b263;try simp only[Int.reduceToNat,Int.toNat_natCast] at h266
            have h267:=qn_ eS h266;obtain⟨x14,b269,H270⟩:=zbi H264;obtain⟨h271,h272⟩:=zix b269;try simp only[Int.reduceToNat,Int.toNat_natCast] at h272
            have h273:=qn_ eS h272;refine Z1 (Y5 c261 (zno .i64 h265) h267 (zno .i64 h271) h273) ?_;refine qj_ (by rfl) ?_;refine Z1 (Y5 c261 (zno .i64 h265) h267 (zno .i64 h271) h273) ?_;rcases zit H270 with⟨c275,H276⟩ |⟨c275,H276⟩
            ·refine Z1 (Y6 c261 (zno .i64 h265) h267 (zno .i64 h271) h273 c275) ?_
             exact⟨⟨(c,(IntKind.i64.wrap (t253+1))),H276⟩,ZR [(0,0),(1,1),(2,2),(3,3),(4,4),(5,5)],Nat.lt_succ_self _⟩
            ·refine Z1 (Y6 c261 (zno .i64 h265) h267 (zno .i64 h271) h273 c275) ?_
             obtain rfl:=Zi H276;obtain rfl:=Zi H243;obtain rfl:=Zi H19;exact ZE0
           ·refine Z1 c261 ?_
            obtain rfl:=Zi H262;exact⟨⟨(),rfl⟩,ZR [(0,0),(1,1),(2,2),(3,3),(4,4),(5,5)]⟩
        ·rintro⟨_,he277⟩
         obtain rfl:=he277.symm;try dsimp only at H243
         refine Z0 ?_;refine ZT 1 ?_;refine Z0 ?_;exact⟨⟨(c,(IntKind.i64.wrap (t14+1))),H243⟩,ZR [(0,0),(1,1),(2,2),(3,3),(4,4),(5,7)],Nat.lt_succ_self _⟩
       ·refine Z1 c240 ?_
        obtain rfl:=Zi H241;obtain rfl:=Zi H19;exact ZE0
    ·refine Z1 c149 ?_
     obtain rfl:=Zi H150;exact⟨⟨(),rfl⟩,ZR []⟩
 ·rintro⟨_,he281⟩
  obtain rfl:=he281.symm;try dsimp only at H19
  refine ZT 1 ?_;obtain⟨t125,b279,H280⟩:=zbi H19;refine Z0 ?_;refine ZC0 (uN_ b279) ?_;refine Z0 ?_;obtain rfl:=Zi H280;exact ZE0
def L9:List (List D):=[[.v (.string { data:= #[117] }),.sl []],[.v (.string { data:= #[103] }),.sl [[.v (.string { data:= #[109] }),.sl [[.v (.string { data:= #[117] }),.v (.string ByteArray.empty),.v (.string ByteArray.empty)],[.v (.string { data:= #[103] }),.v (.string ByteArray.empty),.v (.string { data:= #[109] })]],.sl []]]],[.v (.string { data:= #[100] }),.sl [[.v (.string { data:= #[111] }),.sl [[.v (.string { data:= #[117] }),.v (.string ByteArray.empty),.v (.string ByteArray.empty)]],.sl []],[.v (.string { data:= #[118] }),.sl [[.v (.string { data:= #[103] }),.v (.string ByteArray.empty),.v (.string { data:= #[109] })]],.sl []],[.v (.string { data:= #[99,97,110] }),.sl [],.sl [[.v (.int .i64 1),.v (.string { data:= #[111] }),.v (.string ByteArray.empty)],[.v (.int .i64 1),.v (.string { data:= #[118] }),.v (.string ByteArray.empty)],[.v (.int .i64 3),.v (.string ByteArray.empty),.v (.string ByteArray.empty)],[.v (.int .i64 1),.v (.string { data:= #[110,111,116] }),.v (.string ByteArray.empty)],[.v (.int .i64 4),.v (.string ByteArray.empty),.v (.string ByteArray.empty)]]],[.v (.string { data:= #[110,111,116] }),.sl [[.v (.string { data:= #[117] }),.v (.string ByteArray.empty),.v (.string ByteArray.empty)]],.sl []]]]]
end Go.Proofs.YtnmkbmefohakmaaGreat.Ab
