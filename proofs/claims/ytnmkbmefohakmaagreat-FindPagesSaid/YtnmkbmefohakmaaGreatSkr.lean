/-
 Sorting so that equals stay: parts are turned over.
-/
import Derived.Test.YtnmkbmefohakmaaGreatPra
namespace Go.Proofs.YtnmkbmefohakmaaGreat.Ab
open Go.RowKit
def zo_ (_:Nat)(c2:Int):Option Bool:=
 (if (decide (97<=c2)) then
  (if (decide (c2<=122)) then
   some true
  else
   (if (decide (48<=c2)) then
    (if (decide (c2<=57)) then
     some true
    else
     some (c2==95))
   else
    some (c2==95)))
 else
  (if (decide (48<=c2)) then
   (if (decide (c2<=57)) then
    some true
   else
    some (c2==95))
  else
   some (c2==95)))
theorem vH_ {n:Nat}{c2:Int}{r:Bool}(H:zo_ n c2=some r):PureOK Tryz.prog 82 [D.v (.int .u8 c2)] (D.v (.bool r)) true:=by
 unfold zo_ at H;refine ZP qf_ fol (rs:= #[.tmp 2]) Tryz.func82 ?_;refine ZT 1 ?_;refine Z0 ?_;rcases zit H with⟨c1,H2⟩ |⟨c1,H2⟩
 ·refine Z1 c1 ?_
  rcases zit H2 with⟨c3,H4⟩ |⟨c3,H4⟩
  ·refine Z1 (Y2 c1 c3) ?_
   obtain rfl:=Zi H4;exact ZE0
  ·refine Z1 (Y2 c1 c3) ?_
   rcases zit H4 with⟨c5,H6⟩ |⟨c5,H6⟩
   ·refine Z1 (Y3 c1 c3 c5) ?_
    rcases zit H6 with⟨c7,H8⟩ |⟨c7,H8⟩
    ·refine Z1 (Y4 c1 c3 c5 c7) ?_
     obtain rfl:=Zi H8;exact ZE0
    ·refine Z1 (Y4 c1 c3 c5 c7) ?_
     obtain rfl:=Zi H8;exact ZE0
   ·refine Z1 (Y3 c1 c3 c5) ?_
    obtain rfl:=Zi H6;exact ZE0
 ·refine Z1 c1 ?_
  rcases zit H2 with⟨c9,H10⟩ |⟨c9,H10⟩
  ·refine Z1 (Y2 c1 c9) ?_
   rcases zit H10 with⟨c11,H12⟩ |⟨c11,H12⟩
   ·refine Z1 (Y3 c1 c9 c11) ?_
    obtain rfl:=Zi H12;exact ZE0
   ·refine Z1 (Y3 c1 c9 c11) ?_
    obtain rfl:=Zi H12;exact ZE0
  ·refine Z1 (Y2 c1 c9) ?_
   obtain rfl:=Zi H10;exact ZE0
def xn_ (n:Nat)(s:ByteArray)(c2:Int):Nat->Int->Option ((Unit) ⊕ Int)
 |0,_=>none
 |c+1,i=>
  (if (decide (i<(s.size:Int))) then
   (bidx s i).bind fun ch2=>
   (if (ch2==c2) then
    some (.inr i)
   else
    xn_ n s c2 c (IntKind.i64.wrap (i+1)))
  else
   some (.inl ()))
def w3_ (n:Nat)(s:ByteArray)(c2:Int)(from_:Int):Option Int:=
 (
  xn_ n s c2 n from_:Option ((Unit) ⊕ Int)).bind fun
  | .inl _=>
   some (-1)
  | .inr r=>some r
theorem dl_ {n:Nat}{s:ByteArray}{c2:Int}{from_:Int}{r:Int}(H:w3_ n s c2 from_=some r):PureOK Tryz.prog 83 [D.v (.string s),D.v (.int .u8 c2),D.v (.int .i64 from_)] (D.v (.int .i64 r)) true:=by
 unfold w3_ at H;refine ZP qf_ fol (rs:= #[.tmp 6]) Tryz.func83 ?_;refine zsq (ZT 1 ?_);refine Z0 ?_;refine zsq (zsq ?_);refine ZT 1 ?_;refine Z0 ?_;obtain⟨e_,E1,H2⟩:=zbi H;refine zjn (α:={ y:Unit // e_= .inl y }) (fun |⟨_,_⟩=>⟨noFr,noHp,0⟩) ?_ ?_
 ·refine zbk ?_
  refine zlp (α:={ q:Nat × Int // xn_ n s c2 q.1 q.2=some e_ }) (fun |⟨⟨c,i⟩,_⟩=>⟨upd 0 (.v (.string s)) (upd 1 (.v (.int .u8 c2)) (upd 7 (.v (.int .i64 i)) noFr)),noHp,0⟩) (fun q=>q.1.1) ⟨(n,from_),E1⟩ ?_ ?_
  ·exact ZR []
  ·rintro⟨⟨c,i⟩,L3⟩
   rcases c with _ |c
   ·exact Zx L3
   ·unfold xn_ at L3
    try dsimp only at L3
    refine ZT 1 ?_;refine Z0 ?_;rcases zit L3 with⟨c13,H14⟩ |⟨c13,H14⟩
    ·obtain⟨ch2,b15,H16⟩:=zbi H14
     obtain⟨h17,by_2,h18,h19⟩:=zbx b15;try simp only[Int.reduceToNat,Int.toNat_natCast] at h18
     refine Z1 (Y4 c13 (zno .i64 h17) h18 h19.symm) ?_;rcases zit H16 with⟨c20,H21⟩ |⟨c20,H21⟩
     ·refine Z1 (Y5 c13 (zno .i64 h17) h18 h19.symm c20) ?_
      obtain rfl:=Zi H21;obtain rfl:=Zi H2;exact ZE0
     ·refine Z1 (Y5 c13 (zno .i64 h17) h18 h19.symm c20) ?_
      exact⟨⟨(c,(IntKind.i64.wrap (i+1))),H21⟩,ZR [],Nat.lt_succ_self _⟩
    ·refine Z1 c13 ?_
     obtain rfl:=Zi H14;exact⟨⟨(),rfl⟩,ZR []⟩
 ·rintro⟨_,he22⟩
  obtain rfl:=he22.symm;try dsimp only at H2
  refine ZT 1 ?_;refine Z0 ?_;obtain rfl:=Zi H2;exact ZE0
def jS_ (n:Nat)(t0:ByteArray):Nat->Int->Option (Int)
 |0,_=>none
 |c+1,t88=>
  (if (decide (t88<(t0.size:Int))) then
   (bidx t0 t88).bind fun ch11=>
   (if (ch11 != 10) then
    jS_ n t0 c (IntKind.i64.wrap (t88+1))
   else
    some t88)
  else
   some t88)
def jT_ (n:Nat)(t0:ByteArray):Nat->Int->Option (Int)
 |0,_=>none
 |c+1,t811=>
  (if (decide (t811<(t0.size:Int))) then
   (bidx t0 t811).bind fun ch13=>
   (zo_ n ch13).bind fun t754=>
   (if t754 then
    jT_ n t0 c (IntKind.i64.wrap (t811+1))
   else
    some t811)
  else
   some t811)
def jA_ (n:Nat)(t0:ByteArray):Nat->(List GToken × Int)->Option ((List GToken) ⊕ (List GToken × Int × Int))
 |0,_=>none
 |c+1,(t5,t6)=>
  (if (decide (t6<(t0.size:Int))) then
   (bidx t0 t6).bind fun ch8=>
   (
    (
     (if (ch8==32) then
      some true
     else
      (if (ch8==9) then
       some true
      else
       (if (ch8==10) then
        some true
       else
        some (ch8==13)))):Option (Bool)).bind fun t222=>
    (if t222 then
     some (.inl ((IntKind.i64.wrap (t6+1)),0))
    else
     (
      (if (ch8==47) then
       (if (decide ((IntKind.i64.wrap (t6+1))<(t0.size:Int))) then
        (bidx t0 (IntKind.i64.wrap (t6+1))).bind fun ch9=>
        some (ch9==47)
       else
        some false)
      else
       some false):Option (Bool)).bind fun t372=>
     (if t372 then
      (
       jS_ n t0 n (IntKind.i64.wrap (t6+1)):Option (Int)).bind fun t810=>
      some (.inl (t810,0))
     else
      (zo_ n ch8).bind fun t662=>
      (if t662 then
       (
        jT_ n t0 n (IntKind.i64.wrap (t6+1)):Option (Int)).bind fun t813=>
       some (.inl (t813,1))
      else
       (
        (if (ch8==45) then
         (if (decide ((IntKind.i64.wrap (t6+1))<(t0.size:Int))) then
          (bidx t0 (IntKind.i64.wrap (t6+1))).bind fun ch14=>
          some (ch14==62)
         else
          some false)
        else
         some false):Option (Bool)).bind fun t792=>
       (if t792 then
        some (.inl ((IntKind.i64.wrap ((IntKind.i64.wrap (t6+1))+1)),2))
       else
        (w3_ n ({ data:= #[123,125,58,59,124,35,61,43,45,38,40,41] }) ch8 0).bind fun t982=>
        (if (decide (t982<0)) then
         some (.inr ([],t6,7))
        else
         some (.inl ((IntKind.i64.wrap (t6+1)),2))))))):Option ((Int × Int) ⊕ (List GToken × Int × Int))).bind fun
    | .inl (t814,t92)=>
     (if (decide (0<t92)) then
      (bslc t0 t6 t814).bind fun s2=>
      (app t5 [(⟨t92,t6,s2⟩:GToken)]).bind fun l=>
      jA_ n t0 c (l,t814)
     else
      jA_ n t0 c (t5,t814))
    | .inr r=>some (.inr r)
  else
   some (.inl t5))
def zp_ (n:Nat)(t0:ByteArray):Option (List GToken × Int × Int):=
 (if (decide (100000<(t0.size:Int))) then
  some ([],0,8)
 else
  (
   jA_ n t0 n ([],0):Option ((List GToken) ⊕ (List GToken × Int × Int))).bind fun
   | .inl t53=>
    some (t53,0,0)
   | .inr r=>some r)
set_option maxHeartbeats 8000000 in
theorem uQ_ {n:Nat}{t0:ByteArray}{r:List GToken × Int × Int}(H:zp_ n t0=some r):PureOK Tryz.prog 53 [D.v (.string t0)] (D.tu [D.sl (List.map eGToken r.1),D.v (.int .i64 r.2.1),D.v (.int .i64 r.2.2)]) true:=by
 unfold zp_ at H;refine ZP qf_ fol (rs:= #[.tmp 2,.tmp 3,.tmp 4]) Tryz.func53 ?_;refine zsq (ZT 1 ?_);refine Z0 ?_;refine zsq (ZT 1 ?_);refine Z0 ?_;rcases zit H with⟨c1,H2⟩ |⟨c1,H2⟩
 ·refine Z1 c1 ?_
  obtain rfl:=Zi H2;exact ZE0
 ·refine Z1 c1 ?_
  refine zsq (ZT 1 ?_);refine Z1 c1 ?_;refine zsq (zsq ?_);refine ZT 1 ?_;refine Z1 c1 ?_;obtain⟨e_,E3,H4⟩:=zbi H2;refine zjn (α:={ y:List GToken // e_= .inl y } × Nat) (fun |⟨⟨t53,_⟩,g15⟩=>⟨upd 5 (accV 0 g15 (List.map eGToken t53)) noFr,upd 0 (accO 3 g15 false (List.map eGToken t53)) noHp,1⟩) ?_ ?_
  ·refine zbk ?_
   refine zlp (α:={ q:(Nat × (List GToken × Int)) × Nat // jA_ n t0 q.1.1 q.1.2=some e_ }) (fun |⟨⟨⟨c,⟨t5,t6⟩⟩,g⟩,_⟩=>⟨upd 0 (.v (.string t0)) (upd 5 (accV 0 g (List.map eGToken t5)) (upd 6 (.v (.int .i64 t6)) noFr)),upd 0 (accO 3 g false (List.map eGToken t5)) noHp,1⟩) (fun q=>q.1.1.1) ⟨((n,([],0)),0),E3⟩ ?_ ?_
   ·exact ZR []
   ·rintro⟨⟨⟨c,⟨t5,t6⟩⟩,g⟩,L5⟩
    rcases c with _ |c
    ·exact Zx L5
    ·unfold jA_ at L5
     try dsimp only at L5
     refine zsq (ZT 1 ?_);refine Z0 ?_;rcases zit L5 with⟨c122,H123⟩ |⟨c122,H123⟩
     ·refine Z1 c122 ?_
      refine zbk ?_;refine zsq (ZT 1 ?_);obtain⟨ch8,b124,H125⟩:=zbi H123;obtain⟨h126,by_8,h127,h128⟩:=zbx b124;try simp only[Int.reduceToNat,Int.toNat_natCast] at h127
      refine Z1 (Y4 c122 (zno .i64 h126) h127 h128.symm) ?_;refine zsq (ZT 1 ?_);refine Z1 (Y4 c122 (zno .i64 h126) h127 h128.symm) ?_;refine zsq (ZT 1 ?_);refine Z1 (Y4 c122 (zno .i64 h126) h127 h128.symm) ?_;refine zsq ?_;obtain⟨e_8,E129,H130⟩:=zbi H125
      refine zjn (α:={ y:Int × Int // e_8= .inl y } × Nat) (fun |⟨⟨⟨t814,t92⟩,_⟩,g13⟩=>⟨upd 0 (.v (.string t0)) (upd 5 (accV 0 g13 (List.map eGToken t5)) (upd 6 (.v (.int .i64 t6)) (upd 8 (.v (.int .i64 t814)) (upd 9 (.v (.int .i64 t92)) noFr)))),upd 0 (accO 3 g13 false (List.map eGToken t5)) noHp,1⟩) ?_ ?_
      ·refine zbk ?_
       refine zsq ?_;obtain⟨e_9,E131,H132⟩:=zbi E129
       refine zjn (α:={ y:Bool // e_9=y } × Nat) (fun |⟨⟨t222,_⟩,g2⟩=>⟨upd 0 (.v (.string t0)) (upd 5 (accV 0 g2 (List.map eGToken t5)) (upd 6 (.v (.int .i64 t6)) (upd 7 (.v (.int .u8 ch8)) (upd 8 (.v (.int .i64 (IntKind.i64.wrap (t6+1)))) (upd 9 (.v (.int .i64 2)) (upd 22 (.v (.bool t222)) noFr)))))),upd 0 (accO 3 g2 false (List.map eGToken t5)) noHp,1⟩) ?_ ?_
       ·refine ZT 1 ?_
        refine Z0 ?_;rcases zit E131 with⟨c133,H134⟩ |⟨c133,H134⟩
        ·refine Z1 c133 ?_
         obtain rfl:=Zi H134;exact⟨⟨⟨true,rfl⟩,g⟩,ZR [(0,0)]⟩
        ·refine Z1 c133 ?_
         rcases zit H134 with⟨c135,H136⟩ |⟨c135,H136⟩
         ·refine Z1 (Y2 c133 c135) ?_
          obtain rfl:=Zi H136;exact⟨⟨⟨true,rfl⟩,g⟩,ZR [(0,0)]⟩
         ·refine Z1 (Y2 c133 c135) ?_
          rcases zit H136 with⟨c137,H138⟩ |⟨c137,H138⟩
          ·refine Z1 (Y3 c133 c135 c137) ?_
           obtain rfl:=Zi H138;exact⟨⟨⟨true,rfl⟩,g⟩,ZR [(0,0)]⟩
          ·refine Z1 (Y3 c133 c135 c137) ?_
           obtain rfl:=Zi H138;exact⟨⟨⟨(ch8==13),rfl⟩,g⟩,ZR [(0,0)]⟩
       ·rintro⟨⟨t222,he225⟩,g2⟩
        obtain rfl:=he225.symm;try dsimp only at H132
        rcases zit H132 with⟨c139,H140⟩ |⟨c139,H140⟩
        ·refine qs_ (by rfl) c139 ?_
         refine Z1 c139 ?_;refine ZT 2 ?_;refine Z1 c139 ?_;obtain rfl:=Zi H140;exact⟨⟨⟨((IntKind.i64.wrap (t6+1)),0),rfl⟩,g2⟩,ZR [(0,0)]⟩
        ·refine qg_ (by rfl) c139 ?_
         refine Z1 c139 ?_;refine zsq ?_;obtain⟨e_10,E141,H142⟩:=zbi H140
         refine zjn (α:={ y:Bool // e_10=y } × Nat) (fun |⟨⟨t372,_⟩,g3⟩=>⟨upd 0 (.v (.string t0)) (upd 5 (accV 0 g3 (List.map eGToken t5)) (upd 6 (.v (.int .i64 t6)) (upd 7 (.v (.int .u8 ch8)) (upd 8 (.v (.int .i64 (IntKind.i64.wrap (t6+1)))) (upd 9 (.v (.int .i64 2)) (upd 37 (.v (.bool t372)) noFr)))))),upd 0 (accO 3 g3 false (List.map eGToken t5)) noHp,1⟩) ?_ ?_
         ·refine ZT 1 ?_
          refine Z0 ?_;rcases zit E141 with⟨c143,H144⟩ |⟨c143,H144⟩
          ·refine Z1 c143 ?_
           rcases zit H144 with⟨c145,H146⟩ |⟨c145,H146⟩
           ·obtain⟨ch9,b147,H148⟩:=zbi H146
            obtain⟨h149,by_9,h150,h151⟩:=zbx b147;try simp only[Int.reduceToNat,Int.toNat_natCast] at h150
            refine Z1 (Y5 c143 c145 (zno .i64 h149) h150 h151.symm) ?_;obtain rfl:=Zi H148;exact⟨⟨⟨(ch9==47),rfl⟩,g2⟩,ZR [(0,0)]⟩
           ·refine Z1 (Y2 c143 c145) ?_
            obtain rfl:=Zi H146;exact⟨⟨⟨false,rfl⟩,g2⟩,ZR [(0,0)]⟩
          ·refine Z1 c143 ?_
           obtain rfl:=Zi H144;exact⟨⟨⟨false,rfl⟩,g2⟩,ZR [(0,0)]⟩
         ·rintro⟨⟨t372,he224⟩,g3⟩
          obtain rfl:=he224.symm;try dsimp only at H142
          rcases zit H142 with⟨c152,H153⟩ |⟨c152,H153⟩
          ·refine qs_ (by rfl) c152 ?_
           refine Z1 c152 ?_;refine zsq ?_;obtain⟨e_11,E154,H155⟩:=zbi H153;refine zjn (α:={ y:Int // e_11=y } × Nat) (fun |⟨⟨t810,_⟩,g7⟩=>⟨upd 0 (.v (.string t0)) (upd 5 (accV 0 g7 (List.map eGToken t5)) (upd 6 (.v (.int .i64 t6)) (upd 8 (.v (.int .i64 t810)) noFr))),upd 0 (accO 3 g7 false (List.map eGToken t5)) noHp,1⟩) ?_ ?_
           ·refine zbk ?_
            refine zlp (α:={ q:(Nat × Int) × Nat // jS_ n t0 q.1.1 q.1.2=some e_11 }) (fun |⟨⟨⟨c,t88⟩,g5⟩,_⟩=>⟨upd 0 (.v (.string t0)) (upd 5 (accV 0 g5 (List.map eGToken t5)) (upd 6 (.v (.int .i64 t6)) (upd 8 (.v (.int .i64 t88)) noFr))),upd 0 (accO 3 g5 false (List.map eGToken t5)) noHp,1⟩) (fun q=>q.1.1.1) ⟨((n,(IntKind.i64.wrap (t6+1))),g3),E154⟩ ?_ ?_
            ·exact ZR [(0,0)]
            ·rintro⟨⟨⟨c,t88⟩,g5⟩,L156⟩
             rcases c with _ |c
             ·exact Zx L156
             ·unfold jS_ at L156
              try dsimp only at L156
              refine ZT 1 ?_;refine Z0 ?_;rcases zit L156 with⟨c166,H167⟩ |⟨c166,H167⟩
              ·obtain⟨ch11,b168,H169⟩:=zbi H167
               obtain⟨h170,by_11,h171,h172⟩:=zbx b168;try simp only[Int.reduceToNat,Int.toNat_natCast] at h171
               refine Z1 (Y4 c166 (zno .i64 h170) h171 h172.symm) ?_;rcases zit H169 with⟨c173,H174⟩ |⟨c173,H174⟩
               ·refine Z1 (Y5 c166 (zno .i64 h170) h171 h172.symm c173) ?_
                exact⟨⟨((c,(IntKind.i64.wrap (t88+1))),g5),H174⟩,ZR [(0,0)],Nat.lt_succ_self _⟩
               ·refine Z1 (Y5 c166 (zno .i64 h170) h171 h172.symm c173) ?_
                obtain rfl:=Zi H174;exact⟨⟨⟨t88,rfl⟩,g5⟩,ZR [(0,0)]⟩
              ·refine Z1 c166 ?_
               obtain rfl:=Zi H167;exact⟨⟨⟨t88,rfl⟩,g5⟩,ZR [(0,0)]⟩
           ·rintro⟨⟨t810,he175⟩,g7⟩
            obtain rfl:=he175.symm;try dsimp only at H155
            refine ZT 2 ?_;refine Z0 ?_;obtain rfl:=Zi H155;exact⟨⟨⟨(t810,0),rfl⟩,g7⟩,ZR [(0,0)]⟩
          ·refine qg_ (by rfl) c152 ?_
           refine Z1 c152 ?_;refine zsq (ZT 1 ?_);obtain⟨t662,b176,H177⟩:=zbi H153;refine Z1 c152 ?_;refine ZC0 (vH_ b176) ?_;refine Z1 c152 ?_;rcases zit H177 with⟨c178,H179⟩ |⟨c178,H179⟩
           ·refine qs_ (by rfl) c178 ?_
            refine Z1 (Y2 c152 c178) ?_;refine zsq ?_;obtain⟨e_12,E180,H181⟩:=zbi H179;refine zjn (α:={ y:Int // e_12=y } × Nat) (fun |⟨⟨t813,_⟩,g11⟩=>⟨upd 0 (.v (.string t0)) (upd 5 (accV 0 g11 (List.map eGToken t5)) (upd 6 (.v (.int .i64 t6)) (upd 8 (.v (.int .i64 t813)) noFr))),upd 0 (accO 3 g11 false (List.map eGToken t5)) noHp,1⟩) ?_ ?_
            ·refine zbk ?_
             refine zlp (α:={ q:(Nat × Int) × Nat // jT_ n t0 q.1.1 q.1.2=some e_12 }) (fun |⟨⟨⟨c,t811⟩,g9⟩,_⟩=>⟨upd 0 (.v (.string t0)) (upd 5 (accV 0 g9 (List.map eGToken t5)) (upd 6 (.v (.int .i64 t6)) (upd 8 (.v (.int .i64 t811)) noFr))),upd 0 (accO 3 g9 false (List.map eGToken t5)) noHp,1⟩) (fun q=>q.1.1.1) ⟨((n,(IntKind.i64.wrap (t6+1))),g3),E180⟩ ?_ ?_
             ·exact ZR [(0,0)]
             ·rintro⟨⟨⟨c,t811⟩,g9⟩,L182⟩
              rcases c with _ |c
              ·exact Zx L182
              ·unfold jT_ at L182
               try dsimp only at L182
               refine ZT 1 ?_;refine Z0 ?_;rcases zit L182 with⟨c194,H195⟩ |⟨c194,H195⟩
               ·obtain⟨ch13,b196,H197⟩:=zbi H195
                obtain⟨h198,by_13,h199,h200⟩:=zbx b196;try simp only[Int.reduceToNat,Int.toNat_natCast] at h199
                obtain⟨t754,b201,H202⟩:=zbi H197;refine Z1 (Y4 c194 (zno .i64 h198) h199 h200.symm) ?_;refine ZC0 (vH_ b201) ?_;refine Z1 (Y4 c194 (zno .i64 h198) h199 h200.symm) ?_;rcases zit H202 with⟨c203,H204⟩ |⟨c203,H204⟩
                ·refine Z1 (Y5 c194 (zno .i64 h198) h199 h200.symm c203) ?_
                 exact⟨⟨((c,(IntKind.i64.wrap (t811+1))),g9),H204⟩,ZR [(0,0)],Nat.lt_succ_self _⟩
                ·refine Z1 (Y5 c194 (zno .i64 h198) h199 h200.symm c203) ?_
                 obtain rfl:=Zi H204;exact⟨⟨⟨t811,rfl⟩,g9⟩,ZR [(0,0)]⟩
               ·refine Z1 c194 ?_
                obtain rfl:=Zi H195;exact⟨⟨⟨t811,rfl⟩,g9⟩,ZR [(0,0)]⟩
            ·rintro⟨⟨t813,he205⟩,g11⟩
             obtain rfl:=he205.symm;try dsimp only at H181
             refine ZT 2 ?_;refine Z0 ?_;obtain rfl:=Zi H181;exact⟨⟨⟨(t813,1),rfl⟩,g11⟩,ZR [(0,0)]⟩
           ·refine qg_ (by rfl) c178 ?_
            refine Z1 (Y2 c152 c178) ?_;refine zsq ?_;obtain⟨e_13,E206,H207⟩:=zbi H179
            refine zjn (α:={ y:Bool // e_13=y } × Nat) (fun |⟨⟨t792,_⟩,g12⟩=>⟨upd 0 (.v (.string t0)) (upd 5 (accV 0 g12 (List.map eGToken t5)) (upd 6 (.v (.int .i64 t6)) (upd 7 (.v (.int .u8 ch8)) (upd 8 (.v (.int .i64 (IntKind.i64.wrap (t6+1)))) (upd 9 (.v (.int .i64 2)) (upd 79 (.v (.bool t792)) noFr)))))),upd 0 (accO 3 g12 false (List.map eGToken t5)) noHp,1⟩) ?_ ?_
            ·refine ZT 1 ?_
             refine Z0 ?_;rcases zit E206 with⟨c208,H209⟩ |⟨c208,H209⟩
             ·refine Z1 c208 ?_
              rcases zit H209 with⟨c210,H211⟩ |⟨c210,H211⟩
              ·obtain⟨ch14,b212,H213⟩:=zbi H211
               obtain⟨h214,by_14,h215,h216⟩:=zbx b212;try simp only[Int.reduceToNat,Int.toNat_natCast] at h215
               refine Z1 (Y5 c208 c210 (zno .i64 h214) h215 h216.symm) ?_;obtain rfl:=Zi H213;exact⟨⟨⟨(ch14==62),rfl⟩,g3⟩,ZR [(0,0)]⟩
              ·refine Z1 (Y2 c208 c210) ?_
               obtain rfl:=Zi H211;exact⟨⟨⟨false,rfl⟩,g3⟩,ZR [(0,0)]⟩
             ·refine Z1 c208 ?_
              obtain rfl:=Zi H209;exact⟨⟨⟨false,rfl⟩,g3⟩,ZR [(0,0)]⟩
            ·rintro⟨⟨t792,he223⟩,g12⟩
             obtain rfl:=he223.symm;try dsimp only at H207
             refine ZT 2 ?_;refine Z0 ?_;rcases zit H207 with⟨c217,H218⟩ |⟨c217,H218⟩
             ·refine Z1 c217 ?_
              obtain rfl:=Zi H218;exact⟨⟨⟨((IntKind.i64.wrap ((IntKind.i64.wrap (t6+1))+1)),2),rfl⟩,g12⟩,ZR [(0,0)]⟩
             ·obtain⟨t982,b219,H220⟩:=zbi H218
              refine Z1 c217 ?_;refine ZC0 (dl_ b219) ?_;refine Z1 c217 ?_;rcases zit H220 with⟨c221,H222⟩ |⟨c221,H222⟩
              ·refine Z1 (Y2 c217 c221) ?_
               obtain rfl:=Zi H222;obtain rfl:=Zi H130;obtain rfl:=Zi H4;exact ZE0
              ·refine Z1 (Y2 c217 c221) ?_
               obtain rfl:=Zi H222;exact⟨⟨⟨((IntKind.i64.wrap (t6+1)),2),rfl⟩,g12⟩,ZR [(0,0)]⟩
      ·rintro⟨⟨⟨t814,t92⟩,he245⟩,g13⟩
       obtain rfl:=he245.symm;try dsimp only at H130
       refine ZT 2 ?_;refine Z0 ?_;rcases zit H130 with⟨c226,H227⟩ |⟨c226,H227⟩
       ·obtain⟨s2,b228,H229⟩:=zbi H227
        obtain⟨h230,h231,h232,h233⟩:=zbs b228;have h234:Int.toNat t6<=Int.toNat t814:=by omega
        have h235:Int.toNat t814<=t0.size:=by omega
        have h236:ByteArray.extract t0 (Int.toNat t6) (Int.toNat t814)=s2:=h233.symm;try simp only[Int.toNat_natCast] at h234 h235 h236
        obtain⟨l,b237,H238⟩:=zbi H229;obtain⟨h239,h240⟩:=jV_ b237;have h239:t5.length+1<=4294967296:=h239;have h241:List.map eGToken t5++[[.v (.int .i64 t92),.v (.int .i64 t6),.v (.string s2)]]=List.map eGToken l:=jD_ eGToken h240;have h242:t5.length+1=l.length:=jE_ h240;have h243:l.length<=4294967296:=by omega
        have q244:0<l.length:=by omega
        refine Z1 (Y2 (Y6 c226 (zno .i64 h230) (zno .i64 (Int.le_trans h230 h231)) h234 h235 h236) (Y4 h239 h241 h242 h243)) ?_;rcases t5 with _ |⟨q0,q1⟩
        ·try simp only[List.map_nil,accI,accN]
         exact⟨⟨((c,(l,t814)),0),H238⟩,ZR [(0,12)],Nat.lt_succ_self _⟩
        ·try simp only[List.map_cons,accI,accN]
         exact⟨⟨((c,(l,t814)),(g13+1)),H238⟩,ZR [(0,0)],Nat.lt_succ_self _⟩
       ·refine Z1 c226 ?_
        exact⟨⟨((c,(t5,t814)),g13),H227⟩,ZR [(0,0)],Nat.lt_succ_self _⟩
     ·refine Z1 c122 ?_
      obtain rfl:=Zi H123;exact⟨⟨⟨t5,rfl⟩,g⟩,ZR [(0,0)]⟩
  ·rintro⟨⟨t53,he246⟩,g15⟩
   obtain rfl:=he246.symm;try dsimp only at H4
   refine ZT 1 ?_;refine Z0 ?_;obtain rfl:=Zi H4;exact ZE0
def jU_ (n:Nat)(s:ByteArray):Nat->Int->Option ((Unit) ⊕ Bool)
 |0,_=>none
 |c+1,i=>
  (if (decide (i<(s.size:Int))) then
   (bidx s i).bind fun ch2=>
   (zo_ n ch2).bind fun t132=>
   (if t132 then
    jU_ n s c (IntKind.i64.wrap (i+1))
   else
    some (.inr false))
  else
   some (.inl ()))
def jO_ (n:Nat)(s:ByteArray):Option Bool:=
 (
  jU_ n s n 0:Option ((Unit) ⊕ Bool)).bind fun
  | .inl _=>
   (if (decide (1<=(s.size:Int))) then
    (if (decide ((s.size:Int)<=30)) then
     (bidx s 0).bind fun ch3=>
     (if (ch3 != 95) then
      some (!(s.toList==({ data:= #[116,121,112,101] }:ByteArray).toList))
     else
      some false)
    else
     some false)
   else
    some false)
  | .inr r=>some r
theorem uR_ {n:Nat}{s:ByteArray}{r:Bool}(H:jO_ n s=some r):PureOK Tryz.prog 85 [D.v (.string s)] (D.v (.bool r)) true:=by
 unfold jO_ at H;refine ZP qf_ fol (rs:= #[.tmp 2]) Tryz.func85 ?_;refine zsq (ZT 1 ?_);refine Z0 ?_;refine zsq (zsq ?_);refine ZT 1 ?_;refine Z0 ?_;obtain⟨e_,E1,H2⟩:=zbi H;refine zjn (α:={ y:Unit // e_= .inl y }) (fun |⟨_,_⟩=>⟨upd 0 (.v (.string s)) noFr,noHp,0⟩) ?_ ?_
 ·refine zbk ?_
  refine zlp (α:={ q:Nat × Int // jU_ n s q.1 q.2=some e_ }) (fun |⟨⟨c,i⟩,_⟩=>⟨upd 0 (.v (.string s)) (upd 3 (.v (.int .i64 i)) noFr),noHp,0⟩) (fun q=>q.1.1) ⟨(n,0),E1⟩ ?_ ?_
  ·exact ZR []
  ·rintro⟨⟨c,i⟩,L3⟩
   rcases c with _ |c
   ·exact Zx L3
   ·unfold jU_ at L3
    try dsimp only at L3
    refine ZT 1 ?_;refine Z0 ?_;rcases zit L3 with⟨c15,H16⟩ |⟨c15,H16⟩
    ·obtain⟨ch2,b17,H18⟩:=zbi H16
     obtain⟨h19,by_2,h20,h21⟩:=zbx b17;try simp only[Int.reduceToNat,Int.toNat_natCast] at h20
     obtain⟨t132,b22,H23⟩:=zbi H18;refine Z1 (Y4 c15 (zno .i64 h19) h20 h21.symm) ?_;refine ZC0 (vH_ b22) ?_;refine Z1 (Y4 c15 (zno .i64 h19) h20 h21.symm) ?_;rcases zit H23 with⟨c24,H25⟩ |⟨c24,H25⟩
     ·refine Z1 (Y5 c15 (zno .i64 h19) h20 h21.symm c24) ?_
      exact⟨⟨(c,(IntKind.i64.wrap (i+1))),H25⟩,ZR [],Nat.lt_succ_self _⟩
     ·refine Z1 (Y5 c15 (zno .i64 h19) h20 h21.symm c24) ?_
      obtain rfl:=Zi H25;obtain rfl:=Zi H2;exact ZE0
    ·refine Z1 c15 ?_
     obtain rfl:=Zi H16;exact⟨⟨(),rfl⟩,ZR []⟩
 ·rintro⟨_,he37⟩
  obtain rfl:=he37.symm;try dsimp only at H2
  refine ZT 1 ?_;refine Z0 ?_;rcases zit H2 with⟨c26,H27⟩ |⟨c26,H27⟩
  ·refine Z1 c26 ?_
   rcases zit H27 with⟨c28,H29⟩ |⟨c28,H29⟩
   ·obtain⟨ch3,b30,H31⟩:=zbi H29
    obtain⟨h32,by_3,h33,h34⟩:=zbx b30;try simp only[Int.reduceToNat] at h33
    refine Z1 (Y5 c26 c28 (zno .i64 h32) h33 h34.symm) ?_;rcases zit H31 with⟨c35,H36⟩ |⟨c35,H36⟩
    ·refine Z1 (Y6 c26 c28 (zno .i64 h32) h33 h34.symm c35) ?_
     obtain rfl:=Zi H36;exact ZE0
    ·refine Z1 (Y6 c26 c28 (zno .i64 h32) h33 h34.symm c35) ?_
     obtain rfl:=Zi H36;exact ZE0
   ·refine Z1 (Y2 c26 c28) ?_
    obtain rfl:=Zi H29;exact ZE0
  ·refine Z1 c26 ?_
   obtain rfl:=Zi H27;exact ZE0
def vr_ (n:Nat)(x:Rdr):Option (Rdr × ByteArray):=
 if x.e==0 then(match x.l[x.p]? with
  |some t=>if t.kind==1 then(jO_ n t.text).bind fun b=>if b then some ({ x with p:=x.p+1 },t.text) else some (j4_ x 9,{ data:= #[] }) else some (j4_ x 9,{ data:= #[] })
  |none=>some (j4_ x 9,{ data:= #[] })) else some (x,{ data:= #[] })
section
variable {x:Rdr}{bl:Bool}{ov:AV}{q nx:Nat}{hp:Hp}
set_option maxRecDepth 8000 in
theorem vI_ {n:Nat}{r:Rdr × ByteArray}(hq:hp q=some (boxRd x bl ov))(hl:x.l.length<4611686018427387903)(h:vr_ n x=some r):InlOK Tryz.prog 55 [.pt q 0] hp nx fun v hp2 nx2=>v= .v (.string r.2)/\hp2=upd q (some (boxRd r.1 bl ov)) hp/\nx<=nx2:=by
 refine qN_ qf_ fol Tryz.func55 (by rfl) (by kernel_rfl) (by kernel_rfl) (by exact Nat.le_of_ble_eq_true rfl) ?_;unfold vr_ at h;cases he:(x.e==0) with
 |false=>
  have he2:(x.e != 0)=true:=by rw[bne,he];rfl
  rw[he,if_neg (by decide)] at h;cases h;refine Z1 (And.intro hq he2) ?_;exact⟨_,_,rfl,⟨fun _=>.inr rfl⟩,rfl,(qQ_ hq).symm,by dsimp only;omega⟩
 |true=>
  have he2:(x.e != 0)=false:=by rw[bne,he];rfl
  rw[he,if_pos rfl] at h;by_cases hp1:x.p<x.l.length
  ·have c1:(decide ((x.p:Int)>=(x.l.length:Int)))=false:=decide_eq_false (by omega)
   have c2:(decide ((x.l.length:Int)<=(x.p:Int)))=false:=decide_eq_false (by omega);have e1:x.l[x.p]? =some x.l[x.p]:=List.getElem?_eq_getElem hp1;have e2:(x.l.map eGToken)[x.p]? =some [D.v (.int .i64 x.l[x.p].kind),D.v (.int .i64 x.l[x.p].at_),D.v (.string x.l[x.p].text)]:=qn_ eGToken e1
   have w:=And.intro hq (And.intro he2 (And.intro c1 (And.intro c2 (And.intro e2 (And.intro (zno .i64 (show(0:Int)<=(x.p:Int) by omega)) (show((x.p:Int)).toNat=x.p from Int.toNat_natCast _))))));rw[e1] at h;dsimp only at h;cases hk:(x.l[x.p].kind==1) with
   |true=>
    have hk2:(x.l[x.p].kind != 1)=false:=by rw[bne,hk];rfl
    rw[hk,if_pos rfl] at h;obtain⟨b,hb,h⟩:=zbi h;refine Z1 (And.intro hk2 w) ?_;refine ZD0 (uR_ hb) ?_;cases b with
    |true=>
     rw[if_pos rfl] at h;cases h;refine Z0 ?_;refine qj_ (by rfl) ?_;refine Z1 (And.intro (w64a (n:=x.p) (by omega)) (And.intro (w64s (n:=x.p) (by omega)) w)) ?_;refine qj_ (by rfl) ?_;refine Z0 ?_;exact⟨_,_,rfl,⟨fun _=>.inr rfl⟩,rfl,rfl,by dsimp only;omega⟩
    |false=>
     rw[if_neg (by decide)] at h;cases h;refine Z0 ?_;refine qj_ (by rfl) ?_;refine Z1 w ?_;refine qe_ ((zM_ hq (by omega)).mono ?_);rintro v hp3 nx3 ⟨rfl,rfl,hle3⟩;dsimp only at hle3;refine Z0 ?_;exact⟨_,_,rfl,⟨fun _=>.inr rfl⟩,rfl,rfl,by dsimp only;omega⟩
   |false=>
    have hk2:(x.l[x.p].kind != 1)=true:=by rw[bne,hk];rfl
    rw[hk,if_neg (by decide)] at h;cases h;refine Z1 (And.intro hk2 w) ?_;refine qj_ (by rfl) ?_;refine Z1 w ?_;refine qe_ ((zM_ hq (by omega)).mono ?_);rintro v hp3 nx3 ⟨rfl,rfl,hle3⟩;dsimp only at hle3;refine Z0 ?_;exact⟨_,_,rfl,⟨fun _=>.inr rfl⟩,rfl,rfl,by dsimp only;omega⟩
  ·have c1:(decide ((x.p:Int)>=(x.l.length:Int)))=true:=decide_eq_true (by omega)
   have c2:(decide ((x.l.length:Int)<=(x.p:Int)))=true:=decide_eq_true (by omega);rw[List.getElem?_eq_none (by omega)] at h;cases h;have w:=And.intro hq (And.intro he2 (And.intro c1 c2));refine Z1 w ?_;refine qj_ (by rfl) ?_;refine Z1 w ?_;refine qe_ ((zM_ hq (by omega)).mono ?_);rintro v hp3 nx3 ⟨rfl,rfl,hle3⟩;dsimp only at hle3;refine Z0 ?_
   exact⟨_,_,rfl,⟨fun _=>.inr rfl⟩,rfl,rfl,by dsimp only;omega⟩
end
structure RdI (hp:Hp) (q:Nat) (x:Rdr) (bl:Bool) (oid ver:Nat):Prop where
 box:hp q=some (boxRd x bl (accV oid ver (x.out.map eGStep)))
 row:x.out≠[]->hp oid=some (.rw (x.out.map eGStep) 3 ver false false)/\oid≠q
def putM (x:Rdr)(s:GStep)(at_:Int):Rdr:=
 if x.e==0 then(if x.out.length=200 then{ x with e:=8,bad:=at_ } else{ x with out:=x.out++[s] }) else x
def RdP (hp:Hp)(nx q oid:Nat)(x0 x:Rdr)(bl:Bool)(hp2:Hp)(nx2:Nat):Prop:=
 ∃oid2 ver2,RdI hp2 q x bl oid2 ver2/\(∀j,j<nx->j≠q->(x0.out≠[]->j≠oid)->hp2 j=hp j)/\(∀j,nx2<=j->hp2 j=none)/\nx<=nx2/\oid2<nx2/\(x.out≠[]->(x0.out≠[]/\oid2=oid)\/nx<=oid2)
set_option maxRecDepth 8000 in
theorem wj_ {x:Rdr}{bl:Bool}{q nx oid ver:Nat}{hp:Hp}{s:GStep}{a:Int}{vs:AV}(hf:∀j,nx<=j->hp j=none)(hI:RdI hp q x bl oid ver)(ho:oid<nx)(hvs:qP_ vs=some [.v (.int .i64 s.kind),.v (.string s.a),.v (.string s.b)])(hol:x.out.length<=200):
  InlOK Tryz.prog 112 [.pt q 0,vs,.v (.int .i64 a)] hp nx fun v hp2 nx2=>v= .tu []/\RdP hp nx q oid x (putM x s a) bl hp2 nx2:=by
 refine qN_ qf_ fol Tryz.func112 (by rfl) (by kernel_rfl) (by kernel_rfl) (by exact Nat.le_of_ble_eq_true rfl) ?_;have hq:=hI.box;have hqn:q<nx:=qm_ hf hq;unfold putM;cases he:(x.e==0) with
 |false=>
  rw[if_neg (by decide)];refine Z1 (And.intro hvs (And.intro (jQ_ hf hq) (And.intro hq he))) ?_;refine⟨_,hp,rfl,bk_ hf,rfl,oid,ver,hI,fun _ _ _ _=>rfl,fun j hj=>hf j (by dsimp only at hj;omega),by dsimp only;omega,by dsimp only;omega,fun h=>.inl ⟨h,rfl⟩⟩
 |true=>
  rw[if_pos rfl];cases ho2:x.out with
  |nil=>
   rw[if_neg (by decide)];rw[ho2] at hq;have hrow:hp oid=hp oid:=rfl;have hqA:q≠nx+1+13+5+7:=by omega
   have hnA:nx≠nx+1+13+5+7:=by omega
   have hBA:nx+1+13+5+6≠nx+1+13+5+7:=by omega
   refine Z1 (And.intro (hvs) (And.intro (jQ_ hf hq) (And.intro (hq) (And.intro (he) (And.intro (show(q=nx+1+13+5+7)=False from eq_false hqA) (And.intro (show(q=nx+1+13+5+6)=False from eq_false (by omega)) (And.intro (show(nx=nx+1+13+5+6)=False from eq_false (by omega)) (And.intro (show(nx=nx+1+13+5+7)=False from eq_false hnA) (And.intro (show(nx+1+13+5+7=nx+1+13+5+6)=False from eq_false (Ne.symm hBA)) (And.intro (show(nx+1+13+5+7=q)=False from eq_false (Ne.symm hqA)) (trivial))))))))))) ?_
   have g1:nw4 q (nx+1+13+5+7) nx (nx+1+13+5+6) q=1:=by simp[nw4]
   have g2:nw4 q (nx+1+13+5+7) nx (nx+1+13+5+6) (nx+1+13+5+7)=2:=by simp[nw4,Ne.symm hqA]
   have g3:nw4 q (nx+1+13+5+7) nx (nx+1+13+5+6) nx=3:=by unfold nw4;rw[if_neg (by omega),if_neg hnA,if_pos rfl]
   have g4:nw4 q (nx+1+13+5+7) nx (nx+1+13+5+6) (nx+1+13+5+6)=4:=by unfold nw4;rw[if_neg (by omega),if_neg hBA,if_neg (by omega),if_pos rfl]
   refine x2_ (nw4 q (nx+1+13+5+7) nx (nx+1+13+5+6)) _ rfl (by simp only[List.reverse_cons,List.reverse_nil,List.nil_append,List.cons_append,List.map_cons,List.map_nil,vL_,g1,g2,g3,g4];rfl) (by rfl) ?_;refine Z0 ?_
   refine⟨_,_,rfl,⟨fun _=>.inr rfl⟩,rfl,nx+1+13+5+7,0,⟨qd_ _ _ _,fun _=>⟨by dsimp only;rw[qb_ _ _ (by omega),qd_];rfl,by omega⟩⟩,fun j h1 h2 _=>by dsimp only;rw[qb_ _ _ h2,qb_ _ _ (by omega),qb_ _ _ (by omega),qb_ _ _ (by omega)],fun j hj=>by dsimp only at hj⊢;rw[qb_ _ _ (by omega),qb_ _ _ (by omega),qb_ _ _ (by omega),qb_ _ _ (by omega)];exact hf j (by omega),by dsimp only;omega,by dsimp only;omega,fun _=>.inr (by omega)⟩
  |cons y r=>
   rw[ho2] at hq;have hrw:=(hI.row (by rw[ho2];simp)).1;rw[ho2] at hrw;have hol2:r.length+1<=200:=by rw[ho2] at hol;exact hol
   by_cases h200:(y::r).length=200
   ·rw[if_pos h200]
    have c200:(((r.length+1:Nat):Int)==200)=true:=by simp at h200⊢;omega
    refine Z1 (And.intro hvs (And.intro (jQ_ hf hq) (And.intro hq (And.intro he c200)))) ?_;have hrw2:=hI.row (by rw[ho2];simp);rw[ho2] at hrw2
    refine⟨_,_,rfl,⟨fun _=>.inr rfl⟩,rfl,oid,ver,⟨by dsimp only;rw[qd_];simp[accV],fun _=>⟨by dsimp only;rw[qb_ _ _ hrw2.2,qb_ _ _ hrw2.2,qb_ _ _ (by omega)];exact hrw2.1,hrw2.2⟩⟩,fun j h1 h2 _=>by dsimp only;rw[qb_ _ _ h2,qb_ _ _ h2,qb_ _ _ (by omega)],fun j hj=>by dsimp only at hj⊢;rw[qb_ _ _ (by omega),qb_ _ _ (by omega),qb_ _ _ (by omega)];exact hf j (by omega),by dsimp only;omega,by dsimp only;omega,fun _=>.inl ⟨by rw[ho2];simp,rfl⟩⟩
   ·rw[if_neg h200]
    have c200:(((r.length+1:Nat):Int)==200)=false:=by simp at h200⊢;omega
    have hqA:q≠oid:=fun e=>hI.row (by rw[ho2];simp)|>.2 e.symm;have hnA:nx≠oid:=by omega
    have hBA:nx+1+13+5+6≠oid:=by omega
    refine Z1 (And.intro (hvs) (And.intro (jQ_ hf hq) (And.intro (hq) (And.intro (he) (And.intro (show(q=oid)=False from eq_false hqA) (And.intro (show(q=nx+1+13+5+6)=False from eq_false (by omega)) (And.intro (show(nx=nx+1+13+5+6)=False from eq_false (by omega)) (And.intro (show(nx=oid)=False from eq_false hnA) (And.intro (show(oid=nx+1+13+5+6)=False from eq_false (Ne.symm hBA)) (And.intro (show(oid=q)=False from eq_false (Ne.symm hqA)) (And.intro (jQ_ hf hrw) (And.intro (hrw) (And.intro (c200) (And.intro (show(r.length+1+1<=4294967296)=True from eq_true (by omega)) (show(oid=nx)=False from eq_false (Ne.symm hnA)))))))))))))))) ?_
    have g1:nw4 q (oid) nx (nx+1+13+5+6) q=1:=by simp[nw4]
    have g2:nw4 q (oid) nx (nx+1+13+5+6) (oid)=2:=by simp[nw4,Ne.symm hqA]
    have g3:nw4 q (oid) nx (nx+1+13+5+6) nx=3:=by unfold nw4;rw[if_neg (by omega),if_neg hnA,if_pos rfl]
    have g4:nw4 q (oid) nx (nx+1+13+5+6) (nx+1+13+5+6)=4:=by unfold nw4;rw[if_neg (by omega),if_neg hBA,if_neg (by omega),if_pos rfl]
    refine x2_ (nw4 q (oid) nx (nx+1+13+5+6)) _ rfl (by simp only[List.reverse_cons,List.reverse_nil,List.nil_append,List.cons_append,List.map_cons,List.map_nil,vL_,g1,g2,g3,g4];rfl) (by rfl) ?_;refine Z0 ?_
    refine⟨_,_,rfl,⟨fun _=>.inr rfl⟩,rfl,oid,ver+1,⟨by dsimp only;rw[qd_];simp[accV],fun _=>⟨by dsimp only;rw[qb_ _ _ (Ne.symm hqA),qd_];simp,Ne.symm hqA⟩⟩,fun j h1 h2 h3=>by dsimp only;rw[qb_ _ _ h2,qb_ _ _ (h3 (by rw[ho2];simp)),qb_ _ _ (by omega),qb_ _ _ (by omega)],fun j hj=>by dsimp only at hj⊢;rw[qb_ _ _ (by omega),qb_ _ _ (by omega),qb_ _ _ (by omega),qb_ _ _ (by omega)];exact hf j (by omega),by dsimp only;omega,by dsimp only;omega,fun _=>.inl ⟨by rw[ho2];simp,rfl⟩⟩
def swpR {α:Type}(a b:Nat):Nat->List α->Nat->Option (List α)
 |0,xs,_=>some xs
 |k+1,xs,i=>(xs[b+i]?).bind fun x=>(xs[a+i]?).bind fun y=>swpR a b k ((xs.set (a+i) x).set (b+i) y) (i+1)
def rotM {α:Type}(m:Nat):Nat->List α->Nat->Nat->Option (List α)
 |0,_,_,_=>none
 |f+1,xs,i,j=>if i<=m then(if i=j then swpR (m-i) m i xs 0 else if j<i then(swpR (m-i) m j xs 0).bind fun ys=>rotM m f ys (i-j) j else(swpR (m-i) (m+j-i) i xs 0).bind fun ys=>rotM m f ys i (j-i)) else none
theorem v5_ {α:Type}{a b:Nat}:∀ {k i:Nat} {xs ys:List α},swpR a b k xs i=some ys->ys.length=xs.length
 |0,_,_,_,h=>by cases h;rfl
 |k+1,i,xs,ys,h=>by
  unfold swpR at h;obtain⟨x,_,h⟩:=zbi h;obtain⟨y,_,h⟩:=zbi h;rw[v5_ h];simp
theorem bq_ {α:Type}{xs:List α}{i j:Nat}{x y z:α}(h1:xs[j]? =some x)(h2:xs[i]? =some y)(h:z∈(xs.set i x).set j y):z∈xs:=by
 rcases List.mem_or_eq_of_mem_set h with h |h
 ·rcases List.mem_or_eq_of_mem_set h with h |h
  ·exact h
  ·rw[h]
   exact List.mem_of_getElem? h1
 ·rw[h]
  exact List.mem_of_getElem? h2
theorem yk_ {α:Type}{a b:Nat}{z:α}:∀ {k i:Nat} {xs ys:List α},swpR a b k xs i=some ys->z∈ys->z∈xs
 |0,_,_,_,h=>by cases h;exact id
 |k+1,i,xs,ys,h=>by
  unfold swpR at h;obtain⟨x,h1,h⟩:=zbi h;obtain⟨y,h2,h⟩:=zbi h;exact fun hz=>bq_ h1 h2 (yk_ h hz)
theorem yl_ {α:Type}{m:Nat}:∀ {f i j:Nat} {xs ys:List α},rotM m f xs i j=some ys->ys.length=xs.length
 |0,_,_,_,_,h=>by cases h
 |f+1,i,j,xs,ys,h=>by
  unfold rotM at h;split at h
  ·split at h
   ·exact v5_ h
   ·split at h
    ·obtain⟨zs,h1,h⟩:=zbi h
     rw[yl_ h,v5_ h1]
    ·obtain⟨zs,h1,h⟩:=zbi h
     rw[yl_ h,v5_ h1]
  ·cases h
theorem ym_ {α:Type}{m:Nat}{z:α}:∀ {f i j:Nat} {xs ys:List α},rotM m f xs i j=some ys->z∈ys->z∈xs
 |0,_,_,_,_,h=>by cases h
 |f+1,i,j,xs,ys,h=>by
  unfold rotM at h;split at h
  ·split at h
   ·exact yk_ h
   ·split at h
    ·obtain⟨zs,h1,h⟩:=zbi h
     exact fun hz=>yk_ h1 (ym_ h hz)
    ·obtain⟨zs,h1,h⟩:=zbi h
     exact fun hz=>yk_ h1 (ym_ h hz)
  ·cases h
theorem w64p {a b:Nat}(h:a+b<4611686018427387904):IntKind.i64.wrap ((a:Int)+(b:Int))=((a+b:Nat):Int):=by
 rw[show(a:Int)+(b:Int)=((a+b:Nat):Int) by omega];exact w64 h
theorem w64m {a b:Nat}(hb:b<=a)(h:a<4611686018427387904):IntKind.i64.wrap ((a:Int)-(b:Int))=((a-b:Nat):Int):=by
 rw[show(a:Int)-(b:Int)=((a-b:Nat):Int) by omega];exact w64 (by omega)
section
variable {i ver L:Nat}{br:Bool}
set_option maxRecDepth 4000 in
theorem pV_ {xs R:List GRef}{a b n nx:Nat}{cmp:AV}{hp:Hp}(hx:hp i=rowA xs ver br)(hL:xs.length=L)(hL2:L<4294967296)(hR:swpR a b n xs 0=some R):
  InlOK Tryz.prog 186 [.so i ver 0 L,.v (.int .i64 (a:Int)),.v (.int .i64 (b:Int)),.v (.int .i64 (n:Int)),cmp] hp nx fun v hp2 nx2=>v= .tu []/\hp2=upd i (rowA R ver br) hp/\nx<=nx2:=by
 refine qX_ qf_ Tryz.func186 (by rfl) (by kernel_rfl) (by kernel_rfl) (by exact Nat.le_of_ble_eq_true rfl) ?_;refine zsq (ZT 1 ?_);refine Z0 ?_;refine zbk ?_;refine zlp (α:={ x:Nat × List GRef × Nat // x.1<=n/\x.1<=L/\nx<=x.2.2/\x.2.1.length=L/\swpR a b (n-x.1) x.2.1 x.1=some R })
  (fun x=>⟨upd 0 (.so i ver 0 L) (upd 1 (.v (.int .i64 (a:Int))) (upd 2 (.v (.int .i64 (b:Int))) (upd 3 (.v (.int .i64 (n:Int))) (upd 10 (.v (.int .i64 (x.1.1:Int))) noFr)))),upd i (rowA x.1.2.1 ver br) hp,x.1.2.2⟩) (fun x=>n-x.1.1) ⟨(0,xs,nx+1),Nat.zero_le _,Nat.zero_le _,by show nx<=nx+1;omega,hL,hR⟩ ?_ ?_
 ·rw[qQ_ hx]
  exact wkI (qa_ rfl (qa_ rfl (qa_ rfl (qa_ rfl (qa_ rfl (qh_ _))))))
 ·rintro⟨⟨k,ys,nx1⟩,h1,h0,h2,h3,h4⟩
  dsimp only at h0 h1 h2 h3 h4;refine zsq (zsq ?_);refine ZT 1 ?_;by_cases hk:k<n
  ·obtain⟨q,hq⟩:∃q,n-k=q+1:=⟨n-k-1,by omega⟩
   rw[hq] at h4;unfold swpR at h4;obtain⟨x,e1,h4⟩:=zbi h4;obtain⟨y,e2,h4⟩:=zbi h4;have l1:=(List.getElem?_eq_some_iff.1 e1).1;have l2:=(List.getElem?_eq_some_iff.1 e2).1;have c1:(decide ((k:Int)<(n:Int)))=true:=decide_eq_true (by omega);refine Z1 c1 ?_;refine ZT 1 ?_;refine Z0 ?_;refine zsq (zbk ?_);refine ZT 1 ?_
   obtain⟨z,ez⟩:∃z:GRef,((ys.map eGRef).set (a+k) (eGRef x))[b+k]? =some (eGRef z):=by
    rw[<-List.map_set,List.getElem?_map];cases h:(ys.set (a+k) x)[b+k]? with
    |none=>
     rw[List.getElem?_eq_none_iff,List.length_set] at h;omega
    |some z=>exact⟨z,rfl⟩
   refine Z1 (And.intro (w64p (a:=a) (b:=k) (by omega)) (And.intro (w64p (a:=b) (b:=k) (by omega)) (And.intro (qn_ eGRef e1) (And.intro (qn_ eGRef e2) (And.intro ez (And.intro (show(a+k<L)=True from eq_true (by omega)) (show(b+k<L)=True from eq_true (by omega)))))))) ?_;refine qj_ (by rfl) ?_;refine Z0 ?_;refine ZT 1 ?_;refine Z1 (w64a (show k+1<_ by omega)) ?_
   refine⟨⟨(k+1,(ys.set (a+k) x).set (b+k) y,_),by show k+1<=n;omega,by show k+1<=L;omega,?_,by simpa using h3,by rw[show n-(k+1)=q by omega];exact h4⟩,wkH ?_ (qa_ rfl (qa_ rfl (qa_ rfl (qa_ rfl (qa_ rfl (qh_ _)))))),by show n-(k+1)<n-k;omega⟩
   ·show nx<=nx1+3+24+3
    omega
   ·rw[qI_,qI_]
    show upd i (some (.rw (((ys.set (a+k) x).set (b+k) y).map eGRef) 3 ver br false)) hp=_;rw[List.map_set,List.map_set]
  ·have c1:(decide ((k:Int)<(n:Int)))=false:=decide_eq_false (by omega)
   rw[show n-k=0 by omega] at h4;cases h4;refine Z1 c1 ?_;refine ZT 1 ?_;refine Z0 ?_;exact⟨_,_,rfl,⟨fun _=>.inr rfl⟩,rfl,rfl,by show nx<=nx1+3;omega⟩
set_option maxRecDepth 4000 in
theorem rot_ok {xs R:List GRef}{a m b f nx:Nat}{cmp:AV}{hp:Hp}(hx:hp i=rowA xs ver br)(hL:xs.length=L)(hL2:L<4294967296)(ham:a<=m)(hmb:m<=b)(hb:b<=L)(hR:rotM m f xs (m-a) (b-m)=some R):
  InlOK Tryz.prog 176 [.so i ver 0 L,.v (.int .i64 (a:Int)),.v (.int .i64 (m:Int)),.v (.int .i64 (b:Int)),cmp] hp nx fun v hp2 nx2=>v= .tu []/\hp2=upd i (rowA R ver br) hp/\nx<=nx2:=by
 refine qX_ qf_ Tryz.func176 (by rfl) (by kernel_rfl) (by kernel_rfl) (by exact Nat.le_of_ble_eq_true rfl) ?_;refine zsq (ZT 1 ?_);refine Z1 (w64m ham (by omega)) ?_;refine zsq (ZT 1 ?_);refine Z1 (w64m hmb (by omega)) ?_;refine zsq (zbk ?_)
 refine zlp (α:={ x:Nat × Nat × List GRef × Nat × Nat // nx<=x.2.2.2.1/\x.2.2.1.length=L/\x.1<=L/\x.2.1<=L/\rotM m x.2.2.2.2 x.2.2.1 x.1 x.2.1=some R })
  (fun x=>⟨upd 0 (.so i ver 0 L) (upd 2 (.v (.int .i64 (m:Int))) (upd 4 cmp (upd 10 (.v (.int .i64 (x.1.1:Int))) (upd 11 (.v (.int .i64 (x.1.2.1:Int))) noFr)))),upd i (rowA x.1.2.2.1 ver br) hp,x.1.2.2.2.1⟩) (fun x=>x.1.2.2.2.2) ⟨(m-a,b-m,xs,nx+4+4,f),by show nx<=nx+4+4;omega,hL,by show m-a<=L;omega,by show b-m<=L;omega,hR⟩ ?_ ?_
 ·rw[qQ_ hx]
  exact wkI (qa_ rfl (qa_ rfl (qa_ rfl (qa_ rfl (qa_ rfl (qh_ _))))))
 ·rintro⟨⟨u,v,ys,nx1,f⟩,h1,h2,h3,h4,h5⟩
  dsimp only at h1 h2 h3 h4 h5;obtain⟨f,rfl⟩:∃f',f=f'+1:=by
   cases f with
   |zero=>cases h5
   |succ f=>exact⟨f,rfl⟩
  unfold rotM at h5;split at h5;rotate_left
  ·cases h5
  rename_i hum;refine zsq (zsq ?_);refine ZT 1 ?_;by_cases huv:u=v
  ·rw[if_pos huv] at h5
   have h6:=h5;subst huv;have c1:((u:Int) != (u:Int))=false:=by simp
   refine Z1 c1 ?_;refine ZT 1 ?_;refine Z0 ?_;refine ZT 1 ?_;refine Z1 (w64m hum (by omega)) ?_;refine qe_ (InlOK.mono (pV_ (qd_ ..) h2 hL2 h6) fun v hp2 nx2 h=> ?_);obtain⟨rfl,rfl,h⟩:=h;have h:nx1+3+8<=nx2:=h;refine Z0 ?_;exact⟨_,_,rfl,⟨fun _=>.inr rfl⟩,rfl,qI_ _ _ _ _,by show nx<=nx2;omega⟩
  ·rw[if_neg huv] at h5
   have c1:((u:Int) != (v:Int))=true:=by simp;omega
   refine Z1 c1 ?_;refine ZT 1 ?_;refine Z0 ?_;refine zbk ?_;refine zsq (ZT 1 ?_);by_cases hvu:v<u
   ·rw[if_pos hvu] at h5
    obtain⟨zs,h5,h6⟩:=zbi h5;have c2:(decide ((u:Int) > (v:Int)))=true:=decide_eq_true (by omega);have c3:(decide ((v:Int)<(u:Int)))=true:=decide_eq_true (by omega);refine Z1 (And.intro c2 c3) ?_;refine ZT 1 ?_;refine Z1 (w64m hum (by omega)) ?_;refine qe_ (InlOK.mono (pV_ (qd_ ..) h2 hL2 h5) fun v' hp2 nx2 h=> ?_);obtain⟨rfl,rfl,h⟩:=h
    have h:nx1+3+3+8<=nx2:=h;refine Z1 (w64m (a:=u) (b:=v) (by omega) (by omega)) ?_;refine⟨⟨(u-v,v,zs,_,f),?_,(v5_ h5).trans h2,by show u-v<=L;omega,h4,h6⟩,wkH ?_ (qa_ rfl (qa_ rfl (qa_ rfl (qa_ rfl (qa_ rfl (qh_ _)))))),Nat.lt_succ_self f⟩
    ·show nx<=nx2+4
     omega
    ·exact(qI_ _ _ _ _).symm
   ·rw[if_neg hvu] at h5
    obtain⟨zs,h5,h6⟩:=zbi h5;have c2:(decide ((u:Int) > (v:Int)))=false:=decide_eq_false (by omega);have c3:(decide ((v:Int)<(u:Int)))=false:=decide_eq_false (by omega);refine Z1 (And.intro c2 c3) ?_;refine ZT 1 ?_;refine Z1 (And.intro (w64m hum (by omega)) (And.intro (w64p (a:=m) (b:=v) (by omega)) (w64m (a:=m+v) (b:=u) (by omega) (by omega)))) ?_
    refine qe_ (InlOK.mono (pV_ (qd_ ..) h2 hL2 h5) fun v' hp2 nx2 h=> ?_);obtain⟨rfl,rfl,h⟩:=h;have h:nx1+3+3+12<=nx2:=h;refine Z1 (w64m (a:=v) (b:=u) (by omega) (by omega)) ?_;refine⟨⟨(u,v-u,zs,_,f),?_,(v5_ h5).trans h2,h3,by show v-u<=L;omega,h6⟩,wkH ?_ (qa_ rfl (qa_ rfl (qa_ rfl (qa_ rfl (qa_ rfl (qh_ _)))))),Nat.lt_succ_self f⟩
    ·show nx<=nx2+4
     omega
    ·exact(qI_ _ _ _ _).symm
end
end Go.Proofs.YtnmkbmefohakmaaGreat.Ab
