/-
 Regions drawn in any order, told with other numbers, where a call that changes things stands among them.
-/
import Derived.Test.YtnmkbmefohakmaaGreatWlc
set_option linter.all false
namespace Go.Proofs.YtnmkbmefohakmaaGreat.Ab
open Go.RowKit IntKind
def Tw (n:Nat)(s:AD)(x:AX)(b:AZ × Bool):Nat->Int->Option ((Unit) ⊕ Int)
 |0,_=>none
 |c+1,d=>(if decide (d<(b.1.subs.length:Int)) then (idx b.1.subs d).bind fun e=>(Gs n s e.type_ x.b).bind fun g=>(if g.2 then (if (e.rel.toList==({ data:= #[] }:ByteArray).toList) then Tw n s x b c (i64.wrap (d+1)) else some (.inr 13)) else some (.inr 13)) else some (.inl ()))
def Tx (n:Nat)(s:AD)(typ:ByteArray)(x:AX):Option Int:=(Gs n s typ x.a).bind fun b=>(if b.2 then (if ((b.1.subs.length:Int)==0) then some 13 else (Tw n s x b n 0:Option ((Unit) ⊕ Int)).bind fun
    | .inl _=>some 0
    | .inr r=>some r) else some 12)
variable {a:C7}{f:Nat->Nat}{hp:Hp}{n:Nat}{x:Au}
theorem zd {s:AD}{typ:ByteArray}{x:AX}{r:Int}(H:Tx n s typ x=some r):AM Tryz.prog 113 [D.pt (Av s) 0,D.v (.string typ),D.ag (AY x)] (D.v (.int .i64 r)) true:=by
 unfold Tx at H;refine zP #[.tmp 6] Tryz.func113 ?_;refine Ax ?_;refine AU (ZT 1 ?_);obtain⟨z,p,q⟩:=AP H;refine Z0 ?_;refine CT (Kf p) ?_;refine DQ ?_;refine Z0 ?_;obtain⟨b,g⟩ |⟨b,g⟩:=Ah q;rotate_left
 ·refine Z1 b ?_;cases g;exact As
 refine Gt b ?_;obtain⟨i,j⟩ |⟨i,j⟩:=Ah g
 ·refine Z1 (Y2 b i) ?_;cases j;exact As
 have t:=Y2 b i;refine HK t ?_;refine zi j (fun _ _ _=>⟨AJ,AK,0⟩) (fun A u d=> ?_) fun _ d=> ?_
 ·refine D9 u (fun f h o=>⟨kp [5,28,29] f (upd 0 (.d (.pt [.mp (A7 Value.string false eI s.types),.mp (A7 qa_ true Al s.rels),.mp (A7 qa_ false eI s.ranks)] 0) true) (upd 30 (.v (.int .i64 o)) AJ)),kh [0] h AK,1⟩) (ZR [(0,0)]) fun c o v=> ?_
  refine AQ ?_;obtain⟨k,H25⟩ |⟨k,H25⟩:=Ah v
  ·obtain⟨B,C,E,w,H27⟩:=zI AR H25;obtain⟨F,y,H33⟩:=AP H27;have l:=Y2 k w;refine Z1 l ?_;refine CT (Kf y) ?_;refine Z1 l ?_;obtain⟨e,H35⟩ |⟨e,H35⟩:=Cb l H33
   ·refine Z1 e ?_;obtain⟨m,H37⟩ |⟨m,H37⟩:=Cb e H35
    ·refine Z1 m ?_;exact⟨_,H37,ZR [(0,0)]⟩
    refine Z1 m ?_;cases H37;cases d;exact As
   refine Z1 e ?_;cases H35;cases d;exact As
  refine Z1 k ?_;cases H25;exact⟨_,rfl,ZR []⟩
 refine AQ ?_;cases d;exact As
def qU_ (n:Nat)(b:AD)(d:AZ):Nat->Int->Option ((Unit) ⊕ Int)
 |0,_=>none
 |c+1,e=>(if decide (e<(d.subs.length:Int)) then (idx d.subs e).bind fun g=>(Gs n b g.type_ g.rel).bind fun h=>(if ((qf_ g.type_ 0 b.types)==0) then some (.inr 12) else (if (g.rel.toList==({ data:= #[] }:ByteArray).toList) then qU_ n b d c (i64.wrap (e+1)) else (if h.2 then qU_ n b d c (i64.wrap (e+1)) else some (.inr 12)))) else some (.inl ()))
def Wq (n:Nat)(b:AD)(_:AZ)(c:Unit)(x2:AL)(k:Unit->Option ((Unit) ⊕ Int)):Option ((Unit) ⊕ Int):=
 match c with
 |_=>
  (Gs n b x2.type_ x2.rel).bind fun d=>
  (if ((qf_ x2.type_ 0 b.types)==0) then
   some (.inr 12)
  else
   (if (x2.rel.toList==({ data:= #[] }:ByteArray).toList) then
    k ()
   else
    (if d.2 then
     k ()
    else
     some (.inr 12))))
def Zc (_:Nat)(_:AD)(_:AZ)(b:Unit):Option ((Unit) ⊕ Int):=
 match b with
 |_=>some (.inl ())
theorem zg (n:Nat)(e:AD)(b:AZ)(h:b.subs.length<4611686018427387904)(c:Nat)(g:Unit)(d:Nat)(i:d<=b.subs.length)(j:b.subs.length-d<c):qU_ n e b c (match g,(d:Int) with |_,d=>d)=DP (Wq n e b) (Zc n e b) (b.subs.drop d) g:=
 Gl (fun c g d=>qU_ n e b c (match g,d with |_,d=>d)) b.subs (Wq n e b) (Zc n e b) (fun _ _ _=>rfl) h c g d i j
def qJ_ (n:Nat)(b:AD)(d:ByteArray)(e:AZ):Nat->Int->Option ((Unit) ⊕ Int)
 |0,_=>none
 |c+1,g=>(if decide (g<(e.expr.length:Int)) then (idx e.expr g).bind fun h=>(if (h.kind==2) then (Tx n b d h).bind fun i=>(if (i != 0) then some (.inr i) else qJ_ n b d e c (i64.wrap (g+1))) else (Gs n b d h.a).bind fun j=>(if j.2 then qJ_ n b d e c (i64.wrap (g+1)) else (if (h.kind==1) then some (.inr 12) else qJ_ n b d e c (i64.wrap (g+1))))) else some (.inl ()))
def Wr (n:Nat)(c:AD)(d:ByteArray)(_:AZ)(g:Unit)(b:AX)(k:Unit->Option ((Unit) ⊕ Int)):Option ((Unit) ⊕ Int):=
 match g with
 |_=>
  (if (b.kind==2) then
   (Tx n c d b).bind fun e=>
   (if (e != 0) then
    some (.inr e)
   else
    k ())
  else
   (Gs n c d b.a).bind fun h=>
   (if h.2 then
    k ()
   else
    (if (b.kind==1) then
     some (.inr 12)
    else
     k ())))
def Zd (_:Nat)(_:AD)(_:ByteArray)(_:AZ)(b:Unit):Option ((Unit) ⊕ Int):=
 match b with
 |_=>some (.inl ())
theorem zh (n:Nat)(e:AD)(g:ByteArray)(b:AZ)(i:b.expr.length<4611686018427387904)(c:Nat)(h:Unit)(d:Nat)(j:d<=b.expr.length)(k:b.expr.length-d<c):qJ_ n e g b c (match h,(d:Int) with |_,d=>d)=DP (Wr n e g b) (Zd n e g b) (b.expr.drop d) h:=
 Gl (fun c h d=>qJ_ n e g b c (match h,d with |_,d=>d)) b.expr (Wr n e g b) (Zd n e g b) (fun _ _ _=>rfl) i c h d j k
def Wt (n:Nat)(b:AD)(d:ByteArray)(c:AZ):Option Int:=
 (
  qU_ n b c n 0:Option ((Unit) ⊕ Int)).bind fun
  | .inl _=>
   (
    qJ_ n b d c n 0:Option ((Unit) ⊕ Int)).bind fun
    | .inl _=>
     some 0
    | .inr r=>some r
  | .inr r=>some r
theorem zk {d:AD}{t:ByteArray}{u:AZ}{r:Int}(H:Wt n d t u=some r):AM Tryz.prog 89 [D.pt (Av d) 0,D.v (.string t),D.ag (Al u)] (D.v (.int .i64 r)) true:=by
 unfold Wt at H;refine zP #[.tmp 6] Tryz.func89 ?_;refine JA ?_;refine zi H (fun f h _=>⟨kp [1,5] f (upd 0 (.d (.pt [.mp (A7 Value.string false eI d.types),.mp (A7 qa_ true Al d.rels),.mp (A7 qa_ false eI d.ranks)] 0) true) AJ),kh [0] h AK,1⟩) (fun L B g=> ?_) fun _ g=> ?_
 ·refine D9 B (fun f h v=>⟨kp [1,5,17,18] f (upd 0 (.d (.pt [.mp (A7 Value.string false eI d.types),.mp (A7 qa_ true Al d.rels),.mp (A7 qa_ false eI d.ranks)] 0) true) (upd 19 (.v (.int .i64 v)) AJ)),kh [0] h AK,1⟩) (ZR [(0,0)]) fun c v C=> ?_
  refine AQ ?_;obtain⟨l,H22⟩ |⟨l,H22⟩:=Ah C;rotate_left
  ·refine Z1 l ?_;cases H22;exact⟨_,rfl,ZR [(0,0)]⟩
  obtain⟨m,M,N,E,H24⟩:=zI AR H22;obtain⟨O,F,H30⟩:=AP H24;have w:=Y2 l E;refine Z1 w ?_;refine CT (Kf F) ?_;have G:EV (false,[.string]) (.string m.type_) (.v (.int .i64 0)) false (Eo true (A7 Value.string false eI d.types))=some (.v (.int .i64 (qf_ m.type_ 0 d.types)),[]):=HZ (b:=true) (ag:=false) (enc:=eI) K6 m.type_ (0:Int) false d.types;have y:=Y2 w G;refine Z1 y ?_;obtain⟨i,H33⟩ |⟨i,H33⟩:=Cb y H30
  ·refine Dj i ?_;cases H33;cases g;exact As
  refine Z1 i ?_;obtain⟨j,H35⟩ |⟨j,H35⟩:=Cb i H33
  ·refine Dj j ?_;exact⟨_,H35,ZR [(0,0)]⟩
  refine Dj j ?_;obtain⟨o,H37⟩ |⟨o,H37⟩:=Cb j H35
  ·refine Z1 o ?_;exact⟨_,H37,ZR [(0,0)]⟩
  refine Z1 o ?_;cases H37;cases g;exact As
 refine Dy ?_;refine zi g (fun _ _ _=>⟨AJ,AK,0⟩) (fun P E38 H39=> ?_) fun _ H39=> ?_;rotate_left
 ·refine AQ ?_;cases H39;exact As
 refine D9 E38 (fun f _ z=>⟨kp [1,51,52] f (upd 0 (.d (.pt [.mp (A7 Value.string false eI d.types),.mp (A7 qa_ true Al d.rels),.mp (A7 qa_ false eI d.ranks)] 0) true) (upd 53 (.v (.int .i64 z)) AJ)),AK,0⟩) (ZR []) fun c z L40=> ?_
 refine AQ ?_;obtain⟨p,H62⟩ |⟨p,H62⟩:=Ah L40;rotate_left
 ·refine Z1 p ?_;cases H62;exact⟨_,rfl,ZR []⟩
 obtain⟨Q,R,S,I,H64⟩:=zI AY H62;have A:=Y2 p I;refine Z1 A ?_;obtain⟨e,H70⟩ |⟨e,H70⟩:=Cb A H64
 ·obtain⟨T,J,H72⟩:=AP H70;refine Z1 e ?_;refine CT (zd J) ?_;refine Z1 e ?_;obtain⟨q,H74⟩ |⟨q,H74⟩:=Cb e H72
  ·refine Z1 q ?_;cases H74;cases H39;exact As
  refine Z1 q ?_;exact⟨_,H74,ZR []⟩
 obtain⟨U,K,H76⟩:=AP H70;refine Z1 e ?_;refine CT (Kf K) ?_;refine Z1 e ?_;obtain⟨k,H78⟩ |⟨k,H78⟩:=Cb e H76
 ·refine Z1 k ?_;exact⟨_,H78,ZR []⟩
 refine Z1 k ?_;obtain⟨s,H80⟩ |⟨s,H80⟩:=Cb k H78
 ·refine Z1 s ?_;cases H80;cases H39;exact As
 refine Z1 s ?_;exact⟨_,H80,ZR []⟩
def Ty (n:Nat)(x:AX)(b:AZ × Bool):Nat->(List AN × Int)->Option (List AN)
 |0,_=>none
 |c+1,(e,d)=>(if decide (d<(b.1.subs.length:Int)) then (idx b.1.subs d).bind fun g=>(Cu e [(⟨(⟨g.type_,x.b⟩:AA),0⟩:AN)]).bind fun l=>Ty n x b c (l,(i64.wrap (d+1))) else some e)
def Tz (n:Nat)(s:AD)(typ:ByteArray)(x:AX):Option (List AN):=(if (x.kind==1) then some [(⟨(⟨typ,x.a⟩:AA),0⟩:AN)] else (Gs n s typ x.a).bind fun b=>(Ty n x b n ([],0):Option (List AN)).bind fun c=>some c)
theorem zm {s:AD}{typ:ByteArray}{x:AX}{r:List AN}(H:Tz n s typ x=some r):AM Tryz.prog 165 [D.pt (Av s) 0,D.v (.string typ),D.ag (AY x)] (D.sl (List.map AH r)) true:=by
 unfold Tz at H;refine zP #[.tmp 6] Tryz.func165 ?_;refine Dg ?_;obtain⟨d,e⟩ |⟨d,e⟩:=Ah H
 ·refine Z1 d ?_;cases e;exact Rb d
 refine Gt d ?_;refine AU (ZT 1 ?_);obtain⟨F,t,u⟩:=AP e;refine Z1 d ?_;refine CT (Kf t) ?_;refine HK d ?_;refine EJ u (fun _ _ i j=>⟨upd 7 (AW 0 j (List.map AH i)) AJ,upd 0 (Am 3 j false (List.map AH i)) AK,1⟩) (fun G v o=> ?_) fun i j o=> ?_
 ·refine DL v (fun f h (b,p) g=>⟨kp [5,30,31] f (upd 7 (AW 1 g (List.map AH b)) (upd 32 (.v (.int .i64 p)) AJ)),kh [0] h (upd 1 (Am 3 g false (List.map AH b)) AK),2⟩) 0 (ZR [(0,0)]) fun c ⟨b,p⟩ g w=> ?_
  refine AQ ?_;obtain⟨k,H17⟩ |⟨k,H17⟩:=Ah w
  ·obtain⟨y,I,J,z,H19⟩:=zI AR H17;obtain⟨l,A,H25⟩:=AP H19;obtain⟨m,q⟩:=Dp A;have m:b.length+1<=4294967296:=m;have B:List.map AH b++[[.v (.string y.type_),.v (.string x.b),.v (.int .i64 0)]]=List.map AH l:=D6 AH q;have C:b.length+1=l.length:=D7 q;have E:l.length<=4294967296:=(by omega);have K:0<l.length:=(by omega);refine Z1 (Y6 k z m B C E) ?_;rcases b with _ |⟨L,M⟩
   ·try simp only[Lu,CF,CG]
    exact⟨_,0,H25,ZR [(0,0),(1,15)]⟩
   try simp only[Lh,CF,CG]
   exact⟨_,(g+1),H25,ZR [(0,0),(1,1)]⟩
  refine Z1 k ?_;cases H17;exact⟨g,ZR [(0,1)]⟩
 refine AQ ?_;cases o;exact As
theorem fk (xs:List AN)(h:decide (xs.length=0)=true):AM Tryz.prog 166 [.sl (List.map AH xs)] (.sl []) true:=by
 rw[LV (of_decide_eq_true h)];exact ax Ev FI Tryz.func166 (T:=201) (B:=4) rfl (by kernel_rfl) (by kernel_rfl) (by decide) rfl (by simp only[go_sem]) (by simp only[go_sem]) (by simp only[go_sem];decide) (by simp only[go_sem];decide)
theorem fl (xs:List AN)(c:0<xs.length)(d:xs.length<=4294967296){b:Bool}{nx:Nat}:AT Tryz.prog 166 [.d (.sl (List.map AH xs)) b] hp nx fun v g i=>v= .so (nx+3) 1 0 xs.length/\g=upd (nx+3) (some (.rw (List.map AH xs) 3 1 false false)) hp/\i=nx+7:=by
 have h:=bK (e:=AH) (k:=3) (b:=b) (hp:=hp) (nx:=nx) Ev FI Tryz.func166 (T:=201) (B:=4) rfl (by kernel_rfl) (by kernel_rfl) (by decide) rfl (by simp only[go_sem]) (by simp only[go_sem]) (by simp only[go_sem]) (by decide) (by simp only[go_sem];decide) (fun _=>rfl) xs c d;rw[QR (f:=AH) (fun _=>rfl),Og,OU] at h;exact h
def qR (_:Nat):Nat->Unit->Option (Unit)
 |0,_=>none
 |_+1,_=>some ()
def Pw (n:Nat)(x2:AX)(e:List AN):Nat->(List AN × Int)->Option (List AN)
 |0,_=>none
 |c+1,(d,b)=>(if decide (b<(e.length:Int)) then (if (x2.kind==4) then (idx d b).bind fun g=>(some (List.set d (Int.toNat b) (⟨g.to,1⟩:AN))).bind fun h=>Pw n x2 e c (h,(i64.wrap (b+1))) else Pw n x2 e c (d,(i64.wrap (b+1)))) else some d)
def Px (n:Nat)(g:AD)(h:ByteArray)(d:List AX):Nat->(List (List AN) × Int)->Option (List (List AN))
 |0,_=>none
 |c+1,(b,e)=>(if decide (e<(d.length:Int)) then (idx d e).bind fun i=>((if (i.kind==1) then some true else some (i.kind==2)):Option (Bool)).bind fun o=>(if o then (Tz n g h i).bind fun p=>(Cu b [p]).bind fun l=>Px n g h d c (l,(i64.wrap (e+1))) else (if decide (2<=(b.length:Int)) then (idx b (i64.wrap ((b.length:Int)-1))).bind fun j=>(if decide (j.length=0) then (qR n n ():Option (Unit)).bind fun _=>(Fd b 0 (i64.wrap ((b.length:Int)-2))).bind fun q=>(idx b (i64.wrap ((b.length:Int)-2))).bind fun k=>(if decide (k.length=0) then none else Cy (decide (k.length<=4294967296))<| (Cu q [k]).bind fun r=>Px n g h d c (r,(i64.wrap (e+1)))) else Cy (decide (j.length<=4294967296))<| (Pw n i j n (j,0):Option (List AN)).bind fun s=>(Fd b 0 (i64.wrap ((b.length:Int)-2))).bind fun t=>(idx b (i64.wrap ((b.length:Int)-2))).bind fun m=>(if decide (m.length=0) then none else Cy (decide (m.length<=4294967296))<| (Cu m s).bind fun u=>(Cu t [u]).bind fun v=>Px n g h d c (v,(i64.wrap (e+1))))) else Px n g h d c (b,(i64.wrap (e+1))))) else some b)
def Wu (n:Nat)(e:AD)(g:ByteArray)(_:List AX)(h:List (List AN))(x2:AX)(k:List (List AN)->Option (List (List AN))):Option (List (List AN)):=
 match h with
 |t7=>
  (
   (if (x2.kind==1) then
    some true
   else
    some (x2.kind==2)):Option (Bool)).bind fun i=>
  (if i then
   (Tz n e g x2).bind fun j=>
   (Cu t7 [j]).bind fun l=>
   k l
  else
   (if (decide (2<=(t7.length:Int))) then
    (idx t7 (i64.wrap ((t7.length:Int)-1))).bind fun b=>
    (if (decide (b.length=0)) then
     (
      qR n n ():Option (Unit)).bind fun _=>
     (Fd t7 0 (i64.wrap ((t7.length:Int)-2))).bind fun m=>
     (idx t7 (i64.wrap ((t7.length:Int)-2))).bind fun c=>
     (if (decide (c.length=0)) then
      none
     else
      Cy (decide (c.length<=4294967296))<|
      (Cu m [c]).bind fun o=>
      k o)
    else
     Cy (decide (b.length<=4294967296))<|
     (
      Pw n x2 b n (b,0):Option (List AN)).bind fun p=>
     (Fd t7 0 (i64.wrap ((t7.length:Int)-2))).bind fun q=>
     (idx t7 (i64.wrap ((t7.length:Int)-2))).bind fun d=>
     (if (decide (d.length=0)) then
      none
     else
      Cy (decide (d.length<=4294967296))<|
      (Cu d p).bind fun r=>
      (Cu q [r]).bind fun s=>
      k s))
   else
    k t7))
def Ze (_:Nat)(_:AD)(_:ByteArray)(_:List AX)(b:List (List AN)):Option (List (List AN)):=
 match b with
 |t7=>some t7
theorem zn (n:Nat)(e:AD)(g:ByteArray)(b:List AX)(i:b.length<4611686018427387904)(c:Nat)(h:List (List AN))(d:Nat)(j:d<=b.length)(k:b.length-d<c):Px n e g b c (match h,(d:Int) with |t7,d=>(t7,d))=DP (Wu n e g b) (Ze n e g b) (b.drop d) h:=
 Gl (fun c h d=>Px n e g b c (match h,d with |t7,d=>(t7,d))) b (Wu n e g b) (Ze n e g b) (fun _ _ _=>rfl) i c h d j k
def Wv (n:Nat)(b:AD)(c:ByteArray)(d:List AX):Option (List AN):=(Px n b c d n ([],0):Option (List (List AN))).bind fun e=>(Me n e).bind fun g=>some g
set_option maxHeartbeats 8000000 in
theorem zo {d:AD}{t1:ByteArray}{t2:List AX}{r:List AN}(H:Wv n d t1 t2=some r):AM Tryz.prog 141 [D.pt (Av d) 0,D.v (.string t1),D.sl (List.map AY t2)] (D.sl (List.map AH r)) true:=by
 unfold Wv at H;refine zP #[.tmp 6] Tryz.func141 ?_;refine Dg ?_;refine Dy ?_;refine EJ H (fun _ _ M N=>⟨upd 7 (AW 0 N (List.map (eL AH) M)) AJ,upd 0 (Am 1 N false (List.map (eL AH) M)) AK,1⟩) (fun e_ E1 H2=> ?_) fun M N H2=> ?_;rotate_left
 ·refine ZT 1 ?_;obtain⟨ek,b9,H183⟩:=AP H2;refine Z0 ?_;refine CT (zO b9) ?_;refine Z0 ?_;cases H183;exact As
 refine DL E1 (fun f _ (b,ak) g=>⟨kp [1,13,14] f (upd 0 (.d (.pt [.mp (A7 Value.string false eI d.types),.mp (A7 qa_ true Al d.rels),.mp (A7 qa_ false eI d.ranks)] 0) true) (upd 7 (AW 0 g (List.map (eL AH) b)) (upd 15 (.v (.int .i64 ak)) AJ))),upd 0 (Am 1 g false (List.map (eL AH) b)) AK,1⟩) 0 (ZR []) fun c ⟨b,ak⟩ g L3=> ?_
 refine Dg ?_;obtain⟨F,H22⟩ |⟨F,H22⟩:=Ah L3;rotate_left
 ·refine Z1 F ?_;cases H22;exact⟨g,ZR [(0,0)]⟩
 refine J8 F ?_;obtain⟨O,el,em,cb,H24⟩:=zI AY H22;have cf:=Y2 F cb;refine Gt cf ?_;refine CV ?_;refine AU ?_;refine EJ H24 (fun f _ ao o=>⟨kp [1,10,13,14,15] f (upd 0 (.d (.pt [.mp (A7 Value.string false eI d.types),.mp (A7 qa_ true Al d.rels),.mp (A7 qa_ false eI d.ranks)] 0) true) (upd 7 (AW 0 o (List.map (eL AH) b)) (upd 9 (.pt 1 0) (upd 21 (.v (.bool ao)) AJ)))),upd 0 (Am 1 o false (List.map (eL AH) b)) (upd 1 (some (.bx [.v (.int .i64 O.kind),.v (.string O.a),.v (.string O.b)])) AK),2⟩) (fun en E29 H30=> ?_) fun ao o H30=> ?_
 ·refine AQ ?_;obtain⟨P,H32⟩ |⟨P,H32⟩:=Ah E29
  ·refine Z1 P ?_;cases H32;exact⟨g,ZR [(0,0),(1,4)]⟩
  refine Z1 P ?_;cases H32;exact⟨g,ZR [(0,0),(1,4)]⟩
 obtain⟨i,H34⟩ |⟨i,H34⟩:=Ah H30
 ·refine ED (by rfl) i ?_;refine Z1 i ?_;refine ZT 4 ?_;obtain⟨ch,cp,H36⟩:=AP H34;refine Z1 i ?_;refine CT (zm cp) ?_;obtain⟨l,cs,H38⟩:=AP H36;obtain⟨Q,aq⟩:=Dp cs;have Q:b.length+1<=4294967296:=Q;have cx:List.map (eL AH) b++[[.sl (List.map AH ch)]]=List.map (eL AH) l:=D6 (eL AH) aq;have cN:b.length+1=l.length:=D7 aq;have c0:l.length<=4294967296:=by omega
  have eo:0<l.length:=by omega
  refine Z1 (Y5 i Q cx cN c0) ?_;rcases b with _ |⟨q0,q1⟩
  ·try simp only[Lu,CF,CG]
   exact⟨_,0,H38,ZR [(0,8)]⟩
  try simp only[Lh,CF,CG]
  exact⟨_,(o+1),H38,ZR [(0,0)]⟩
 refine DI (by rfl) i ?_;refine Gt i ?_;obtain⟨u,H46⟩ |⟨u,H46⟩:=Ah H34;rotate_left
 ·refine DI (by rfl) u ?_;have av:=Y2 i u;refine Z1 av ?_;refine ZT 4 ?_;refine Z1 av ?_;exact⟨_,o,H46,ZR [(0,0)]⟩
 refine ED (by rfl) u ?_;have aE:=Y2 i u;refine Ct aE ?_;obtain⟨G,eq,c1,c2,H48⟩:=zI (eL AH) H46;have c3:=EN c1;have a0:0<b.length:=by omega
 have R:=Y5 aE c2 c3 (YV (f:=(eL AH)) a0) (YO (f:=(eL AH)) a0);refine Z1 R ?_;obtain⟨y,H55⟩ |⟨y,H55⟩:=Ah H48
 ·have a1:=Y2 R y;refine Z1 a1 ?_;refine CT (fk G y) ?_;refine HK a1 ?_;refine zj H55 (fun f h _=>⟨kp [1,7,10,11,13,14,15] f (upd 0 (.d (.pt [.mp (A7 Value.string false eI d.types),.mp (A7 qa_ true Al d.rels),.mp (A7 qa_ false eI d.ranks)] 0) true) AJ),kh [0] h AK,1⟩) (fun er E56 H57=> ?_) fun _ H57=> ?_
  ·refine D9 E56 (fun f h _=>⟨kp [1,7,9,10,11,13,14,15,47,48] f (upd 0 (.d (.pt [.mp (A7 Value.string false eI d.types),.mp (A7 qa_ true Al d.rels),.mp (A7 qa_ false eI d.ranks)] 0) true) AJ),kh [0,1] h AK,2⟩) (ZR [(0,0),(1,1)]) fun c _ L58=> ?_
   refine AQ ?_;cases L58;exact ZR [(0,0)]
  refine ZT 4 ?_;obtain⟨p,c4,H60⟩:=AP H57;obtain⟨c5,c6,es,a2⟩:=KO c4;have a3:0<=Int.toNat (i64.wrap ((b.length:Int)-2)):=by omega
  have a4:Int.toNat (i64.wrap ((b.length:Int)-2))<=b.length:=by omega
  have a5:Int.toNat (i64.wrap ((b.length:Int)-2))-0=p.length:=by rw[a2];simp;try omega
  have S:List.take p.length (List.map (eL AH) b)=List.map (eL AH) p:=VJ (eL AH) a2;try simp only[Li] at a3 a4 S a5
  obtain⟨k,et,c7,c9,H70⟩:=zI (eL AH) H60;have da:=EN c7;have T:=Y2 (Y6 (CC .i64 (NC c5 c6)) a3 a4 a5 S c9) da;refine Z1 T ?_;obtain⟨z,H76⟩ |⟨z,H76⟩:=Ah H70
  ·refine Z1 (Y2 T z) ?_;refine Ds (fk k z) ?_;cases H76
  obtain⟨dd,H78⟩:=Dv H76;have a6:k.length<=4294967296:=of_decide_eq_true dd;have df:0<k.length:=by have:=of_decide_eq_false z;omega
  refine Z1 (Y2 T z) ?_;refine IP (ids':=[]) (v:=.so 19 1 0 k.length) (δ:=[(19,.rw (List.map AH k) 3 1 false false)]) (nx':=23) (fun dk _=>AT.mono (fl k df a6) fun v2 dl dm e=>e) ?_;have ew:k.length<=4294967296:=by omega
  obtain⟨I,dn,H86⟩:=AP H78;obtain⟨a9,ba⟩:=Dp dn;have a9:p.length+1<=4294967296:=a9;have dp:List.map (eL AH) p++[[.sl (List.map AH k)]]=List.map (eL AH) I:=D6 (eL AH) ba;have dq:p.length+1=I.length:=D7 ba;have dr:I.length<=4294967296:=by omega
  have ex:0<I.length:=by omega
  have U:(p.length<=b.length)=True:=Fa;try simp -implicitDefEqProofs only[go_sem,Ng,Nat.reduceLT,Nat.reduceEqDiff,Nat.reduceAdd,Nat.reduceLeDiff,reduceCtorEq, ↓reduceIte,S,a6,NP,Ns,dp,dq,dr,U]
  refine DD (by rfl) ?_;try simp -implicitDefEqProofs only[go_sem,Nat.reduceEqDiff,Nat.reduceAdd,reduceCtorEq, ↓reduceIte]
  exact⟨_,(o+1),H86,ZR [(0,0)]⟩
 obtain⟨ds,H95⟩:=Dv H55;have bb:G.length<=4294967296:=of_decide_eq_true ds;have dt:0<G.length:=by have:=of_decide_eq_false y;omega
 have bd:=Y2 R y;refine Z1 bd ?_;refine CO (AT.mono (fl G dt bb) ?_);rintro ey ez eA ⟨rfl,rfl,rfl⟩;have dw:=Y2 bd bb;refine HK dw ?_;refine zj H95 (fun f h m=>⟨kp [1,7,10,13,14,15] f (upd 0 (.d (.pt [.mp (A7 Value.string false eI d.types),.mp (A7 qa_ true Al d.rels),.mp (A7 qa_ false eI d.ranks)] 0) true) (upd 11 (.so 1 1 0 (m.length)) AJ)),kh [0] h (upd 1 (some (.rw (List.map AH m) 3 1 false false)) AK),2⟩) (fun eD E101 H102=> ?_) fun m H102=> ?_
 ·refine D9 E101 (fun f h (q,A)=>⟨kp [1,7,9,10,13,14,15,47] f (upd 0 (.d (.pt [.mp (A7 Value.string false eI d.types),.mp (A7 qa_ true Al d.rels),.mp (A7 qa_ false eI d.ranks)] 0) true) (upd 11 (.so 2 1 0 (q.length)) (upd 48 (.v (.int .i64 A)) AJ))),kh [0,1] h (upd 2 (some (.rw (List.map AH q) 3 1 false false)) AK),3⟩) (ZR [(0,0),(1,1),(2,15)]) fun c ⟨q,A⟩ L103=> ?_
  refine AQ ?_;obtain⟨B,H123⟩ |⟨B,H123⟩:=Ah L103
  ·refine Z1 B ?_;obtain⟨V,H125⟩ |⟨V,H125⟩:=Ah H123
   ·obtain⟨X,eF,dy,dS,H127⟩:=zI AH H125;have d0:=EN dy;obtain⟨C,d1,H133⟩:=AP H127;have be:List.set q (Int.toNat A) (⟨X.to,1⟩:AN)=C:=LI d1;have bg:List.set (List.map AH q) (Int.toNat A) [.v (.string X.to.typ),.v (.string X.to.rel),.v (.int .i64 1)]=List.map AH C:=by rw[<-be,NF]
    try simp only[Lh,Lu] at bg
    have d2:q.length=C.length:=(by rw[<-be,NS]);have d3:∀w,AV.so 2 w 0 q.length=AV.so 2 w 0 C.length:=fun w=>(by rw[d2]);have d4:(Int.toNat A)<C.length:=(by omega);refine Z1 (Y2 (Y6 B V dS d0 bg d3) d4) ?_;exact⟨_,H133,ZR [(0,0),(1,1),(2,2)]⟩
   refine Z1 (Y2 B V) ?_;exact⟨_,H125,ZR [(0,0),(1,1),(2,2)]⟩
  refine Z1 B ?_;cases H123;exact ZR [(0,0),(1,2)]
 refine ZT 4 ?_;obtain⟨s,ea,H140⟩:=AP H102;obtain⟨bl,bo,eH,br⟩:=KO ea;have Y:0<=Int.toNat (i64.wrap ((b.length:Int)-2)):=by omega
 have Z:Int.toNat (i64.wrap ((b.length:Int)-2))<=b.length:=by omega
 have aa:Int.toNat (i64.wrap ((b.length:Int)-2))-0=s.length:=by rw[br];simp;try omega
 have ab:List.take s.length (List.map (eL AH) b)=List.map (eL AH) s:=VJ (eL AH) br;try simp only[Li] at Y Z ab aa
 obtain⟨j,eb,ed,bs,H150⟩:=zI (eL AH) H140;have bx:=EN ed;have ad:=Y2 (Y6 (CC .i64 (NC bl bo)) Y Z aa ab bs) bx;refine Z1 ad ?_;obtain⟨t,H156⟩ |⟨t,H156⟩:=Ah H150
 ·refine Z1 (Y2 ad t) ?_;refine Ds (fk j t) ?_;cases H156
 obtain⟨ee,H158⟩:=Dv H156;have ag:j.length<=4294967296:=of_decide_eq_true ee;have ef:0<j.length:=by have:=of_decide_eq_false t;omega
 have b0:=Y2 ad t;refine Z1 b0 ?_;refine IP (ids':=[]) (v:=.so 20 1 0 j.length) (δ:=[(20,.rw (List.map AH j) 3 1 false false)]) (nx':=24) (fun dk _=>AT.mono (fl j ef ag) fun v2 dl dm e=>e) ?_;obtain⟨E,eg,H165⟩:=AP H158;obtain⟨J,b1⟩:=Dp eg;have J:j.length+m.length<=4294967296:=J;have b2:List.map AH j++List.map AH m=List.map AH E:=D6 AH b1;have b3:j.length+m.length=E.length:=D7 b1;have b4:E.length<=4294967296:=by omega
 have eK:0<E.length:=by omega
 obtain⟨K,eh,H173⟩:=AP H165;obtain⟨L,b5⟩:=Dp eh;have L:s.length+1<=4294967296:=L;have b6:List.map (eL AH) s++[[.sl (List.map AH E)]]=List.map (eL AH) K:=D6 (eL AH) b5;have b7:s.length+1=K.length:=D7 b5;have b8:K.length<=4294967296:=by omega
 have eN:0<K.length:=by omega
 have U:(s.length<=b.length)=True:=Fa;refine Z1 (And.intro U (Y4 (Y6 (CC .i64 (NC bl bo)) Y Z aa ab (CC .i64 eb)) (Y6 bs bx t ag (Fm (n:=3) (f:=AH) (fun _=>rfl) m) J) (Y6 b2 b3 b4 L b6 b7) b8)) ?_;refine DD (by rfl) ?_;refine Z1 (Y2 (Y6 b0 ag (Fm (n:=3) (f:=AH) (fun _=>rfl) m) J b2 b3) (Y5 b4 L b6 b7 b8)) ?_;exact⟨_,(o+1),H173,ZR [(0,0)]⟩
theorem AT.canon {P:Program}{f:FuncId}{vs:List AV}{hp0:Hp}{nx:Nat}{R:AV->Hp->Nat->Prop}{m:AV}(h:AT P f vs hp nx R)(k:∀v p l,R v p l->nx<=l->CE nx ⟨upd 0 m AJ,hp0,nx⟩ ⟨upd 0 v AJ,p,l⟩):
  AT P f vs hp nx fun v p l=>v=m/\p=hp0/\l=nx:=by
 refine⟨h.1,fun g c K L r F M N=> ?_⟩;let s:Gh:=⟨g.base,g.M0,0⟩;refine(h.2 s c K L r (F.fb 0) M fun j x O=>by have⟨u,w,y⟩:=N j x O;exact⟨u,w,y.tr (GK.fb g c 0)⟩).mono ?_;rintro e w' ⟨u,v,z,G,w,y,Q,S,T,U,A,H⟩;have V:=k v z.hp G y A;obtain⟨a,B,X⟩:∃a:Act,a.tmps= #[u]/\a.defers= []:=⟨{ tmps:= #[u],defers:=[] },rfl,rfl⟩;have Y:EM s ⟨upd 0 v AJ,z.hp,G⟩ z a 1:=by
  refine⟨rfl,T,fun i q=> ?_,fun t=> ?_,by rw[B];rfl,Lf _,by rw[X];trivial⟩
  ·rcases H i q with b |b
   ·exact LF (r i b) A
   exact b.2
  cases t with |zero=>rw[B];exact U |succ t=>trivial
 have⟨C,d,q2,q3,q4,q5⟩:=Y.weakR A V;have hu:A6 s C m u:=by
  have:=d.fr 0;rw[B] at this;exact this
 have I:=GK.unfb g C 0;refine⟨u,m,C,nx,w,⟨rfl,d.hp,rfl⟩,q2.trans Q,(S.toR.trans q3).toE (F.fb 0) r,d.hr.tr I d.hr.le d.hr.m0 (fun id o ho=>(d.hr.dom id o ho).2.1) (Lc _),hu.tr I,Lc _,fun i q=> ?_⟩;have J:=d.kn i q;rcases q5 i q with b |b
 ·rcases H i b with E |E
  ·exact .inl E
  exact absurd J (Nat.not_lt.2 E.1)
 exact absurd J (Nat.not_lt.2 b)
def GT (nx:Nat):Nat->Option Nat:=fun i=>if i<nx then some i else none
def I9 (nx:Nat)(hp:Hp):Prop:=∀i o,hp i=some o->Ce (GT nx) o=some o
theorem mu {id ver sz:Nat}{es:List (List D)}(h:es≠[]->hp id=some (.rw es sz ver false false)):∃is,Ci hp (AW id ver es)=some (.sl es,false,is)/\∀i∈is,es≠[]/\i=id:=by
 cases es with
 |nil=>exact⟨[],rfl,fun i b=>nomatch b⟩
 |cons a r=>
  have c:=h (by simp);exact⟨[id],by simp[AW,Ci,c],fun i b=>⟨by simp,Lr.1 b⟩⟩
def ovD (b:Bool)(g:AZ)(ov:AV):AV:=if b then .d (.sl (g.expr.map AY)) false else ov
theorem mv {c f:Nat}{nx q:Nat}{y:Au × AZ}{bl:Bool}{ov:AV}(p:∀j,nx<=j->hp j=none)(H:I9 nx hp)(z:hp q=some (Aw x bl ov))(h:FW n c f x=some y):
  AT Tryz.prog 57 [.pt q 0] hp nx fun v r A=>v= .ag [.v (.string y.2.name),.d (.sl (y.2.subs.map AR)) false,.d (.sl (y.2.expr.map AY)) false]/\r=upd q (some (Aw y.1 bl (ovD (kB_ n x) y.2 ov))) hp/\A=nx:=by
 have Y:q<nx:=Ch p z;refine(RJ p z h).canon ?_;rintro v r A ⟨Z,O,P,Q,R,rfl,S,s,I,J,T,aa,le⟩ ab;have U:CZ (GT nx) ov=some ov:=by
  have d:=H q _ z;simp only[Aw,Ce,EK,CZ,La] at d;cases e:CZ (GT nx) ov with |none=>rw[e] at d;simp at d |some w=>rw[e] at d;simpa using d
 have⟨K,V,X⟩:=mu (hp:=r) (id:=O) (ver:=P) (sz:=3) (es:=y.2.subs.map AR) fun B=>(I (by simpa using B)).1;have⟨C,L,m2⟩:=mu (hp:=r) (id:=Q) (ver:=R) (sz:=3) (es:=y.2.expr.map AY) fun B=>(J (by simpa using B)).1;obtain⟨k,l⟩:∃k,k=upd q (some (Aw y.1 bl (ovD (kB_ n x) y.2 ov))) hp:=⟨_,rfl⟩;rw[<-l];have E:∀j o,k j=some o->j<nx:=fun j o F=>by
  rw[l] at F;by_cases e:j=q
  ·omega
  rw[Aj _ _ e] at F;exact Ch p F
 have f1:∀i∈K,∀o,k i=some o->o.fz=true:=fun i g o b=>by
  obtain⟨G,rfl⟩:=X i g
  have:=E _ _ b
  have:=(I (by simpa using G)).2.1;omega
 have M:∀i∈C,∀o,k i=some o->o.fz=true:=fun i g o b=>by
  obtain⟨G,rfl⟩:=m2 i g
  have:=E _ _ b
  have:=(J (by simpa using G)).2.1;omega
 refine .trans (m:=⟨upd 0 (.ag [.v (.string y.2.name),.d (.sl (y.2.subs.map AR)) false,.d (.sl (y.2.expr.map AY)) false]) AJ,k,A⟩) (.ren (GT nx) ⟨fun i g=>if_pos g,fun i j g h=> ?_,fun i i' j d u=> ?_,fun t=> ?_,fun i o b=> ?_,Lc _⟩) (.dat ⟨fun t=> ?_,fun i o' b=> ?_,Lc _⟩)
 ·rw[show GT nx i=none from ifn] at h;cases h
 ·unfold GT at d u;split at d
  ·split at u
   ·cases d;cases u;rfl
   cases u
  cases d
 ·cases t with |zero=>exact .inr rfl |succ t=>exact .inl rfl
 ·have g:=E _ _ b;refine⟨i,o,if_pos g,?_,b⟩;by_cases e:i=q
  ·subst e;dsimp only at b;rw[l,At] at b;cases b;unfold ovD;split
   ·rfl
   simp[Aw,Ce,EK,CZ,U]
  dsimp only at b;rw[l,Aj _ _ e] at b;exact H i o b
 ·cases t with |zero=>exact .ag (.cons (.same _) (.cons (.dat _ _ _ _ K V id f1) (.cons (.dat _ _ _ _ C L id M) .nil))) |succ t=>exact .same _
 dsimp only at b⊢;by_cases e:i=q
 ·subst e;rw[l,At] at b;cases b;refine⟨_,S,?_⟩;cases N:kB_ n x with
  |true=>
   rw[N,if_pos rfl] at s;rw[s];exact .bx (cs:=[_,_,_,_,_,_,_,_]) (.cons (.same _) (.cons (.same _) (.cons (.same _) (.cons (.same _) (.cons (.same _) (.cons (.same _) (.cons (.dat _ _ _ _ C L id M) (.cons (.same _) .nil))))))))
  |false=>
   rw[N,if_neg (by decide)] at s;rw[s];exact .same _
 rw[l,Aj _ _ e] at b;exact⟨o',by rw[T i (Ch p b) e];exact b,.same _⟩
theorem Ym (x:Au)(s:AX)(a:Int):(EF x s a).l=x.l:=by
 unfold EF;split
 ·split
  ·rfl
  rfl
 rfl
theorem my {ex:Au->Option Au}(c:∀x y,ex x=some y->y.l=x.l){y:Au}(h:FV n ex x=some y):y.l=x.l:=by
 unfold FV at h;split at h;rotate_left
 ·cases h
 split at h
 ·split at h
  ·cases h;exact(Hd x 10).1
  have⟨z,b,h⟩:=AP h;split at h
  ·cases h;have d:=c _ _ b;exact(Vw z MP).1.trans d
  cases h
 have⟨r,b,h⟩:=AP h;split at h
 ·have⟨s,e,h⟩:=AP h;cases h;exact(Ym _ _ _).trans ((He e).1.trans (He b).1)
 cases h;exact(Ym _ _ _).trans (He b).1
theorem mz {n:Nat}{ex:Au->Option Au}(b:∀x y,ex x=some y->y.l=x.l):∀(c:Nat) {x y:Au},JT n ex c x=some y->y.l=x.l
 |0,_,_,h=>by cases h
 |c+1,x,y,h=>by
  unfold JT at h;split at h;rotate_left
  ·cases h
  split at h
  ·have⟨z,d,h⟩:=AP h;split at h
   ·have e:=my b d;exact(mz b c h).trans ((Ym _ _ _).trans e)
   cases h
  cases h;rfl
theorem m5 {c:Nat}{ex:Au->Option Au}(b:∀x y,ex x=some y->y.l=x.l){y:Au}(h:Hg n ex c x=some y):y.l=x.l:=by
 unfold Hg at h;have⟨z,d,h⟩:=AP h;exact(mz b c h).trans (my b d)
theorem m8 {b:Au->Option Au}(d:∀x y,b x=some y->y.l=x.l):∀(c:Nat) {x y:Au},JU b c x=some y->y.l=x.l
 |0,_,_,h=>by cases h
 |c+1,x,y,h=>by
  unfold JU at h;split at h;rotate_left
  ·cases h
  split at h
  ·have⟨z,e,h⟩:=AP h;split at h
   ·have g:=d _ _ e;exact(m8 d c h).trans ((Ym _ _ _).trans g)
   cases h
  cases h;rfl
theorem cu {n c:Nat}:∀(f:Nat) (x y:Au),Gg n c f x=some y->y.l=x.l
 |0,_,_,h=>by cases h
 |f+1,x,y,h=>by
  unfold Gg at h;have⟨z,b,h⟩:=AP h;exact(m8 (fun x y h=>m5 (cu f) h) c h).trans (m5 (cu f) b)
theorem m9 {n:Nat}:∀(c:Nat) {x:Au} {d:List AL} {y:Au × List AL},I6 n c x d=some y->y.1.l=x.l
 |0,_,_,_,h=>by cases h
 |c+1,x,d,y,h=>by
  unfold I6 at h;split at h;rotate_left
  ·cases h
  split at h;rotate_left
  ·cases h;rfl
  have⟨e,j,h⟩:=AP h;have g:e.1.l=x.l:=by
   have:=(He j).1;split at this
   ·exact this.trans (Hd x 8).1
   exact this
  have⟨k,b,h⟩:=AP h;have i:k.1.l=e.1.l:=by
   split at b
   ·exact(He b).1
   cases b;rfl
  split at h
  ·have l:=m9 c h;exact l.trans (i.trans g)
  cases h;exact(Vw _ _).1.trans (i.trans g)
theorem nA {c f:Nat}{y:Au × AZ}(h:FW n c f x=some y):y.1.l=x.l:=by
 unfold FW at h;split at h;rotate_left
 ·cases h
 have⟨r,e,h⟩:=AP h;have d:=(He e).1;split at h
 ·have⟨z,b,h⟩:=AP h;split at h
  ·cases h;have g:=cu f _ _ b;exact(Vw _ _).1.trans (g.trans d)
  cases h
 obtain⟨p,b,rfl⟩:=La.1 h;exact(m9 c b).trans ((Vw _ _).1.trans d)
def Gr (f:Nat->Nat)(a:C7):C7:=if a.g then⟨[Df],a.ks.map f,true⟩ else HL f a
theorem TP:(Gr f a).ks=a.ks.map f:=by
 unfold Gr;split
 ·rfl
 rfl
theorem PY:(Gr f a).g=a.g:=by
 unfold Gr;split
 ·rename_i h;exact h.symm
 rfl
theorem cr (h:a.g=true):FQ (Gr f a)=true:=by
 unfold Gr;rw[if_pos h];simp[FQ]
theorem mq (h:FQ a=true):a.g=true:=by
 unfold FQ at h;rw[Lm] at h;exact h.1
theorem xS {xs b:List Nat}(h:De xs b=true):xs≠[]/\b≠[]:=by
 unfold De at h;simp only[Nq,Bn] at h;have⟨i,c,d⟩:=h;exact⟨Ik c,Ik d⟩
theorem mr {b:C7}(h:De a.ks b.ids=true):De (Gr f a).ks (Gr f b).ids=true\/(FQ (Gr f b)=true/\(Gr f a).ks≠[]):=by
 cases c:b.g with
 |true=>exact .inr ⟨cr c,by rw[TP];simpa using(xS h).1⟩
 |false=>
  refine .inl ?_;rw[TP];unfold Gr;rw[c,if_neg (by decide)];exact ZE h
theorem xT {xs d e:List Nat}:De xs (d++e)=(De xs d||De xs e):=by
 unfold De;rw[LY];simp only[Nq,Bn,Lw,LQ];constructor
 ·rintro⟨i,c,b |b⟩
  ·exact .inl ⟨i,c,b⟩
  exact .inr ⟨i,c,b⟩
 rintro(⟨i,c,b⟩ |⟨i,c,b⟩)
 ·exact⟨i,c,.inl b⟩
 exact⟨i,c,.inr b⟩
theorem xU {b:C7}(h:Fl a b=true):Fl (Gr f a) (Gr f b)=true:=by
 simp only[Fl,IN,xT,LQ,Lm,NN,List.isEmpty_eq_false_iff] at h⊢;rcases h with((((h |h) |h) |h) |h |h)
 ·rcases mr (f:=f) h with c |c
  ·exact .inl (.inl (.inl (.inl c)))
  exact .inr (.inr c)
 ·exact .inl (.inl (.inl (.inr (by rw[TP,TP];exact ZE h))))
 ·rcases mr (f:=f) h with c |c
  ·exact .inl (.inl (.inr c))
  exact .inr (.inl c)
 ·exact .inl (.inr ⟨by rw[PY];exact h.1,by rw[PY];exact h.2⟩)
 ·exact .inr (.inl ⟨cr (mq h.1),by rw[TP];simpa using h.2⟩)
 exact .inr (.inr ⟨cr (mq h.1),by rw[TP];simpa using h.2⟩)
theorem xV {ops:Array Oper}{rs:List C7}(h:Gz ops (rs.map (Gr f))=true):Gz ops rs=true:=by
 simp only[Gz,SJ,Lm,LP] at h⊢;refine⟨h.1,fun j g i k=> ?_⟩;have c:=h.2 j g i k;rw[Ln,Ln] at c;cases d:rs[i]? with
 |none=>
  rw[d] at c;exact c
 |some a=>
  cases e:rs[j]? with
  |none=>
   rw[d,e] at c;exact c
  |some b=>
   rw[d,e] at c;simp only[LT] at c⊢;cases l:Fl a b with
   |false=>
    rw[LQ] at c⊢;rcases c with c |c
    ·exact .inl c
    ·refine .inr ?_;rw[Lm] at c⊢;exact⟨c.1,rfl⟩
   |true=>
    rw[xU l] at c;simpa using c
theorem ct {P:Program}{tab:Nat->TI}{ops:Array Oper}{d nx i:Nat}{k:List It}{Q:Ex->St->Prop}{b:List C7}{c:Fr}(f:Nat->Nat)(rs:List C7)(e:b.reverse.map (Gr f)=rs)(g:SO ops rs=true)(h:run P tab k Q ⟨c,hp,nx⟩):Rd P tab ops d nx k Q i [] b c hp:=
 ⟨xV (XL (e▸g)),h⟩
theorem PZ {ids b:List Nat}:Gr f ⟨ids,b,false⟩=⟨ids.map f,b.map f,false⟩:=rfl
theorem Pa {ids b:List Nat}:Gr f ⟨ids,b,true⟩=⟨[Df],b.map f,true⟩:=rfl
end Go.Proofs.YtnmkbmefohakmaaGreat.Ab
