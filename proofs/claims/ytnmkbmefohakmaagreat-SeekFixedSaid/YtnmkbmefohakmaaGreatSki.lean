/-
 Tuples that are found: what the index holds. No program in sight.
-/
import Derived.Test.YtnmkbmefohakmaaGreatRkb
import Derived.Test.YtnmkbmefohakmaaGreatTeY
set_option linter.all false
namespace Go.Proofs.YtnmkbmefohakmaaGreat.Ab
open Go.RowKit IntKind
def IZ (n:Nat)(o:Ak)(rel:ByteArray)(b:List AG)(c:List AD)(d:AN):Option Bool:=(Uv n b c o rel d).bind fun a=>(if a.1 then some (a.2==0) else some false)
variable {m n:Nat}
theorem UM {o:Ak}{rel:ByteArray}{c:List AG}{a:List AD}{d:AN}{r:Bool}(H:IZ n o rel c a d=some r):AI Tryz.prog 17 [D.ag (C3 o),D.v (.string rel),D.pt [D.sl (List.map AQ c)] 0,D.pt [D.sl (List.map AE a)] 0,D.pt (AR d) 0] (D.v (.bool r)) true:=by
 unfold IZ at H;refine ZP Ep EN (rs:= #[.tmp 7]) Tryz.func17 ?_;refine ZT 1 ?_;have⟨g,e,f⟩:=AL H;refine Z0 ?_;refine Cn (fm_ e) ?_;refine Z0 ?_;obtain⟨a,b⟩ |⟨a,b⟩:=As f
 ·refine Z1 a ?_;cases b;exact Ax
 refine Z1 a ?_;cases b;exact Ax
def Hn (n:Nat)(e:List AG)(d:List AD)(a:Ak × ByteArray × AN)(g:ByteArray)(h:ByteArray):Nat->(Bool × Bool × Int)->Option (Bool × Bool)
 |0,_=>none
 |c+1,(k,j,f)=>(if decide (f<(d.length:Int)) then (CD d f).bind fun b=>((if ((b.obj.type_==g)&&(b.obj.id_==h)) then (Kt n e b).bind fun l=>some (!l) else some true):Option (Bool)).bind fun o=>(if o then Hn n e d a g h c (k,j,(i64.wrap (f+1))) else ((if ((b.sub_.type_==a.2.2.type_)&&((b.sub_.id_==a.2.2.id_)&&(b.sub_.rel==a.2.2.rel))) then some true else (if (b.sub_.rel.toList==({ data:= #[] }:ByteArray).toList) then some false else (IZ n (⟨b.sub_.type_,b.sub_.id_⟩:Ak) b.sub_.rel e d (⟨a.2.2.type_,a.2.2.id_,a.2.2.rel⟩:AN)).bind fun p=>some p)):Option (Bool)).bind fun i=>(if k then (if j then Hn n e d a g h c (true,true,(i64.wrap (f+1))) else (if (b.rel.toList==({ data:= #[115] }:ByteArray).toList) then Hn n e d a g h c (true,i,(i64.wrap (f+1))) else Hn n e d a g h c (true,false,(i64.wrap (f+1))))) else (if (b.rel.toList==({ data:= #[114] }:ByteArray).toList) then (if j then Hn n e d a g h c (i,true,(i64.wrap (f+1))) else (if (b.rel.toList==({ data:= #[115] }:ByteArray).toList) then Hn n e d a g h c (i,i,(i64.wrap (f+1))) else Hn n e d a g h c (i,false,(i64.wrap (f+1))))) else (if j then Hn n e d a g h c (false,true,(i64.wrap (f+1))) else (if (b.rel.toList==({ data:= #[115] }:ByteArray).toList) then Hn n e d a g h c (false,i,(i64.wrap (f+1))) else Hn n e d a g h c (false,false,(i64.wrap (f+1)))))))) else some (k,j))
def ML (n:Nat)(b:List AG)(g:List AD)(a:Ak × ByteArray × AN)(h:ByteArray)(i:ByteArray)(d:AS)(e:List AN):Nat->(Bool × Int)->Option (Bool)
 |0,_=>none
 |c+1,(k,f)=>(if decide (f<(e.length:Int)) then (CD e f).bind fun j=>(if k then ML n b g a h i d e c (true,(i64.wrap (f+1))) else (Kt n b (⟨(⟨h,i⟩:Ak),d.a,j⟩:AD)).bind fun l=>(if l then (IZ n (⟨j.type_,j.id_⟩:Ak) d.b b g (⟨a.2.2.type_,a.2.2.id_,a.2.2.rel⟩:AN)).bind fun o=>ML n b g a h i d e c (o,(i64.wrap (f+1))) else ML n b g a h i d e c (false,(i64.wrap (f+1))))) else some k)
def Gt (n:Nat)(g:List AG)(d:List AD)(b:Ak × ByteArray × AN)(e:ByteArray)(f:ByteArray)(h:AW × Bool):Nat->(List Bool × Int)->Option (List Bool)
 |0,_=>none
 |c+1,(a,i)=>(if decide (i<(h.1.expr.length:Int)) then (CD h.1.expr i).bind fun j=>(if (j.kind==1) then (IZ n (⟨e,f⟩:Ak) j.a g d (⟨b.2.2.type_,b.2.2.id_,b.2.2.rel⟩:AN)).bind fun p=>(DG a [p]).bind fun q=>Gt n g d b e f h c (q,(i64.wrap (i+1))) else (if (j.kind==2) then (Sf n d (⟨e,f⟩:Ak) j.a).bind fun r=>(ML n g d b e f j r n (false,0):Option (Bool)).bind fun s=>(DG a [s]).bind fun t=>Gt n g d b e f h c (t,(i64.wrap (i+1))) else (if (j.kind==3) then (if decide (a.length=0) then (FV ([]:List Bool) 0 (i64.wrap ((([]:List Bool).length:Int)-2))).bind fun H=>none else (FV a 0 (i64.wrap ((a.length:Int)-2))).bind fun k=>(CD a (i64.wrap ((a.length:Int)-2))).bind fun u=>(if u then (DG k [true]).bind fun v=>Gt n g d b e f h c (v,(i64.wrap (i+1))) else (CD a (i64.wrap ((a.length:Int)-1))).bind fun w=>(DG k [w]).bind fun x=>Gt n g d b e f h c (x,(i64.wrap (i+1))))) else (if (j.kind==5) then (if decide (a.length=0) then (FV ([]:List Bool) 0 (i64.wrap ((([]:List Bool).length:Int)-2))).bind fun I=>none else (FV a 0 (i64.wrap ((a.length:Int)-2))).bind fun l=>(CD a (i64.wrap ((a.length:Int)-2))).bind fun y=>(if y then (CD a (i64.wrap ((a.length:Int)-1))).bind fun z=>(DG l [z]).bind fun A=>Gt n g d b e f h c (A,(i64.wrap (i+1))) else (DG l [false]).bind fun B=>Gt n g d b e f h c (B,(i64.wrap (i+1))))) else (if decide (a.length=0) then (FV ([]:List Bool) 0 (i64.wrap ((([]:List Bool).length:Int)-2))).bind fun J=>none else (FV a 0 (i64.wrap ((a.length:Int)-2))).bind fun o=>(CD a (i64.wrap ((a.length:Int)-2))).bind fun C=>(if C then (CD a (i64.wrap ((a.length:Int)-1))).bind fun E=>(DG o [(!E)]).bind fun F=>Gt n g d b e f h c (F,(i64.wrap (i+1))) else (DG o [false]).bind fun G=>Gt n g d b e f h c (G,(i64.wrap (i+1))))))))) else some a)

def UN (n:Nat)(b:List AG)(e:List AD)(a:Ak × ByteArray × AN)(d:ByteArray)(f:ByteArray):Nat->Int->Option ((Unit) ⊕ Bool)
 |0,_=>none
 |c+1,g=>(if decide (g<2) then (CD ([{ data:= #[112] },{ data:= #[113] }]:List ByteArray) g).bind fun h=>(Hr n b d h).bind fun i=>(if i.2 then (Gt n b e a d f i n ([],0):Option (List Bool)).bind fun j=>(if ((j.length:Int) != 1) then some (.inr false) else (IZ n (⟨d,f⟩:Ak) h b e (⟨a.2.2.type_,a.2.2.id_,a.2.2.rel⟩:AN)).bind fun k=>(CD j 0).bind fun l=>(if (k==l) then UN n b e a d f c (i64.wrap (g+1)) else some (.inr false))) else some (.inr false)) else some (.inl ()))

def UO (n:Nat)(b:List AG)(d:List AD)(a:Ak × ByteArray × AN):Nat->Int->Option ((Unit) ⊕ Bool)
 |0,_=>none
 |c+1,e=>(if decide (e<16) then (CD ([{ data:= #[97] },{ data:= #[98] }]:List ByteArray) (i64.wrap (an e 1:Int))).bind fun f=>(CD ([{ data:= #[97] },{ data:= #[98] },{ data:= #[99] },{ data:= #[100] },{ data:= #[97,98] },{ data:= #[98,45,49] },{ data:= #[120,46,121] },{ data:= #[48] }]:List ByteArray) (sh e 1)).bind fun g=>(Hn n b d a f g n (false,false,0):Option (Bool × Bool)).bind fun(h,i)=>((IZ n (⟨f,g⟩:Ak) ({ data:= #[114] }) b d (⟨a.2.2.type_,a.2.2.id_,a.2.2.rel⟩:AN)).bind fun j=>(if (j==h) then (IZ n (⟨f,g⟩:Ak) ({ data:= #[115] }) b d (⟨a.2.2.type_,a.2.2.id_,a.2.2.rel⟩:AN)).bind fun k=>some (!(k==i)) else some true):Option (Bool)).bind fun l=>(if l then some (.inr false) else (UN n b d a f g n 0:Option ((Unit) ⊕ Bool)).bind fun | .inl _=>UO n b d a c (i64.wrap (e+1)) | .inr r=>some (.inr r)) else some (.inl ()))

def Zc (n:Nat)(t0:List Int)(a:List Int)(c:Int):Option Bool:=(QN n t0).bind fun d=>(MY n d).bind fun b=>(FV a 0 (if 20<(a.length:Int) then 20 else(a.length:Int))).bind fun l=>(Wl n l).bind fun e=>(Qf n e).bind fun f=>(Wm n c).bind fun g=>(XO n b).bind fun h=>(if (h != 0) then (dM n).bind fun i=>some i else (UO n b f g n 0:Option ((Unit) ⊕ Bool)).bind fun
   | .inl _=>(dM n).bind fun j=>some j
   | .inr r=>some r)
set_option maxHeartbeats 8000000 in
theorem law9_SeekFixed_ok {t0:List Int}{o:List Int}{t2:Int}{r:Bool}(H:Zc n t0 o t2=some r):AI Tryz.prog 5 [D.sl (List.map eI t0),D.sl (List.map eI o),D.v (.int .i64 t2)] (D.v (.bool r)) true:=by
 unfold Zc at H;refine ZP Ep EN (rs:= #[.tmp 6]) Tryz.func5 ?_;refine Ay ?_;refine AT (ZT 1 ?_);obtain⟨j2,b1,H2⟩:=AL H;refine Z0 ?_;refine EB (xc b1) ?_;obtain⟨g,b3,H4⟩:=AL H2;refine Z0 ?_;refine EB (zg b3) ?_;obtain⟨l,b5,H6⟩:=AL H4;obtain⟨h7,h8,h9,e8⟩:=KB b5;have dk:0<=Int.toNat (if 20<(o.length:Int) then 20 else(o.length:Int)):=by omega
 have dl:Int.toNat (if 20<(o.length:Int) then 20 else(o.length:Int))<=(List.length o):=by omega
 have dm:List.take (Int.toNat (if 20<(o.length:Int) then 20 else(o.length:Int))) (List.map eI o)=List.map eI l:=by rw[e8];simp[Ia,N8]
 try simp only[Lk] at dk dl dm
 obtain⟨j3,e9,H15⟩:=AL H6;have y:=Y5 (A8 .i64 (NG h7 h8)) dk dl dm (Hk (n:=1) (f:=eI) (fun _=>rfl) o);refine Z1 y ?_;refine EB (xd e9) ?_;obtain⟨h,fa,H17⟩:=AL H15;refine Z1 y ?_;refine EB (yQ fa) ?_;refine Ds y ?_;refine AT (ZT 1 ?_);obtain⟨e,fb,H19⟩:=AL H17;refine Z1 y ?_;refine Cn (xe fb) ?_;refine Cw y ?_;obtain⟨j4,fi,H21⟩:=AL H19;refine Z1 y ?_;refine Cn (ya fi) ?_;refine Z1 y ?_;obtain⟨M,H23⟩ |⟨M,H23⟩:=Cg y H21
 ·obtain⟨j5,fn,H25⟩:=AL H23;refine Z1 M ?_;refine Cn (lv fn) ?_;refine Z1 M ?_;cases H25;exact Ax
 refine HL M ?_;refine AT (AT ?_);refine Fo M ?_;refine zi H23 (fun _ _ _=>⟨AK,AM,0⟩) (fun e_ E26 H27=> ?_) fun _ H27=> ?_;rotate_left
 ·refine ZT 1 ?_;obtain⟨j6,fq,H1630⟩:=AL H27;refine Z0 ?_;refine Cn (lv fq) ?_;refine Z0 ?_;cases H1630;exact Ax
 refine EG E26 (fun _ _ dn=>⟨upd 7 (.pt 0 0) (upd 8 (.pt 1 0) (upd 11 (.pt 2 0) (upd 12 (.fn 17 [.pt 0 0,.pt 1 0,.pt 2 0]) (upd 13 (.v (.int .i64 dn)) AK)))),upd 0 (some (.bx [.d (.sl (List.map AQ g)) false])) (upd 1 (some (.bx [.d (.sl (List.map AE h)) false])) (upd 2 (some (.bx [.v (.string e.2.2.type_),.v (.string e.2.2.id_),.v (.string e.2.2.rel)])) AM)),3⟩) (ZR [(0,11),(1,12),(2,22)]) fun c dn L28=> ?_
 refine Ay ?_;obtain⟨V,H823⟩ |⟨V,H823⟩:=As L28;rotate_left
 ·refine Z1 V ?_;cases H823;exact⟨_,rfl,ZR []⟩
 refine PM V ?_;obtain⟨q,fr,dp,H825⟩:=Hc H823;have dq:=Cr eS dp;simp only[Li,Lw,eS] at dq;have dr:=EQ dp;simp only[Lh,Lu,Nat.reduceAdd] at dr;obtain⟨s,fs,ds,H831⟩:=Hc H825;have dt:=Cr eS ds;simp only[Li,Lw,eS] at dt;have dw:=EQ ds;simp only[Lh,Lu,Nat.reduceAdd] at dw;have dy:=Y2 (Y6 V (A8 .i64 fr) dq dr (A8 .i64 fs) dt) dw;refine pH dy ?_;refine AT (AT ?_);refine Fo dy ?_;refine zj H831 (fun f _ (dS,d0)=>⟨kp [13] f (upd 7 (.pt 0 0) (upd 8 (.pt 1 0) (upd 11 (.pt 2 0) (upd 12 (.fn 17 [.pt 0 0,.pt 1 0,.pt 2 0]) (upd 14 (.pt 3 0) (upd 15 (.v (.bool dS)) (upd 16 (.v (.bool d0)) AK))))))),upd 0 (some (.bx [.d (.sl (List.map AQ g)) false])) (upd 1 (some (.bx [.d (.sl (List.map AE h)) false])) (upd 2 (some (.bx [.v (.string e.2.2.type_),.v (.string e.2.2.id_),.v (.string e.2.2.rel)])) (upd 3 (some (.bx [.v (.string q),.v (.string s)])) AM))),4⟩) (fun j7 E836 H837=> ?_) fun⟨dS,d0⟩ H837=> ?_
 ·refine EG E836 (fun f _ (d1,d2,d3)=>⟨kp [13] f (upd 7 (.pt 0 0) (upd 8 (.pt 1 0) (upd 11 (.pt 2 0) (upd 12 (.fn 17 [.pt 0 0,.pt 1 0,.pt 2 0]) (upd 14 (.pt 3 0) (upd 15 (.v (.bool d1)) (upd 16 (.v (.bool d2)) (upd 17 (.v (.int .i64 d3)) AK)))))))),upd 0 (some (.bx [.d (.sl (List.map AQ g)) false])) (upd 1 (some (.bx [.d (.sl (List.map AE h)) false])) (upd 2 (some (.bx [.v (.string e.2.2.type_),.v (.string e.2.2.id_),.v (.string e.2.2.rel)])) (upd 3 (some (.bx [.v (.string q),.v (.string s)])) AM))),4⟩) (ZR [(0,0),(1,1),(2,2),(3,16)]) fun c ⟨d1,d2,d3⟩ L838=> ?_
  refine Ay ?_;obtain⟨X,H872⟩ |⟨X,H872⟩:=As L838;rotate_left
  ·refine Z1 X ?_;cases H872;exact ZR [(0,0),(1,1),(2,2),(3,3)]
  refine PM X ?_;obtain⟨j,j8,j9,ft,H874⟩:=zI AE H872;refine Z1 (Y2 X ft) ?_;refine AT (AT ?_);refine zj H874 (fun f _ d4=>⟨kp [13,15,16,17] f (upd 7 (.pt 0 0) (upd 8 (.pt 1 0) (upd 11 (.pt 2 0) (upd 12 (.fn 17 [.pt 0 0,.pt 1 0,.pt 2 0]) (upd 14 (.pt 3 0) (upd 18 (.pt 4 0) (upd 87 (.v (.bool d4)) AK))))))),upd 0 (some (.bx [.d (.sl (List.map AQ g)) false])) (upd 1 (some (.bx [.d (.sl (List.map AE h)) false])) (upd 2 (some (.bx [.v (.string e.2.2.type_),.v (.string e.2.2.id_),.v (.string e.2.2.rel)])) (upd 3 (some (.bx [.v (.string q),.v (.string s)])) (upd 4 (some (.bx [.v (.string j.obj.type_),.v (.string j.obj.id_),.v (.string j.rel),.v (.string j.sub_.type_),.v (.string j.sub_.id_),.v (.string j.sub_.rel)])) AM)))),5⟩) (fun ke E879 H880=> ?_) fun d4 H880=> ?_
  ·refine AP ?_;obtain⟨Y,H882⟩ |⟨Y,H882⟩:=As E879
   ·obtain⟨kf,fv,H884⟩:=AL H882;refine Z1 Y ?_;refine Cn (nN fv) ?_;refine Z1 Y ?_;cases H884;exact ZR [(0,0),(1,1),(2,2),(3,3),(4,12)]
   refine Z1 Y ?_;cases H882;exact ZR [(0,0),(1,1),(2,2),(3,3),(4,12)]
  refine AP ?_;obtain⟨a9,H886⟩ |⟨a9,H886⟩:=As H880
  ·refine K5 a9 ?_;exact⟨_,H886,ZR [(0,0),(1,1),(2,2),(3,3)]⟩
  refine Z1 a9 ?_;refine AT ?_;refine zj H886 (fun f _ ea=>⟨kp [13,15,16,17] f (upd 7 (.pt 0 0) (upd 8 (.pt 1 0) (upd 11 (.pt 2 0) (upd 12 (.fn 17 [.pt 0 0,.pt 1 0,.pt 2 0]) (upd 14 (.pt 3 0) (upd 18 (.pt 4 0) (upd 19 (.v (.bool ea)) AK))))))),upd 0 (some (.bx [.d (.sl (List.map AQ g)) false])) (upd 1 (some (.bx [.d (.sl (List.map AE h)) false])) (upd 2 (some (.bx [.v (.string e.2.2.type_),.v (.string e.2.2.id_),.v (.string e.2.2.rel)])) (upd 3 (some (.bx [.v (.string q),.v (.string s)])) (upd 4 (some (.bx [.v (.string j.obj.type_),.v (.string j.obj.id_),.v (.string j.rel),.v (.string j.sub_.type_),.v (.string j.sub_.id_),.v (.string j.sub_.rel)])) AM)))),5⟩) (fun ki E887 H888=> ?_) fun ea H888=> ?_
  ·refine AP ?_;obtain⟨N,H890⟩ |⟨N,H890⟩:=As E887
   ·refine Z1 N ?_;cases H890;exact ZR [(0,0),(1,1),(2,2),(3,3),(4,4)]
   refine Z1 N ?_;obtain⟨ba,H892⟩ |⟨ba,H892⟩:=As H890
   ·refine Z1 (Y2 N ba) ?_;cases H892;exact ZR [(0,0),(1,1),(2,2),(3,3),(4,4)]
   obtain⟨kk,fz,H894⟩:=AL H892;have bb:=Y2 N ba;refine Z1 bb ?_;refine Sk bb (CO.of_pure (UM fz)) ?_;refine Z1 bb ?_;cases H894;exact ZR [(0,0),(1,1),(2,2),(3,3),(4,4)]
  refine ZT 3 ?_;refine Z0 ?_;obtain⟨C,H896⟩ |⟨C,H896⟩:=As H888
  ·refine Z1 C ?_;obtain⟨bd,H898⟩ |⟨bd,H898⟩:=As H896
   ·refine Z1 (Y2 C bd) ?_;exact⟨_,H898,ZR [(0,0),(1,1),(2,2),(3,3)]⟩
   have eb:=Y2 C bd;refine Z1 eb ?_;obtain⟨be,H900⟩ |⟨be,H900⟩:=Cg eb H898
   ·refine Z1 be ?_;exact⟨_,H900,ZR [(0,0),(1,1),(2,2),(3,3)]⟩
   refine Z1 be ?_;exact⟨_,H900,ZR [(0,0),(1,1),(2,2),(3,3)]⟩
  refine Z1 C ?_;obtain⟨bg,H902⟩ |⟨bg,H902⟩:=As H896
  ·have ed:=Y2 C bg;refine Z1 ed ?_;obtain⟨Z,H904⟩ |⟨Z,H904⟩:=Cg ed H902
   ·refine Z1 Z ?_;exact⟨_,H904,ZR [(0,0),(1,1),(2,2),(3,3)]⟩
   refine Z1 Z ?_;obtain⟨bl,H906⟩ |⟨bl,H906⟩:=Cg Z H904
   ·refine Z1 bl ?_;exact⟨_,H906,ZR [(0,0),(1,1),(2,2),(3,3)]⟩
   refine Z1 bl ?_;exact⟨_,H906,ZR [(0,0),(1,1),(2,2),(3,3)]⟩
  have ee:=Y2 C bg;refine Z1 ee ?_;obtain⟨aa,H908⟩ |⟨aa,H908⟩:=Cg ee H902
  ·refine Z1 aa ?_;exact⟨_,H908,ZR [(0,0),(1,1),(2,2),(3,3)]⟩
  refine Z1 aa ?_;obtain⟨bo,H910⟩ |⟨bo,H910⟩:=Cg aa H908
  ·refine Z1 bo ?_;exact⟨_,H910,ZR [(0,0),(1,1),(2,2),(3,3)]⟩
  refine Z1 bo ?_;exact⟨_,H910,ZR [(0,0),(1,1),(2,2),(3,3)]⟩
 refine AT (AT ?_);refine zj H837 (fun f _ ef=>⟨kp [13] f (upd 7 (.pt 0 0) (upd 8 (.pt 1 0) (upd 11 (.pt 2 0) (upd 12 (.fn 17 [.pt 0 0,.pt 1 0,.pt 2 0]) (upd 14 (.pt 3 0) (upd 141 (.v (.bool ef)) AK)))))),upd 0 (some (.bx [.d (.sl (List.map AQ g)) false])) (upd 1 (some (.bx [.d (.sl (List.map AE h)) false])) (upd 2 (some (.bx [.v (.string e.2.2.type_),.v (.string e.2.2.id_),.v (.string e.2.2.rel)])) (upd 3 (some (.bx [.v (.string q),.v (.string s)])) AM))),4⟩) (fun kn E913 H914=> ?_) fun ef H914=> ?_
 ·refine ZT 1 ?_;obtain⟨ko,f1,H916⟩:=AL E913;refine Z0 ?_;refine ff (CO.of_pure (UM f1)) ?_;refine Z0 ?_;obtain⟨O,H918⟩ |⟨O,H918⟩:=As H916
  ·obtain⟨kr,f2,H920⟩:=AL H918;refine Z1 O ?_;refine Sk O (CO.of_pure (UM f2)) ?_;refine Z1 O ?_;cases H920;exact ZR [(0,0),(1,1),(2,2),(3,3)]
  refine Z1 O ?_;cases H918;exact ZR [(0,0),(1,1),(2,2),(3,3)]
 refine AP ?_;obtain⟨br,H922⟩ |⟨br,H922⟩:=As H914
 ·refine Z1 br ?_;cases H922;cases H27;exact Ax
 refine HL br ?_;refine zi H922 (fun f _ _=>⟨kp [13] f (upd 7 (.pt 0 0) (upd 8 (.pt 1 0) (upd 11 (.pt 2 0) (upd 12 (.fn 17 [.pt 0 0,.pt 1 0,.pt 2 0]) AK)))),upd 0 (some (.bx [.d (.sl (List.map AQ g)) false])) (upd 1 (some (.bx [.d (.sl (List.map AE h)) false])) (upd 2 (some (.bx [.v (.string e.2.2.type_),.v (.string e.2.2.id_),.v (.string e.2.2.rel)])) AM)),3⟩) (fun ks E923 H924=> ?_) fun _ H924=> ?_;rotate_left
 ·refine Fc ?_;exact⟨_,H924,ZR [(0,0),(1,1),(2,2)]⟩
 refine EG E923 (fun f _ eg=>⟨kp [13] f (upd 7 (.pt 0 0) (upd 8 (.pt 1 0) (upd 11 (.pt 2 0) (upd 12 (.fn 17 [.pt 0 0,.pt 1 0,.pt 2 0]) (upd 14 (.pt 3 0) (upd 20 (.v (.int .i64 eg)) AK)))))),upd 0 (some (.bx [.d (.sl (List.map AQ g)) false])) (upd 1 (some (.bx [.d (.sl (List.map AE h)) false])) (upd 2 (some (.bx [.v (.string e.2.2.type_),.v (.string e.2.2.id_),.v (.string e.2.2.rel)])) (upd 3 (some (.bx [.v (.string q),.v (.string s)])) AM))),4⟩) (ZR [(0,0),(1,1),(2,2),(3,3)]) fun c eg L925=> ?_
 refine Ay ?_;obtain⟨ab,H1273⟩ |⟨ab,H1273⟩:=As L925;rotate_left
 ·refine Z1 ab ?_;cases H1273;exact⟨_,rfl,ZR [(0,0),(1,1),(2,2)]⟩
 refine PM ab ?_;obtain⟨kt,f3,eh,H1275⟩:=Hc H1273;have ek:=Cr eS eh;simp only[Li,Lw,eS] at ek;have el:=EQ eh;simp only[Lh,Lu,Nat.reduceAdd] at el;have ad:=Y4 ab (A8 .i64 f3) ek el;refine Cw ad ?_;obtain⟨w,f4,H1281⟩:=AL H1275;refine Z1 ad ?_;refine Cn (QP f4) ?_;refine HL ad ?_;obtain⟨ag,H1283⟩ |⟨ag,H1283⟩:=Cg ad H1281;rotate_left
 ·refine Z1 ag ?_;cases H1283;cases H924;cases H27;exact Ax
 refine HL ag ?_;refine AT (AT ?_);refine Fo ag ?_;refine F7 H1283 (fun f _ ak bs=>⟨kp [13,20,21] f (upd 7 (.pt 0 0) (upd 8 (.pt 1 0) (upd 11 (.pt 2 0) (upd 12 (.fn 17 [.pt 0 0,.pt 1 0,.pt 2 0]) (upd 14 (.pt 3 0) (upd 24 (Ac 4 bs (List.map eB ak)) AK)))))),upd 0 (some (.bx [.d (.sl (List.map AQ g)) false])) (upd 1 (some (.bx [.d (.sl (List.map AE h)) false])) (upd 2 (some (.bx [.v (.string e.2.2.type_),.v (.string e.2.2.id_),.v (.string e.2.2.rel)])) (upd 3 (some (.bx [.v (.string q),.v (.string s)])) (upd 4 (A6 1 bs false (List.map eB ak)) AM)))),5⟩) (fun kv E1284 H1285=> ?_) fun ak bs H1285=> ?_;rotate_left
 ·refine ZT 3 ?_;refine Z0 ?_;obtain⟨x,H1610⟩ |⟨x,H1610⟩:=As H1285
  ·refine Ds x ?_;cases H1610;cases H924;cases H27;exact Ax
  obtain⟨kw,f5,H1612⟩:=AL H1610;refine Z1 x ?_;refine ci [0,1,2] (by intro f6 E;have bx:=E 0 (by simp);have b0:=E 1 (by simp);have b2:=E 2 (by simp);(try simp -implicitDefEqProofs only[go_sem,LT,Int.reduceToNat,Int.reduceLT,Int.reduceLE,Int.reduceBEq,Int.reduceBNe,Nat.reduceLT,Nat.reduceBEq,Int.reduceEq,Nat.reduceEqDiff,Nat.reduceAdd,Nat.reduceSub,Nat.reduceMul,Nat.reduceLeDiff,reduceCtorEq, ↓reduceIte,AE,CA,AQ,C3,AR,Ah,AX,AH,DX,Ar,Ae,x] at bx);(try simp -implicitDefEqProofs only[go_sem,LT,Int.reduceToNat,Int.reduceLT,Int.reduceLE,Int.reduceBEq,Int.reduceBNe,Nat.reduceLT,Nat.reduceBEq,Int.reduceEq,Nat.reduceEqDiff,Nat.reduceAdd,Nat.reduceSub,Nat.reduceMul,Nat.reduceLeDiff,reduceCtorEq, ↓reduceIte,AE,CA,AQ,C3,AR,Ah,AX,AH,DX,Ar,Ae,x] at b0);(try simp -implicitDefEqProofs only[go_sem,LT,Int.reduceToNat,Int.reduceLT,Int.reduceLE,Int.reduceBEq,Int.reduceBNe,Nat.reduceLT,Nat.reduceBEq,Int.reduceEq,Nat.reduceEqDiff,Nat.reduceAdd,Nat.reduceSub,Nat.reduceMul,Nat.reduceLeDiff,reduceCtorEq, ↓reduceIte,AE,CA,AQ,C3,AR,Ah,AX,AH,DX,Ar,Ae,x] at b2);first |(simp -implicitDefEqProofs only[go_sem,LT,Int.reduceToNat,Int.reduceLT,Int.reduceLE,Int.reduceBEq,Int.reduceBNe,Nat.reduceLT,Nat.reduceBEq,Int.reduceEq,Nat.reduceEqDiff,Nat.reduceAdd,Nat.reduceSub,Nat.reduceMul,Nat.reduceLeDiff,reduceCtorEq, ↓reduceIte,AE,CA,AQ,C3,AR,Ah,AX,AH,DX,Ar,Ae,x,bx,b0,b2];done) |(simp -implicitDefEqProofs only[go_sem,LT,Int.reduceToNat,Int.reduceLT,Int.reduceLE,Int.reduceBEq,Int.reduceBNe,Nat.reduceLT,Nat.reduceBEq,Int.reduceEq,Nat.reduceEqDiff,Nat.reduceAdd,Nat.reduceSub,Nat.reduceMul,Nat.reduceLeDiff,reduceCtorEq, ↓reduceIte,AE,CA,AQ,C3,AR,Ah,AX,AH,DX,Ar,Ae,x,bx,b0,b2];rfl)) (CO.of_pure (UM f5)) (by first |exact .inr rfl |exact .inl rfl) ?_;obtain⟨ky,kz,f7,f8,H1617⟩:=zI eB H1612;have gb:=EQ f7;have em:0<ak.length:=by omega
  have en:=Y5 x f8 gb (YV (f:=eB) em) (YO (f:=eB) em);refine Ds en ?_;obtain⟨b4,H1624⟩ |⟨b4,H1624⟩:=Cg en H1617
  ·refine Z1 b4 ?_;exact⟨_,H1624,ZR [(0,0),(1,1),(2,2),(3,3)]⟩
  refine Z1 b4 ?_;cases H1624;cases H924;cases H27;exact Ax
 refine Ej E1284 (fun f _ (d,eo) k=>⟨kp [13,20,21] f (upd 7 (.pt 0 0) (upd 8 (.pt 1 0) (upd 11 (.pt 2 0) (upd 12 (.fn 17 [.pt 0 0,.pt 1 0,.pt 2 0]) (upd 14 (.pt 3 0) (upd 22 (.pt 4 0) (upd 24 (Ac 5 k (List.map eB d)) (upd 25 (.v (.int .i64 eo)) AK)))))))),upd 0 (some (.bx [.d (.sl (List.map AQ g)) false])) (upd 1 (some (.bx [.d (.sl (List.map AE h)) false])) (upd 2 (some (.bx [.v (.string e.2.2.type_),.v (.string e.2.2.id_),.v (.string e.2.2.rel)])) (upd 3 (some (.bx [.v (.string q),.v (.string s)])) (upd 4 (some (.bx [.v (.string w.1.name),.d (.sl (List.map AR w.1.subs)) false,.d (.sl (List.map AX w.1.expr)) false])) (upd 5 (A6 1 k false (List.map eB d)) AM))))),6⟩) 0 (ZR [(0,0),(1,1),(2,2),(3,3),(4,19)]) fun c ⟨d,eo⟩ k L1286=> ?_
 refine Ay ?_;obtain⟨ao,H1372⟩ |⟨ao,H1372⟩:=As L1286;rotate_left
 ·refine Z1 ao ?_;cases H1372;exact⟨k,ZR [(0,0),(1,1),(2,2),(3,3),(4,5)]⟩
 refine PM ao ?_;obtain⟨b6,k0,k1,ge,H1374⟩:=zI AX H1372;have P:=Y2 ao ge;refine HL P ?_;refine AT (ZT 1 ?_);refine Z1 P ?_;refine CS ?_;refine AT (ZT 1 ?_);refine Z1 P ?_;obtain⟨Q,H1380⟩ |⟨Q,H1380⟩:=As H1374
 ·refine ET (by rfl) Q ?_;have ap:=Y2 P Q;refine Z1 ap ?_;refine ZT 4 ?_;obtain⟨gh,gi,H1382⟩:=AL H1380;refine Z1 ap ?_;refine Sk ap (CO.of_pure (UM gi)) ?_;obtain⟨aq,gn,H1384⟩:=AL H1382;obtain⟨b7,eq⟩:=Ee gn;have b7:d.length+1<=4294967296:=b7;have go:List.map eB d++[[.v (.bool gh)]]=List.map eB aq:=ER eB eq;have gs:d.length+1=aq.length:=ES eq;have gL:aq.length<=4294967296:=by omega
  have k2:0<aq.length:=by omega
  refine Z1 (Y5 ap b7 go gs gL) ?_;rcases d with _ |⟨q0,q1⟩
  ·try simp only[Lw,CW,CZ]
   exact⟨_,0,H1384,ZR [(0,0),(1,1),(2,2),(3,3),(4,4),(5,32)]⟩
  try simp only[Li,CW,CZ]
  exact⟨_,(k+1),H1384,ZR [(0,0),(1,1),(2,2),(3,3),(4,4),(5,5)]⟩
 refine DN (by rfl) Q ?_;have b8:=Y2 P Q;refine HL b8 ?_;obtain⟨R,H1392⟩ |⟨R,H1392⟩:=As H1380
 ·refine ET (by rfl) R ?_;have b9:=Y2 b8 R;refine HL b9 ?_;refine AT (ZT 1 ?_);obtain⟨k3,gR,H1394⟩:=AL H1392;refine Z1 b9 ?_;refine Cn (yd gR) ?_;refine KG b9 ?_;refine F7 H1394 (fun f _ cb ar=>⟨kp [13,20,21,25] f (upd 7 (.pt 0 0) (upd 8 (.pt 1 0) (upd 11 (.pt 2 0) (upd 12 (.fn 17 [.pt 0 0,.pt 1 0,.pt 2 0]) (upd 14 (.pt 3 0) (upd 22 (.pt 4 0) (upd 24 (Ac 5 ar (List.map eB d)) (upd 28 (.v (.bool cb)) AK)))))))),upd 0 (some (.bx [.d (.sl (List.map AQ g)) false])) (upd 1 (some (.bx [.d (.sl (List.map AE h)) false])) (upd 2 (some (.bx [.v (.string e.2.2.type_),.v (.string e.2.2.id_),.v (.string e.2.2.rel)])) (upd 3 (some (.bx [.v (.string q),.v (.string s)])) (upd 4 (some (.bx [.v (.string w.1.name),.d (.sl (List.map AR w.1.subs)) false,.d (.sl (List.map AX w.1.expr)) false])) (upd 5 (A6 1 ar false (List.map eB d)) AM))))),6⟩) (fun k4 E1395 H1396=> ?_) fun cb ar H1396=> ?_
  ·refine Ej E1395 (fun f _ (er,es) F=>⟨kp [13,20,21,25,29] f (upd 7 (.pt 0 0) (upd 8 (.pt 1 0) (upd 11 (.pt 2 0) (upd 12 (.fn 17 [.pt 0 0,.pt 1 0,.pt 2 0]) (upd 14 (.pt 3 0) (upd 22 (.pt 4 0) (upd 24 (Ac 5 F (List.map eB d)) (upd 26 (.pt 6 0) (upd 28 (.v (.bool er)) (upd 30 (.v (.int .i64 es)) AK)))))))))),upd 0 (some (.bx [.d (.sl (List.map AQ g)) false])) (upd 1 (some (.bx [.d (.sl (List.map AE h)) false])) (upd 2 (some (.bx [.v (.string e.2.2.type_),.v (.string e.2.2.id_),.v (.string e.2.2.rel)])) (upd 3 (some (.bx [.v (.string q),.v (.string s)])) (upd 4 (some (.bx [.v (.string w.1.name),.d (.sl (List.map AR w.1.subs)) false,.d (.sl (List.map AX w.1.expr)) false])) (upd 5 (A6 1 F false (List.map eB d)) (upd 6 (some (.bx [.v (.int .i64 b6.kind),.v (.string b6.a),.v (.string b6.b)])) AM)))))),7⟩) k (ZR [(0,0),(1,1),(2,2),(3,3),(4,4),(5,5),(6,16)]) fun c ⟨er,es⟩ F L1397=> ?_
   refine AP ?_;obtain⟨z,H1416⟩ |⟨z,H1416⟩:=As L1397
   ·obtain⟨k5,S,k6,L,H1418⟩:=zI AR H1416;have cf:=Y2 z L;refine Ds cf ?_;obtain⟨A,H1424⟩ |⟨A,H1424⟩:=As H1418
    ·have g0:=Y2 cf A;refine Ds g0 ?_;exact⟨_,F,H1424,ZR [(0,0),(1,1),(2,2),(3,3),(4,4),(5,5),(6,6)]⟩
    obtain⟨k7,g1,H1426⟩:=AL H1424;have av:=Y2 cf A;refine Z1 av ?_;refine EB (nN g1) ?_;refine Z1 av ?_;obtain⟨B,H1428⟩ |⟨B,H1428⟩:=As H1426
    ·obtain⟨k8,g2,H1430⟩:=AL H1428;have et:=Y2 av B;refine Z1 et ?_;refine ci [0,1,2] (by intro f6 E;have ch:=E 0 (by simp);have cp:=E 1 (by simp);have cs:=E 2 (by simp);(try simp -implicitDefEqProofs only[go_sem,LT,Int.reduceToNat,Int.reduceLT,Int.reduceLE,Int.reduceBEq,Int.reduceBNe,Nat.reduceLT,Nat.reduceBEq,Int.reduceEq,Nat.reduceEqDiff,Nat.reduceAdd,Nat.reduceSub,Nat.reduceMul,Nat.reduceLeDiff,reduceCtorEq, ↓reduceIte,AE,CA,AQ,C3,AR,Ah,AX,AH,DX,Ar,Ae,z,A8 .i64 S,L,A,B] at ch);(try simp -implicitDefEqProofs only[go_sem,LT,Int.reduceToNat,Int.reduceLT,Int.reduceLE,Int.reduceBEq,Int.reduceBNe,Nat.reduceLT,Nat.reduceBEq,Int.reduceEq,Nat.reduceEqDiff,Nat.reduceAdd,Nat.reduceSub,Nat.reduceMul,Nat.reduceLeDiff,reduceCtorEq, ↓reduceIte,AE,CA,AQ,C3,AR,Ah,AX,AH,DX,Ar,Ae,z,A8 .i64 S,L,A,B] at cp);(try simp -implicitDefEqProofs only[go_sem,LT,Int.reduceToNat,Int.reduceLT,Int.reduceLE,Int.reduceBEq,Int.reduceBNe,Nat.reduceLT,Nat.reduceBEq,Int.reduceEq,Nat.reduceEqDiff,Nat.reduceAdd,Nat.reduceSub,Nat.reduceMul,Nat.reduceLeDiff,reduceCtorEq, ↓reduceIte,AE,CA,AQ,C3,AR,Ah,AX,AH,DX,Ar,Ae,z,A8 .i64 S,L,A,B] at cs);first |(simp -implicitDefEqProofs only[go_sem,LT,Int.reduceToNat,Int.reduceLT,Int.reduceLE,Int.reduceBEq,Int.reduceBNe,Nat.reduceLT,Nat.reduceBEq,Int.reduceEq,Nat.reduceEqDiff,Nat.reduceAdd,Nat.reduceSub,Nat.reduceMul,Nat.reduceLeDiff,reduceCtorEq, ↓reduceIte,AE,CA,AQ,C3,AR,Ah,AX,AH,DX,Ar,Ae,z,A8 .i64 S,L,A,B,ch,cp,cs];done) |(simp -implicitDefEqProofs only[go_sem,LT,Int.reduceToNat,Int.reduceLT,Int.reduceLE,Int.reduceBEq,Int.reduceBNe,Nat.reduceLT,Nat.reduceBEq,Int.reduceEq,Nat.reduceEqDiff,Nat.reduceAdd,Nat.reduceSub,Nat.reduceMul,Nat.reduceLeDiff,reduceCtorEq, ↓reduceIte,AE,CA,AQ,C3,AR,Ah,AX,AH,DX,Ar,Ae,z,A8 .i64 S,L,A,B,ch,cp,cs];rfl)) (CO.of_pure (UM g2)) (by first |exact .inr rfl |exact .inl rfl) ?_;refine Ds et ?_;exact⟨_,F,H1430,ZR [(0,0),(1,1),(2,2),(3,3),(4,4),(5,5),(6,6)]⟩
    have g3:=Y2 av B;refine Ds g3 ?_;exact⟨_,F,H1428,ZR [(0,0),(1,1),(2,2),(3,3),(4,4),(5,5),(6,6)]⟩
   refine Z1 z ?_;cases H1416;exact⟨F,ZR [(0,0),(1,1),(2,2),(3,3),(4,4),(5,5)]⟩
  refine ZT 4 ?_;obtain⟨aE,g4,H1435⟩:=AL H1396;obtain⟨cx,ew⟩:=Ee g4;have cx:d.length+1<=4294967296:=cx;have g5:List.map eB d++[[.v (.bool cb)]]=List.map eB aE:=ER eB ew;have g6:d.length+1=aE.length:=ES ew;have g7:aE.length<=4294967296:=by omega
  have k9:0<aE.length:=by omega
  refine Z1 (Y4 cx g5 g6 g7) ?_;rcases d with _ |⟨q0,q1⟩
  ·try simp only[Lw,CW,CZ]
   exact⟨_,0,H1435,ZR [(0,0),(1,1),(2,2),(3,3),(4,4),(5,9)]⟩
  try simp only[Li,CW,CZ]
  exact⟨_,(ar+1),H1435,ZR [(0,0),(1,1),(2,2),(3,3),(4,4),(5,5)]⟩
 refine DN (by rfl) R ?_;have cN:=Y2 b8 R;refine Z1 cN ?_;refine ZT 4 ?_;refine Z1 cN ?_;obtain⟨T,H1444⟩ |⟨T,H1444⟩:=Cg cN H1392
 ·refine Z1 T ?_;obtain⟨a0,H1446⟩ |⟨a0,H1446⟩:=As H1444
  ·have g8:d= []:=LV (of_decide_eq_true a0);subst g8;simp only[Lw,Rb,T4];try simp only[FE,FD]
   obtain⟨la,g9,H1449⟩:=AL H1446;obtain⟨lb,ld,ha,le⟩:=KB g9;simp only[Lu,N7] at ha;have lf:0<=Int.toNat (i64.wrap ((([]:List Bool).length:Int)-2)):=(by first |omega |(simp only[Lu,N7] at *;omega));have lm:Int.toNat (i64.wrap ((([]:List Bool).length:Int)-2))<=0:=by first |omega |(simp only[Lu,N7] at *;omega)
   cases H1449
  have G:0<d.length:=by have:=of_decide_eq_false a0;omega
  have hb:∀i,FE i (List.map eB d)= [i]:=fun i=>by cases p:d with |nil=>(rw[p] at G;simp at G) |cons a r=>rfl
  have hc:∀b,FD b (List.map eB d)=b:=fun b=>by cases p:d with |nil=>(rw[p] at G;simp at G) |cons a r=>rfl
  obtain⟨t,hd,H1460⟩:=AL H1446;obtain⟨he,hf,lo,ex⟩:=KB hd;have ey:0<=Int.toNat (i64.wrap ((d.length:Int)-2)):=by omega
  have ez:Int.toNat (i64.wrap ((d.length:Int)-2))<=d.length:=by omega
  have eA:Int.toNat (i64.wrap ((d.length:Int)-2))-0=t.length:=by rw[ex];simp;try omega
  have eD:List.take t.length (List.map eB d)=List.map eB t:=WJ eB ex;try simp only[Lk] at ey ez eD eA
  have hg:t.length<=d.length:=by omega
  obtain⟨lp,lq,hh,hi,H1470⟩:=zI eB H1460;have hj:=EQ hh;have c0:=Y3 (Y6 T a0 hb hc G (YV (f:=eB) G)) (Y6 (YO (f:=eB) G) (A8 .i64 (NG he hf)) ey ez eA eD) (Y3 hg hi hj);refine Z1 c0 ?_;obtain⟨c1,H1476⟩ |⟨c1,H1476⟩:=As H1470
  ·obtain⟨a1,hk,H1478⟩:=AL H1476;obtain⟨c2,eF⟩:=Ee hk;have c2:t.length+1<=4294967296:=c2;have hl:List.map eB t++[[.v (.bool true)]]=List.map eB a1:=ER eB eF;have hm:t.length+1=a1.length:=ES eF;have hn:a1.length<=4294967296:=(by omega);have lr:0<a1.length:=(by omega);have ho:=Y6 c0 c1 c2 hl hm hn;refine Ds ho ?_;exact⟨_,(k+1),H1478,ZR [(0,0),(1,1),(2,2),(3,3),(4,4),(5,5)]⟩
  obtain⟨hp,ls,hq,hr,H1486⟩:=zI eB H1476;have hs:=EQ hq;obtain⟨a2,ht,H1492⟩:=AL H1486;obtain⟨c3,eH⟩:=Ee ht;have c3:t.length+1<=4294967296:=c3;have hu:List.map eB t++[[.v (.bool hp)]]=List.map eB a2:=ER eB eH;have hv:t.length+1=a2.length:=ES eH;have hw:a2.length<=4294967296:=by omega
  have lt:0<a2.length:=by omega
  have hx:=Y2 (Y6 c0 c1 hr hs c3 hu) (Y2 hv hw);refine Ds hx ?_;exact⟨_,(k+1),H1492,ZR [(0,0),(1,1),(2,2),(3,3),(4,4),(5,5)]⟩
 refine Z1 T ?_;obtain⟨U,H1500⟩ |⟨U,H1500⟩:=Cg T H1444
 ·refine Z1 U ?_;obtain⟨a3,H1502⟩ |⟨a3,H1502⟩:=As H1500
  ·have hy:d= []:=LV (of_decide_eq_true a3);subst hy;simp only[Lw,Rb,T4];try simp only[FE,FD]
   obtain⟨lw,hz,H1505⟩:=AL H1502;obtain⟨lx,ly,hA,lB⟩:=KB hz;simp only[Lu,N7] at hA;have lT:0<=Int.toNat (i64.wrap ((([]:List Bool).length:Int)-2)):=(by first |omega |(simp only[Lu,N7] at *;omega));have lZ:Int.toNat (i64.wrap ((([]:List Bool).length:Int)-2))<=0:=by first |omega |(simp only[Lu,N7] at *;omega)
   cases H1505
  have I:0<d.length:=by have:=of_decide_eq_false a3;omega
  have hB:∀i,FE i (List.map eB d)= [i]:=fun i=>by cases p:d with |nil=>(rw[p] at I;simp at I) |cons a r=>rfl
  have hC:∀b,FD b (List.map eB d)=b:=fun b=>by cases p:d with |nil=>(rw[p] at I;simp at I) |cons a r=>rfl
  obtain⟨u,hD,H1516⟩:=AL H1502;obtain⟨hE,hF,l0,eK⟩:=KB hD;have eN:0<=Int.toNat (i64.wrap ((d.length:Int)-2)):=by omega
  have eP:Int.toNat (i64.wrap ((d.length:Int)-2))<=d.length:=by omega
  have eR:Int.toNat (i64.wrap ((d.length:Int)-2))-0=u.length:=by rw[eK];simp;try omega
  have eU:List.take u.length (List.map eB d)=List.map eB u:=WJ eB eK;try simp only[Lk] at eN eP eU eR
  have hG:u.length<=d.length:=by omega
  obtain⟨l1,l2,hH,hI,H1526⟩:=zI eB H1516;have hJ:=EQ hH;have c4:=Y3 (Y6 U a3 hB hC I (YV (f:=eB) I)) (Y6 (YO (f:=eB) I) (A8 .i64 (NG hE hF)) eN eP eR eU) (Y3 hG hI hJ);refine Z1 c4 ?_;obtain⟨c5,H1532⟩ |⟨c5,H1532⟩:=As H1526
  ·obtain⟨hK,l3,hL,hM,H1534⟩:=zI eB H1532;have hN:=EQ hL;obtain⟨a4,hO,H1540⟩:=AL H1534;obtain⟨c6,eV⟩:=Ee hO;have c6:u.length+1<=4294967296:=c6;have hP:List.map eB u++[[.v (.bool hK)]]=List.map eB a4:=ER eB eV;have hQ:u.length+1=a4.length:=ES eV;have hR:a4.length<=4294967296:=(by omega);have l4:0<a4.length:=(by omega);have hS:=Y2 (Y6 c4 c5 hM hN c6 hP) (Y2 hQ hR);refine Ds hS ?_;exact⟨_,(k+1),H1540,ZR [(0,0),(1,1),(2,2),(3,3),(4,4),(5,5)]⟩
  obtain⟨a5,hT,H1548⟩:=AL H1532;obtain⟨c7,e0⟩:=Ee hT;have c7:u.length+1<=4294967296:=c7;have hU:List.map eB u++[[.v (.bool false)]]=List.map eB a5:=ER eB e0;have hV:u.length+1=a5.length:=ES e0;have hW:a5.length<=4294967296:=by omega
  have l5:0<a5.length:=by omega
  have hX:=Y6 c4 c5 c7 hU hV hW;refine Ds hX ?_;exact⟨_,(k+1),H1548,ZR [(0,0),(1,1),(2,2),(3,3),(4,4),(5,5)]⟩
 refine Z1 U ?_;obtain⟨a6,H1556⟩ |⟨a6,H1556⟩:=As H1500
 ·have hZ:d= []:=LV (of_decide_eq_true a6);subst hZ;simp only[Lw,Rb,T4];try simp only[FE,FD]
  obtain⟨l6,h0,H1559⟩:=AL H1556;obtain⟨l7,l8,h1,md⟩:=KB h0;simp only[Lu,N7] at h1;have mn:0<=Int.toNat (i64.wrap ((([]:List Bool).length:Int)-2)):=by first |omega |(simp only[Lu,N7] at *;omega)
  have mo:Int.toNat (i64.wrap ((([]:List Bool).length:Int)-2))<=0:=by first |omega |(simp only[Lu,N7] at *;omega)
  cases H1559
 have J:0<d.length:=by have:=of_decide_eq_false a6;omega
 have h2:∀i,FE i (List.map eB d)= [i]:=fun i=>by cases p:d with |nil=>(rw[p] at J;simp at J) |cons a r=>rfl
 have h3:∀b,FD b (List.map eB d)=b:=fun b=>by cases p:d with |nil=>(rw[p] at J;simp at J) |cons a r=>rfl
 obtain⟨v,h4,H1570⟩:=AL H1556;obtain⟨h5,h6,mp,e1⟩:=KB h4;have e2:0<=Int.toNat (i64.wrap ((d.length:Int)-2)):=by omega
 have e3:Int.toNat (i64.wrap ((d.length:Int)-2))<=d.length:=by omega
 have e4:Int.toNat (i64.wrap ((d.length:Int)-2))-0=v.length:=by rw[e1];simp;try omega
 have e5:List.take v.length (List.map eB d)=List.map eB v:=WJ eB e1;try simp only[Lk] at e2 e3 e5 e4
 have ia:v.length<=d.length:=by omega
 obtain⟨ms,mt,ib,ie,H1580⟩:=zI eB H1570;have ih:=EQ ib;have c9:=Y3 (Y6 U a6 h2 h3 J (YV (f:=eB) J)) (Y6 (YO (f:=eB) J) (A8 .i64 (NG h5 h6)) e2 e3 e4 e5) (Y3 ia ie ih);refine Z1 c9 ?_;obtain⟨da,H1586⟩ |⟨da,H1586⟩:=As H1580
 ·obtain⟨ik,mw,im,it,H1588⟩:=zI eB H1586;have ix:=EQ im;obtain⟨a7,i0,H1594⟩:=AL H1588;obtain⟨dd,e6⟩:=Ee i0;have dd:v.length+1<=4294967296:=dd;have i1:List.map eB v++[[.v (.bool (!ik))]]=List.map eB a7:=ER eB e6;have i2:v.length+1=a7.length:=ES e6;have i3:a7.length<=4294967296:=by omega
  have mx:0<a7.length:=by omega
  have i4:=Y2 (Y6 c9 da it ix dd i1) (Y2 i2 i3);refine Ds i4 ?_;exact⟨_,(k+1),H1594,ZR [(0,0),(1,1),(2,2),(3,3),(4,4),(5,5)]⟩
 obtain⟨a8,i5,H1602⟩:=AL H1586;obtain⟨df,e7⟩:=Ee i5;have df:v.length+1<=4294967296:=df;have i6:List.map eB v++[[.v (.bool false)]]=List.map eB a8:=ER eB e7;have i7:v.length+1=a8.length:=ES e7;have j0:a8.length<=4294967296:=by omega
 have mN:0<a8.length:=by omega
 have j1:=Y6 c9 da df i6 i7 j0;refine Ds j1 ?_;exact⟨_,(k+1),H1602,ZR [(0,0),(1,1),(2,2),(3,3),(4,4),(5,5)]⟩
theorem zQ {l:List AD}(h:l.length<=4294967296):aF n l=some (tO.ofL l):=if_pos h
section
variable {K α:Type}[BEq K][LawfulBEq K]
theorem fy (k k':K)(a:List α):∀b:List (K × List α),qf_ k [] (Aw k' a b)=if k==k' then qf_ k [] b++a else qf_ k [] b
 |[]=>by
  cases h:(k==k')<;>simp[Aw,qf_,mget,h]
 |p::r=>by
  have c:=fy k k' a r;grind [Aw,qf_,mget]
omit [LawfulBEq K] in
theorem pX (k:K)(a:List α):∀b:List (K × List α),(Aw k a b).length<=b.length+1
 |[]=>by simp[Aw]
 |p::r=>by
  have c:=pX k a r;unfold Aw;split<;>simp <;>omega
structure small (m:Nat) (es:List (K × List α)):Prop where
 l:es.length<=m
 g:∀k,(qf_ k [] es).length<=m
theorem small.add {es:List (K × List α)}(h:small m es)(k:K)(y:α):small (m+1) (Aw k [y] es):=⟨Lv (pX k [y] es) (Nat.add_le_add_right h.l 1),fun a=>by
 rw[fy]
 have:=h.g a;grind⟩
omit [LawfulBEq K] in
theorem small.up {a:Nat}{es:List (K × List α)}(h:small m es)(k:m<=a):small a es:=⟨Lv h.l k,fun x=>Lv (h.g x) k⟩
omit [LawfulBEq K] in
theorem PP {m:Nat}:small m ([]:List (K × List α)):=⟨Lg _,fun _=>Lg _⟩
omit [LawfulBEq K] in
theorem small.fam {es:List (K × List α)}(h:small m es)(a:m<4294967296)(k:K):Fj k es=true:=by
 have b:=h.l;have c:=h.g k;simp only[Fj,Ln,decide_eq_true_eq];omega
omit [LawfulBEq K] in
theorem small.dec {es:List (K × List α)}(h:small m es)(a:m<=4294967296):decide (es.length<=4294967296)=true:=decide_eq_true (Lv h.l a)
theorem pY {b:Type}(c:b->K)(d:b->α)(k:K):∀(l:List b) (a:List (K × List α)),qf_ k [] (l.foldl (fun a t=>Aw (c t) [d t] a) a)=qf_ k [] a++(l.filter fun t=>k==c t).map d
 |[],a=>by simp
 |t::r,a=>by
  rw[Bs,pY c d k r,fy,Ok];split<;>simp
theorem Xa {b:Type}(c:b->K)(d:b->α):∀(l:List b) (m:Nat) (a:List (K × List α)),small m a->small (m+l.length) (l.foldl (fun a t=>Aw (c t) [d t] a) a)
 |[],m,a,h=>h
 |t::r,m,a,h=>by
  have:=Xa c d r (m+1) _ (h.add (c t) (d t));grind
end
theorem GX {a:Type}{c:Bool}{k:Option a}(h:c=true):DM c k=k:=by
 unfold DM;rw[if_pos h]
theorem zS {a:Type}(x:List a)(h:x.length<=4294967296):(if (decide (x.length=0)) then some [] else DM (decide (x.length<=4294967296))<|some x)=some x:=by
 by_cases b:x.length=0
 ·grind
 rw[decide_eq_false b,if_neg (by decide),decide_eq_true h];rfl
def kR (t:AD):AB:=⟨t.obj,t.rel⟩
def Jx (t:AD):Bool:=decide (t.sub_.rel={ data:= #[] })
def Up (l:List AD)(es:List (AB × List AN)):List (AB × List AN):=l.foldl (fun es t=>Aw (kR t) [t.sub_] es) es
def JJ (l:List AD)(es:List (ByteArray × List ByteArray)):List (ByteArray × List ByteArray):=l.foldl (fun es t=>Aw t.obj.type_ [t.obj.id_] es) es
def JK (l:List AD)(es:List (AN × List AB)):List (AN × List AB):=l.foldl (fun es t=>Aw t.sub_ [kR t] es) es
def aN (l:List AD)(es:List (ByteArray × List ByteArray)):List (ByteArray × List ByteArray):=(l.filter Jx).foldl (fun es t=>Aw t.sub_.type_ [t.sub_.id_] es) es
theorem zT {j:List AD}{t:AD}{a:List (AB × List AN)}{b:List (ByteArray × List ByteArray)}{c:List (AN × List AB)}{d:List (ByteArray × List ByteArray)}(e:small m a)(f:small m b)(g:small m c)(h:small m d)(q:m+1<4294967296)(k):
  Xl n j (a,b,c,d) t k=k (Aw (kR t) [t.sub_] a,Aw t.obj.type_ [t.obj.id_] b,Aw t.sub_ [kR t] c,if Jx t then Aw t.sub_.type_ [t.sub_.id_] d else d):=by
 have l:decide ((Aw (⟨t.obj,t.rel⟩:AB) [t.sub_] a).length<=4294967296)=true:=(e.add (kR t) t.sub_).dec (by omega);have i:=(f.add t.obj.type_ t.obj.id_).dec (by omega);have o:decide ((Aw t.sub_ [(⟨t.obj,t.rel⟩:AB)] c).length<=4294967296)=true:=(g.add t.sub_ (kR t)).dec (by omega);have p:=(h.add t.sub_.type_ t.sub_.id_).dec (by omega);unfold Xl;dsimp only;rw[GX (e.dec (by omega)),GX (f.dec (by omega)),GX (g.dec (by omega)),GX (h.dec (by omega)),GX (e.fam (by omega) _),Zo,GX l,GX (g.fam (by omega) _),Zo,GX o,GX (f.fam (by omega) _),Zo,DZ,GX i,GX i];unfold Jx kR;cases decide (t.sub_.rel={ data:= #[] })
 ·rfl
 rw[if_pos rfl,if_pos rfl,GX (h.fam (by omega) _),Zo,GX p]
theorem pZ (n:Nat)(f:List AD):∀(l:List AD) (m:Nat) (a:List (AB × List AN)) (b:List (ByteArray × List ByteArray)) (c:List (AN × List AB)) (d:List (ByteArray × List ByteArray)),small m a->small m b->small m c->small m d->m+l.length<4294967296->
  Dl (Xl n f) (Xm n f) l (a,b,c,d)=some (Up l a,JJ l b,JK l c,aN l d)
 |[],m,a,b,c,d,g,h,i,e,j=>by
  rw[Lu] at j;show Xm n f (a,b,c,d)=_;unfold Xm;dsimp only;rw[GX (g.dec (by omega)),GX (h.dec (by omega)),GX (i.dec (by omega)),GX (e.dec (by omega))];rfl
 |t::r,m,a,b,c,d,g,h,i,e,j=>by
  rw[Lh] at j;have k:small (m+1) (if Jx t then Aw t.sub_.type_ [t.sub_.id_] d else d):=by
   split
   ·exact e.add _ _
   exact e.up (BB m)
  rw[Dl,zT g h i e (by omega),pZ n f r (m+1) _ _ _ _ (g.add _ _) (h.add _ _) (i.add _ _) k (by omega)];unfold Up JJ JK aN;grind
def Ea (l:List AD):C8:=⟨⟨Up (tO.ofL l) [],JJ (tO.ofL l) []⟩,⟨JK (tO.ofL l) [],aN (tO.ofL l) []⟩⟩
theorem zU {l:List AD}(h:l.length<=1000000)(f:1000000<n):Xn n l=some (Ea l):=by
 have g:=SR tO l;have i:=fun{K α:Type} [BEq K]=>@PP K α _ 0;have a:Uw n (tO.ofL l) n (([]:List (AB × List AN)),([]:List (ByteArray × List ByteArray)),([]:List (AN × List AB)),([]:List (ByteArray × List ByteArray)),0)=_:=g4_ n (tO.ofL l) (by omega) n ([],[],[],[]) 0 (by omega) (by omega)
 rw[LJ,pZ n _ _ 0 [] [] [] [] PP PP PP PP (by omega)] at a;have b:small (0+(tO.ofL l).length) (Up (tO.ofL l) []):=Xa _ _ _ 0 [] PP;have c:small (0+(tO.ofL l).length) (JJ (tO.ofL l) []):=Xa _ _ _ 0 [] PP;have d:small (0+(tO.ofL l).length) (JK (tO.ofL l) []):=Xa _ _ _ 0 [] PP;have e:small (0+((tO.ofL l).filter Jx).length) (aN (tO.ofL l) []):=Xa _ _ _ 0 [] PP;have j:((tO.ofL l).filter Jx).length<=(tO.ofL l).length:=NU _ _;unfold Xn;rw[zQ (by omega),Zo,a,Zo];dsimp only;rw[GX (b.dec (by omega)),GX (c.dec (by omega)),GX (d.dec (by omega)),GX (e.dec (by omega))];rfl
def FA (s:List AD)(o:Ak)(rel:ByteArray):List AN:=(s.filter fun t=>(⟨o,rel⟩:AB)==kR t).map (·.sub_)
theorem zV (s:List AD)(o:Ak)(rel:ByteArray):qf_ (⟨o,rel⟩:AB) [] (Up s [])=FA s o rel:=by
 unfold Up FA;rw[pY];rfl
theorem aO (s:List AD)(o:Ak)(rel:ByteArray):(FA s o rel).length<=s.length:=by unfold FA;grind
end Go.Proofs.YtnmkbmefohakmaaGreat.Ab
