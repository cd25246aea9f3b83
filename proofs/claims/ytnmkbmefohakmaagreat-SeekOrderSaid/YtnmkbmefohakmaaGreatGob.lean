/-
 A graph over a schema that holds together: all that is asked is answered; the answer zH_ on schema and index alone. No program in sight.
-/
import Derived.Test.YtnmkbmefohakmaaGreatSow
import Derived.Test.YtnmkbmefohakmaaGreatMda
namespace Go.Proofs.YtnmkbmefohakmaaGreat.Ab
open Go.RowKit
def qG_ (n:Nat)(t23:List GType)(t29:List GTuple):Nat->(List GTuple × List GTuple × Int)->Option (List GTuple × List GTuple)
 |0,_=>none
 |c+1,(t12,t13,t14)=>
  (if (decide (0<=t14)) then
   (idx t29 t14).bind fun x2=>
   (app t12 [x2,x2]).bind fun l2=>
   (zA_ n t23 x2).bind fun t592=>
   (if t592 then
    (app t13 [x2]).bind fun l3=>
    qG_ n t23 t29 c (l2,l3,(IntKind.i64.wrap (t14-1)))
   else
    qG_ n t23 t29 c (l2,t13,(IntKind.i64.wrap (t14-1))))
  else
   some (t12,t13))
def xm_ (n:Nat)(t0:List Int)(t1:List Int)(t2:Int):Option Bool:=
 (vh_ n t0).bind fun t22=>
 (zC_ n t22).bind fun t23=>
 (slc t1 0 (if 25<(t1.length:Int) then 25 else(t1.length:Int))).bind fun l=>
 (zx_ n l).bind fun t29=>
 (zy_ n t2).bind fun t32=>
 (
  qG_ n t23 t29 n ([],[],(IntKind.i64.wrap ((t29.length:Int)-1))):Option (List GTuple × List GTuple)).bind fun(t123,t133)=>
 (jk_ n t23 t29 (⟨t32.1.type_,t32.1.id_⟩:GObj) t32.2.1 (⟨t32.2.2.type_,t32.2.2.id_,t32.2.2.rel⟩:GSub)).bind fun t73=>
 (jk_ n t23 t123 (⟨t32.1.type_,t32.1.id_⟩:GObj) t32.2.1 (⟨t32.2.2.type_,t32.2.2.id_,t32.2.2.rel⟩:GSub)).bind fun t82=>
 (jk_ n t23 t133 (⟨t32.1.type_,t32.1.id_⟩:GObj) t32.2.1 (⟨t32.2.2.type_,t32.2.2.id_,t32.2.2.rel⟩:GSub)).bind fun t91=>
 (if (t73.1==t82.1) then
  (if (t73.1==t91.1) then
   (if (t73.2==t82.2) then
    (if (t73.2==t91.2) then
     (wZ_ n).bind fun t113=>
     some t113
    else
     some false)
   else
    some false)
  else
   some false)
 else
  some false)
theorem law9_SeekOrder_ok {n:Nat}{t0:List Int}{t1:List Int}{t2:Int}{r:Bool}(H:xm_ n t0 t1 t2=some r):PureOK Tryz.prog 3 [D.sl (List.map eI t0),D.sl (List.map eI t1),D.v (.int .i64 t2)] (D.v (.bool r)) true:=by
 unfold xm_ at H;refine ZP qh_ fol (rs:= #[.tmp 6]) Tryz.func3 ?_;refine zsq (ZT 1 ?_);refine Z0 ?_;refine zsq (ZT 1 ?_);obtain⟨t22,b1,H2⟩:=zbi H;refine Z0 ?_;refine ZD0 (bM_ b1) ?_;obtain⟨t23,b3,H4⟩:=zbi H2;refine Z0 ?_;refine ZD0 (gV_ b3) ?_;obtain⟨l,b5,H6⟩:=zbi H4;obtain⟨h7,h8,h9,h10⟩:=dO_ b5
 have h11:0<=Int.toNat (if 25<(t1.length:Int) then 25 else(t1.length:Int)):=by omega
 have h12:Int.toNat (if 25<(t1.length:Int) then 25 else(t1.length:Int))<=(List.length t1):=by omega
 have h13:List.take (Int.toNat (if 25<(t1.length:Int) then 25 else(t1.length:Int))) (List.map eI t1)=List.map eI l:=by rw[h10];simp[List.map_take]
 try simp only[Int.toNat_natCast] at h11 h12 h13
 obtain⟨t29,b14,H15⟩:=zbi H6;refine Z1 (Y5 (zno .i64 (Int.le_trans h7 h8)) h11 h12 h13 (jR_ (n:=1) (f:=eI) (fun _=>rfl) t1)) ?_;refine ZD0 (gB_ b14) ?_;refine Z1 (Y5 (zno .i64 (Int.le_trans h7 h8)) h11 h12 h13 (jR_ (n:=1) (f:=eI) (fun _=>rfl) t1)) ?_;refine qj_ (by rfl) ?_;refine Z1 (Y5 (zno .i64 (Int.le_trans h7 h8)) h11 h12 h13 (jR_ (n:=1) (f:=eI) (fun _=>rfl) t1)) ?_
 refine zsq (ZT 1 ?_);obtain⟨t32,b16,H17⟩:=zbi H15;refine Z1 (Y5 (zno .i64 (Int.le_trans h7 h8)) h11 h12 h13 (jR_ (n:=1) (f:=eI) (fun _=>rfl) t1)) ?_;refine ZC0 (gC_ b16) ?_;refine Z1 (Y5 (zno .i64 (Int.le_trans h7 h8)) h11 h12 h13 (jR_ (n:=1) (f:=eI) (fun _=>rfl) t1)) ?_;refine zsq (ZT 1 ?_)
 refine Z1 (Y5 (zno .i64 (Int.le_trans h7 h8)) h11 h12 h13 (jR_ (n:=1) (f:=eI) (fun _=>rfl) t1)) ?_;refine zsq (zsq ?_);refine ZT 1 ?_;refine Z1 (Y5 (zno .i64 (Int.le_trans h7 h8)) h11 h12 h13 (jR_ (n:=1) (f:=eI) (fun _=>rfl) t1)) ?_;obtain⟨e_,E18,H19⟩:=zbi H17
 refine zjn (α:={ y:List GTuple × List GTuple // e_=y } × Nat × Nat) (fun |⟨⟨⟨t123,t133⟩,_⟩,⟨g5,g6⟩⟩=>⟨upd 7 (.d (.sl (List.map eGType t23)) false) (upd 8 (.d (.sl (List.map eGTuple t29)) false) (upd 9 (.pt 0 0) (upd 10 (.v (.string t32.2.1)) (upd 11 (.pt 1 0) (upd 12 (accV 2 g5 (List.map eGTuple t123)) (upd 13 (accV 3 g6 (List.map eGTuple t133)) noFr)))))),upd 0 (some (.bx [.v (.string t32.1.type_),.v (.string t32.1.id_)])) (upd 1 (some (.bx [.v (.string t32.2.2.type_),.v (.string t32.2.2.id_),.v (.string t32.2.2.rel)])) (upd 2 (accO 6 g5 false (List.map eGTuple t123)) (upd 3 (accO 6 g6 false (List.map eGTuple t133)) noHp))),4⟩) ?_ ?_
 ·refine zbk ?_
  refine zlp (α:={ q:(Nat × (List GTuple × List GTuple × Int)) × Nat × Nat // qG_ n t23 t29 q.1.1 q.1.2=some e_ }) (fun |⟨⟨⟨c,⟨t12,t13,t14⟩⟩,⟨g,g2⟩⟩,_⟩=>⟨upd 7 (.d (.sl (List.map eGType t23)) false) (upd 8 (.d (.sl (List.map eGTuple t29)) false) (upd 9 (.pt 0 0) (upd 10 (.v (.string t32.2.1)) (upd 11 (.pt 1 0) (upd 12 (accV 2 g (List.map eGTuple t12)) (upd 13 (accV 3 g2 (List.map eGTuple t13)) (upd 14 (.v (.int .i64 t14)) noFr))))))),upd 0 (some (.bx [.v (.string t32.1.type_),.v (.string t32.1.id_)])) (upd 1 (some (.bx [.v (.string t32.2.2.type_),.v (.string t32.2.2.id_),.v (.string t32.2.2.rel)])) (upd 2 (accO 6 g false (List.map eGTuple t12)) (upd 3 (accO 6 g2 false (List.map eGTuple t13)) noHp))),4⟩) (fun q=>q.1.1.1) ⟨((n,([],[],(IntKind.i64.wrap ((t29.length:Int)-1)))),(0,0)),E18⟩ ?_ ?_
  ·exact ZR [(0,18),(1,19)]
  ·rintro⟨⟨⟨c,⟨t12,t13,t14⟩⟩,⟨g,g2⟩⟩,L20⟩
   rcases c with _ |c
   ·exact Zx L20
   ·unfold qG_ at L20
    try dsimp only at L20
    refine ZT 1 ?_;refine Z0 ?_;rcases zit L20 with⟨c33,H34⟩ |⟨c33,H34⟩
    ·obtain⟨x2,b35,H36⟩:=zbi H34
     obtain⟨h37,h38⟩:=zix b35;try simp only[Int.reduceToNat,Int.toNat_natCast] at h38
     have h39:=qm_ eGTuple h38;obtain⟨l2,b41,H42⟩:=zbi H36;obtain⟨h43,h44⟩:=j1_ b41;have h43:t12.length+2<=4294967296:=h43
     have h45:List.map eGTuple t12++[[.v (.string x2.obj.type_),.v (.string x2.obj.id_),.v (.string x2.rel),.v (.string x2.sub_.type_),.v (.string x2.sub_.id_),.v (.string x2.sub_.rel)],[.v (.string x2.obj.type_),.v (.string x2.obj.id_),.v (.string x2.rel),.v (.string x2.sub_.type_),.v (.string x2.sub_.id_),.v (.string x2.sub_.rel)]]=List.map eGTuple l2:=jD_ eGTuple h44
     have h46:t12.length+2=l2.length:=jE_ h44;have h47:l2.length<=4294967296:=by omega
     have q48:0<l2.length:=by omega
     refine Z1 (Y2 (Y6 c33 (zno .i64 h37) h39 h43 h45 h46) h47) ?_;refine qj_ (by (cases t12<;>rfl)) ?_;obtain⟨t592,b49,H50⟩:=zbi H42;refine Z1 (Y2 (Y6 c33 (zno .i64 h37) h39 h43 h45 h46) h47) ?_;refine ZC0 (bN_ b49) ?_;refine Z1 (Y2 (Y6 c33 (zno .i64 h37) h39 h43 h45 h46) h47) ?_;rcases zit H50 with⟨c51,H52⟩ |⟨c51,H52⟩
     ·obtain⟨l3,b53,H54⟩:=zbi H52
      obtain⟨h55,h56⟩:=j1_ b53;have h55:t13.length+1<=4294967296:=h55;have h57:List.map eGTuple t13++[[.v (.string x2.obj.type_),.v (.string x2.obj.id_),.v (.string x2.rel),.v (.string x2.sub_.type_),.v (.string x2.sub_.id_),.v (.string x2.sub_.rel)]]=List.map eGTuple l3:=jD_ eGTuple h56;have h58:t13.length+1=l3.length:=jE_ h56
      have h59:l3.length<=4294967296:=by omega
      have q60:0<l3.length:=by omega
      refine Z1 (Y2 (Y6 c33 (zno .i64 h37) h39 h43 h45 h46) (Y6 h47 c51 h55 h57 h58 h59)) ?_;rcases t12 with _ |⟨q0,q1⟩
      ·try simp only[List.map_nil,accI,accN]
       rcases t13 with _ |⟨q0,q1⟩
       ·try simp only[List.map_nil]
        exact⟨⟨((c,(l2,l3,(IntKind.i64.wrap (t14-1)))),(0,0)),H54⟩,ZR [(0,0),(1,1),(2,16),(3,30)],Nat.lt_succ_self _⟩
       ·try simp only[List.map_cons]
        exact⟨⟨((c,(l2,l3,(IntKind.i64.wrap (t14-1)))),(0,(g2+1))),H54⟩,ZR [(0,0),(1,1),(2,16),(3,3)],Nat.lt_succ_self _⟩
      ·try simp only[List.map_cons,accI,accN]
       rcases t13 with _ |⟨q0,q1⟩
       ·try simp only[List.map_nil]
        exact⟨⟨((c,(l2,l3,(IntKind.i64.wrap (t14-1)))),((g+1),0)),H54⟩,ZR [(0,0),(1,1),(2,2),(3,30)],Nat.lt_succ_self _⟩
       ·try simp only[List.map_cons]
        exact⟨⟨((c,(l2,l3,(IntKind.i64.wrap (t14-1)))),((g+1),(g2+1))),H54⟩,ZR [(0,0),(1,1),(2,2),(3,3)],Nat.lt_succ_self _⟩
     ·refine Z1 (Y2 (Y6 c33 (zno .i64 h37) h39 h43 h45 h46) (Y2 h47 c51)) ?_
      rcases t12 with _ |⟨q0,q1⟩
      ·try simp only[List.map_nil,accI,accN]
       exact⟨⟨((c,(l2,t13,(IntKind.i64.wrap (t14-1)))),(0,g2)),H52⟩,ZR [(0,0),(1,1),(2,16),(3,3)],Nat.lt_succ_self _⟩
      ·try simp only[List.map_cons,accI,accN]
       exact⟨⟨((c,(l2,t13,(IntKind.i64.wrap (t14-1)))),((g+1),g2)),H52⟩,ZR [(0,0),(1,1),(2,2),(3,3)],Nat.lt_succ_self _⟩
    ·refine Z1 c33 ?_
     obtain rfl:=Zi H34;exact⟨⟨⟨(t12,t13),rfl⟩,(g,g2)⟩,ZR [(0,0),(1,1),(2,2),(3,3)]⟩
 ·rintro⟨⟨⟨t123,t133⟩,he77⟩,⟨g5,g6⟩⟩
  obtain rfl:=he77.symm;try dsimp only at H19
  refine ZT 1 ?_;obtain⟨t73,b61,H62⟩:=zbi H19;refine Z0 ?_;refine ZC0 (zi_ b61) ?_;obtain⟨t82,b63,H64⟩:=zbi H62;refine Z0 ?_;refine ZC0 (zi_ b63) ?_;obtain⟨t91,b65,H66⟩:=zbi H64;refine Z0 ?_;refine ZC0 (zi_ b65) ?_;refine Z0 ?_;rcases zit H66 with⟨c67,H68⟩ |⟨c67,H68⟩
  ·refine Z1 c67 ?_
   rcases zit H68 with⟨c69,H70⟩ |⟨c69,H70⟩
   ·refine Z1 (Y2 c67 c69) ?_
    rcases zit H70 with⟨c71,H72⟩ |⟨c71,H72⟩
    ·refine Z1 (Y3 c67 c69 c71) ?_
     rcases zit H72 with⟨c73,H74⟩ |⟨c73,H74⟩
     ·obtain⟨t113,b75,H76⟩:=zbi H74
      refine Z1 (Y4 c67 c69 c71 c73) ?_;refine ZC0 (gw_ b75) ?_;refine Z1 (Y4 c67 c69 c71 c73) ?_;obtain rfl:=Zi H76;exact ZE0
     ·refine Z1 (Y4 c67 c69 c71 c73) ?_
      obtain rfl:=Zi H74;exact ZE0
    ·refine Z1 (Y3 c67 c69 c71) ?_
     obtain rfl:=Zi H72;exact ZE0
   ·refine Z1 (Y2 c67 c69) ?_
    obtain rfl:=Zi H70;exact ZE0
  ·refine Z1 c67 ?_
   obtain rfl:=Zi H68;exact ZE0
theorem cE_ {n:Nat}{l:List GTuple}(h:l.length<=4294967296):gL_ n l=some (tO.ofL l):=if_pos h
section
variable {K α:Type}[BEq K][LawfulBEq K]
theorem gR_ (k k':K)(ys:List α):∀es:List (K × List α),ql_ k [] (madd k' ys es)=if k==k' then ql_ k [] es++ys else ql_ k [] es
 |[]=>by
  cases h:(k==k')<;>simp[madd,ql_,mget,h]
 |p::r=>by
  have ih:=gR_ k k' ys r;cases h1:(k'==p.1) with
  |true=>
   have e1:k'=p.1:=by simpa using h1
   cases h2:(k==k') with
   |true=>
    have e2:k=k':=by simpa using h2
    subst e2;simp[madd,ql_,mget,h1]
   |false=>
    have h3:(k==p.1)=false:=by rw[<-e1];exact h2
    simp[madd,ql_,mget,h1,h2,h3]
  |false=>
   cases h3:(k==p.1) with
   |true=>
    have e3:k=p.1:=by simpa using h3
    have h2:(k==k')=false:=by
     cases h2:(k==k') with
     |false=>rfl
     |true=>
      have e2:k=k':=by simpa using h2
      rw[<-e2,e3] at h1;simp at h1
    simp[madd,ql_,mget,h1,h2,h3]
   |false=>
    simp only[ql_] at ih;simp[madd,ql_,mget,h1,h3,ih]
omit [LawfulBEq K] in
theorem ha_ (k:K)(ys:List α):∀es:List (K × List α),(madd k ys es).length<=es.length+1
 |[]=>by simp[madd]
 |p::r=>by
  have ih:=ha_ k ys r;unfold madd;split<;>simp <;>omega
structure small (m:Nat) (es:List (K × List α)):Prop where
 l:es.length<=m
 g:∀k,(ql_ k [] es).length<=m
theorem small.add {m:Nat}{es:List (K × List α)}(h:small m es)(k:K)(y:α):small (m+1) (madd k [y] es):=⟨Nat.le_trans (ha_ k [y] es) (Nat.add_le_add_right h.l 1),fun k'=>by
 rw[gR_]
 have:=h.g k'
 split
 ·rw[List.length_append,List.length_singleton];omega
 ·omega⟩
omit [LawfulBEq K] in
theorem small.up {m m':Nat}{es:List (K × List α)}(h:small m es)(k:m<=m'):small m' es:=⟨Nat.le_trans h.l k,fun x=>Nat.le_trans (h.g x) k⟩
omit [LawfulBEq K] in
theorem xc_ {m:Nat}:small m ([]:List (K × List α)):=⟨Nat.zero_le _,fun _=>Nat.zero_le _⟩
omit [LawfulBEq K] in
theorem small.fam {m:Nat}{es:List (K × List α)}(h:small m es)(hm:m<4294967296)(k:K):famG k es=true:=by
 have h1:=h.l;have h2:=h.g k;simp only[famG,Bool.and_eq_true,decide_eq_true_eq];omega
omit [LawfulBEq K] in
theorem small.dec {m:Nat}{es:List (K × List α)}(h:small m es)(hm:m<=4294967296):decide (es.length<=4294967296)=true:=decide_eq_true (Nat.le_trans h.l hm)
theorem hb_ {β:Type}(key:β->K)(val:β->α)(k:K):∀(l:List β) (es:List (K × List α)),ql_ k [] (l.foldl (fun es t=>madd (key t) [val t] es) es)=ql_ k [] es++(l.filter fun t=>k==key t).map val
 |[],es=>by simp
 |t::r,es=>by
  rw[List.foldl_cons,hb_ key val k r,gR_,List.filter_cons];split<;>simp
theorem zG_ {β:Type}(key:β->K)(val:β->α):∀(l:List β) (m:Nat) (es:List (K × List α)),small m es->small (m+l.length) (l.foldl (fun es t=>madd (key t) [val t] es) es)
 |[],m,es,h=>h
 |t::r,m,es,h=>by
  have:=zG_ key val r (m+1) _ (h.add (key t) (val t))
  rw[List.foldl_cons,List.length_cons,show m+(r.length+1)=m+1+r.length by omega];exact this
end
theorem zh_ {β:Type}{c:Bool}{k:Option β}(h:c=true):grd c k=k:=by
 unfold grd;rw[if_pos h]
theorem pm_ {β:Type}(x:List β)(h:x.length<=4294967296):(if (decide (x.length=0)) then some [] else grd (decide (x.length<=4294967296))<|some x)=some x:=by
 by_cases h0:x.length=0
 ·rw[decide_eq_true h0,if_pos rfl,List.eq_nil_of_length_eq_zero h0]
 ·rw[decide_eq_false h0,if_neg (by decide),decide_eq_true h]
  rfl
def kR (t:GTuple):GRef:=⟨t.obj,t.rel⟩
def bare (t:GTuple):Bool:=decide (t.sub_.rel={ data:= #[] })
def h0_ (l:List GTuple)(es:List (GRef × List GSub)):List (GRef × List GSub):=l.foldl (fun es t=>madd (kR t) [t.sub_] es) es
def mObjs (l:List GTuple)(es:List (ByteArray × List ByteArray)):List (ByteArray × List ByteArray):=l.foldl (fun es t=>madd t.obj.type_ [t.obj.id_] es) es
def mRefs (l:List GTuple)(es:List (GSub × List GRef)):List (GSub × List GRef):=l.foldl (fun es t=>madd t.sub_ [kR t] es) es
def hc_ (l:List GTuple)(es:List (ByteArray × List ByteArray)):List (ByteArray × List ByteArray):=(l.filter bare).foldl (fun es t=>madd t.sub_.type_ [t.sub_.id_] es) es
theorem cF_ {n m:Nat}{t16:List GTuple}{t:GTuple}{a:List (GRef × List GSub)}{b:List (ByteArray × List ByteArray)}{c:List (GSub × List GRef)}{d:List (ByteArray × List ByteArray)}(ha:small m a)(hb:small m b)(hc:small m c)(hd:small m d)(hm:m+1<4294967296)(k):
  xs_ n t16 (a,b,c,d) t k=k (madd (kR t) [t.sub_] a,madd t.obj.type_ [t.obj.id_] b,madd t.sub_ [kR t] c,if bare t then madd t.sub_.type_ [t.sub_.id_] d else d):=by
 have h1:decide ((madd (⟨t.obj,t.rel⟩:GRef) [t.sub_] a).length<=4294967296)=true:=(ha.add (kR t) t.sub_).dec (by omega);have h2:=(hb.add t.obj.type_ t.obj.id_).dec (by omega);have h3:decide ((madd t.sub_ [(⟨t.obj,t.rel⟩:GRef)] c).length<=4294967296)=true:=(hc.add t.sub_ (kR t)).dec (by omega);have h4:=(hd.add t.sub_.type_ t.sub_.id_).dec (by omega);unfold xs_;dsimp only
 rw[zh_ (ha.dec (by omega)),zh_ (hb.dec (by omega)),zh_ (hc.dec (by omega)),zh_ (hd.dec (by omega)),zh_ (ha.fam (by omega) _),Zo,zh_ h1,zh_ (hc.fam (by omega) _),Zo,zh_ h3,zh_ (hb.fam (by omega) _),Zo,beqS,zh_ h2,zh_ h2];unfold bare kR;cases decide (t.sub_.rel={ data:= #[] })
 ·rfl
 ·rw[if_pos rfl,if_pos rfl,zh_ (hd.fam (by omega) _),Zo,zh_ h4]
theorem pn_ (n:Nat)(t16:List GTuple):∀(l:List GTuple) (m:Nat) (a:List (GRef × List GSub)) (b:List (ByteArray × List ByteArray)) (c:List (GSub × List GRef)) (d:List (ByteArray × List ByteArray)),small m a->small m b->small m c->small m d->m+l.length<4294967296->
  xg_ (xs_ n t16) (xt_ n t16) l (a,b,c,d)=some (h0_ l a,mObjs l b,mRefs l c,hc_ l d)
 |[],m,a,b,c,d,ha,hb,hc,hd,hm=>by
  rw[List.length_nil] at hm;show xt_ n t16 (a,b,c,d)=_;unfold xt_;dsimp only;rw[zh_ (ha.dec (by omega)),zh_ (hb.dec (by omega)),zh_ (hc.dec (by omega)),zh_ (hd.dec (by omega))];rfl
 |t::r,m,a,b,c,d,ha,hb,hc,hd,hm=>by
  rw[List.length_cons] at hm;have h4:small (m+1) (if bare t then madd t.sub_.type_ [t.sub_.id_] d else d):=by
   split
   ·exact hd.add _ _
   ·exact hd.up (Nat.le_succ m)
  rw[xg_,cF_ ha hb hc hd (by omega),pn_ n t16 r (m+1) _ _ _ _ (ha.add _ _) (hb.add _ _) (hc.add _ _) h4 (by omega)];unfold h0_ mObjs mRefs hc_;rw[List.foldl_cons,List.foldl_cons,List.foldl_cons,List.filter_cons];cases bare t<;>rfl
def ixO (l:List GTuple):LookIndex:=⟨⟨h0_ (tO.ofL l) [],mObjs (tO.ofL l) []⟩,⟨mRefs (tO.ofL l) [],hc_ (tO.ofL l) []⟩⟩
theorem d7_ {n:Nat}{l:List GTuple}(h:l.length<=1000000)(hn:1000000<n):y0_ n l=some (ixO l):=by
 have hl:=gG_ tO l;have hz:=fun{K α:Type} [BEq K]=>@xc_ K α _ 0;have hL:j6_ n (tO.ofL l) n (([]:List (GRef × List GSub)),([]:List (ByteArray × List ByteArray)),([]:List (GSub × List GRef)),([]:List (ByteArray × List ByteArray)),0)=_:=yZ_ n (tO.ofL l) (by omega) n ([],[],[],[]) 0 (by omega) (by omega)
 rw[List.drop_zero,pn_ n _ _ 0 [] [] [] [] xc_ xc_ xc_ xc_ (by omega)] at hL;have s1:small (0+(tO.ofL l).length) (h0_ (tO.ofL l) []):=zG_ _ _ _ 0 [] xc_;have s2:small (0+(tO.ofL l).length) (mObjs (tO.ofL l) []):=zG_ _ _ _ 0 [] xc_;have s3:small (0+(tO.ofL l).length) (mRefs (tO.ofL l) []):=zG_ _ _ _ 0 [] xc_
 have s4:small (0+((tO.ofL l).filter bare).length) (hc_ (tO.ofL l) []):=zG_ _ _ _ 0 [] xc_;have hf:((tO.ofL l).filter bare).length<=(tO.ofL l).length:=List.length_filter_le _ _;unfold y0_;rw[cE_ (by omega),Zo,hL,Zo];dsimp only;rw[zh_ (s1.dec (by omega)),zh_ (s2.dec (by omega)),zh_ (s3.dec (by omega)),zh_ (s4.dec (by omega))];rfl
def vL_ (s:List GTuple)(o:GObj)(rel:ByteArray):List GSub:=(s.filter fun t=>(⟨o,rel⟩:GRef)==kR t).map (·.sub_)
theorem sg_ (s:List GTuple)(o:GObj)(rel:ByteArray):ql_ (⟨o,rel⟩:GRef) [] (h0_ s [])=vL_ s o rel:=by
 unfold h0_ vL_;rw[hb_];rfl
theorem yP_ (s:List GTuple)(o:GObj)(rel:ByteArray):(vL_ s o rel).length<=s.length:=by unfold vL_;rw[List.length_map];exact List.length_filter_le _ _
theorem subE (x y:GSub):((x.type_==y.type_)&&((x.id_==y.id_)&&(x.rel==y.rel)))=decide (x=y):=by
 obtain⟨a,b,c⟩:=x;obtain⟨a',b',c'⟩:=y;rw[Bool.eq_iff_iff];simp
theorem zX_ {n:Nat}{l:List GSub}{v:GSub}(hn:l.length<n)(hx:l.length<4611686018427387904):qE_ n l v=some (decide (v∈l)):=by
 obtain⟨r,h1,h2⟩:=f5_ (L:=qQ_ n l v) (P:=fun x=>some ((v.type_==x.type_)&&((v.id_==x.id_)&&(v.rel==x.rel)))) (fun x=>decide (v=x)) (fun _ _=>rfl) (fun x _=>by rw[subE]) hx n 0 (Nat.zero_le _) (by omega);have h1:qQ_ n l v n 0=some r:=h1;unfold qE_ jY_;rw[h1,Zo];rw[List.drop_zero] at h2;have e:l.any (fun x=>decide (v=x))=decide (v∈l):=by
  rw[Bool.eq_iff_iff];simp
 rcases h2 with⟨h2,k,rfl⟩ |⟨h2,rfl⟩
 ·rw[<-e,h2]
  simp
 ·rw[<-e,h2]
  rfl
theorem yy_ {n:Nat}{l:List GTuple}(hl:l.length<=1000000)(o:GObj)(rel:ByteArray):q2_ n (ixO l).left o rel=some (vL_ (tO.ofL l) o rel):=by
 have h1:ql_ (⟨o,rel⟩:GRef) [] (ixO l).left.subs=vL_ (tO.ofL l) o rel:=sg_ (tO.ofL l) o rel;have h2:=yP_ (tO.ofL l) o rel;have h3:=gG_ tO l;unfold q2_;rw[h1];cases hm:mhas (⟨o,rel⟩:GRef) (ixO l).left.subs with
 |true=>
  rw[if_pos rfl];exact pm_ _ (by omega)
 |false=>
  rw[if_neg (by simp),<-h1];unfold mhas at hm;unfold ql_;cases he:mget (⟨o,rel⟩:GRef) (ixO l).left.subs with
  |none=>rfl
  |some x=>rw[he] at hm;cases hm
def refOf (s:GSub):GRef:=⟨⟨s.type_,s.id_⟩,s.rel⟩
def vQ_ (l:List GSub):List GRef:=(l.filter fun s=>decide (s.rel≠{ data:= #[] })).map refOf
theorem yz_ (n:Nat)(t:List GSub):∀(l:List GSub) (out:List GRef),out.length+l.length<=4294967296->xg_ (q0_ n t) (jU_ n t) l out=some (out++vQ_ l)
 |[],out,_=>by
  show some out=_;simp[vQ_]
 |x::l,out,h=>by
  simp only[List.length_cons] at h;have st:∀k:List GRef->Option (List GRef),q0_ n t out x k=if decide (x.rel={ data:= #[] }) then k out else(app out [refOf x]).bind k:=fun k=>by
   unfold q0_;dsimp only;rw[beqS];rfl
  rw[xg_,st];by_cases e:x.rel={ data:= #[] }
  ·rw[decide_eq_true e,if_pos rfl,yz_ n t l out (by omega)]
   simp[vQ_,e]
  ·rw[decide_eq_false e,if_neg (by decide),appS (by simp only[List.length_singleton];omega),Zo,yz_ n t l _ (by rw[List.length_append,List.length_singleton];omega)]
   simp[vQ_,e]
theorem dU_ {n:Nat}{sc:WellSchema}{l r0:List GTuple}(hl:l.length<=1000000)(hn:1000000<n)(r:GRef)(he:(ql_ (⟨r.obj.type_,r.rel⟩:WellName) (⟨ByteArray.empty,[],[]⟩:GRel) sc.rels).expr= []):q8_ n ⟨sc,ixO l,r0⟩ r=some (vQ_ (vL_ (tO.ofL l) r.obj r.rel)):=by
 obtain⟨m,rfl⟩:∃m,n=m+1:=⟨n-1,by omega⟩;have h2:=yP_ (tO.ofL l) r.obj r.rel;have h3:=gG_ tO l;have hL:qC_ (m+1) (vL_ (tO.ofL l) r.obj r.rel) (m+1) (([]:List GRef),0)=_:=zQ_ (m+1) (vL_ (tO.ofL l) r.obj r.rel) (by omega) (m+1) [] 0 (by omega) (by omega);rw[List.drop_zero,yz_ _ _ _ _ (by simp only[List.length_nil];omega)] at hL;unfold q8_ qn_;rw[Zo]
 unfold qp_;dsimp only;rw[he];have e0:decide ((0:Int)<(([]:List GStep).length:Int))=false:=by decide
 rw[e0,if_neg (by decide),Zo,if_neg (by decide),yy_ hl,Zo,hL];rfl
theorem bH_ {l:List GTuple}{o:GObj}{rel:ByteArray}{s:GSub}:s∈vL_ (tO.ofL l) o rel↔∃t∈l,t.obj=o/\t.rel=rel/\t.sub_=s:=by
 unfold vL_;rw[List.mem_map];constructor
 ·rintro⟨t,h1,h2⟩
  obtain⟨h3,h4⟩:=List.mem_filter.1 h1;have h5:=eq_of_beq h4;simp only[kR,GRef.mk.injEq] at h5;exact⟨t,tO.mem_ofL.1 h3,h5.1.symm,h5.2.symm,h2⟩
 ·rintro⟨t,h1,h2,h3,h4⟩
  refine⟨t,List.mem_filter.2 ⟨tO.mem_ofL.2 h1,?_⟩,h4⟩;rw[<-h2,<-h3];exact beq_self_eq_true _
theorem hR_ {l:List GSub}{d:GRef}:d∈vQ_ l↔∃s∈l,s.rel≠{ data:= #[] }/\refOf s=d:=by
 unfold vQ_;rw[List.mem_map];constructor
 ·rintro⟨s,h1,h2⟩
  obtain⟨h3,h4⟩:=List.mem_filter.1 h1;exact⟨s,h3,of_decide_eq_true h4,h2⟩
 ·rintro⟨s,h1,h2,h3⟩
  exact⟨s,List.mem_filter.2 ⟨h1,decide_eq_true h2⟩,h3⟩
section
variable {n:Nat}{sc:WellSchema}{l r0:List GTuple}(hl:l.length<=10000)(hn:1000000<n)
def arr (l:List GTuple)(o:GObj)(x:GStep):List GRef:=(vL_ (tO.ofL l) o x.a).map fun s=>⟨⟨s.type_,s.id_⟩,x.b⟩
theorem kH_ (l:List GTuple)(o:GObj)(rel:ByteArray):(vL_ (tO.ofL l) o rel).length<=l.length:=Nat.le_trans (yP_ _ _ _) (gG_ tO l)
include hl hn in
theorem zO_ (o:GObj)(x:GStep):q5_ n ⟨sc,ixO l,r0⟩ o x=some (arr l o x):=by
 have h2:=kH_ l o x.a;have key:∀(ss:List GSub) (l2:List GSub) (out:List GRef),out.length+l2.length<=4294967296->xg_ (jF_ n x ss) (jG_ n x ss) l2 out=some (out++l2.map fun s=>⟨⟨s.type_,s.id_⟩,x.b⟩):=fun ss l2=>by
  induction l2 with
  |nil=>
   intro out _;show some out=_;simp
  |cons s r ih=>
   intro out h;simp only[List.length_cons] at h;rw[xg_];show(app out [(⟨⟨s.type_,s.id_⟩,x.b⟩:GRef)]).bind _=_;rw[appS (by simp only[List.length_singleton];omega),Zo,ih _ (by rw[List.length_append,List.length_singleton];omega)];simp
 have hL:qB_ n x (vL_ (tO.ofL l) o x.a) n (([]:List GRef),0)=_:=ze_ n x (vL_ (tO.ofL l) o x.a) (by omega) n [] 0 (by omega) (by omega);rw[List.drop_zero,key _ _ _ (by simp only[List.length_nil];omega)] at hL;unfold q5_;rw[yy_ (by omega),Zo,hL];rfl
def kn_ (l:List GTuple)(o:GObj)(x:GStep):List GRef:=if x.kind==1 then[⟨o,x.a⟩] else if x.kind==2 then arr l o x else[]
def exD (l:List GTuple)(o:GObj)(ex:List GStep):List GRef:=ex.flatMap (kn_ l o)
theorem dV_ (l:List GTuple)(o:GObj)(x:GStep):(arr l o x).length<=l.length:=by unfold arr;rw[List.length_map];exact kH_ l o x.a
include hl hn in
theorem nK_ {r:GRef}{g:GRel}{b:Bool}(he:g.expr.length<=1000):∀(d i c:Nat) (t:List GRef),d=g.expr.length-i->i<=g.expr.length->d<c->t.length<=10001*i->qp_ n ⟨sc,ixO l,r0⟩ r (g,b) c (t,(i:Int))=some (t++exD l r.obj (g.expr.drop i))
 |0,i,c,t,hd,hi,hc,ht=>by
  obtain⟨c,rfl⟩:∃k,c=k+1:=⟨c-1,by omega⟩;unfold qp_;dsimp only;rw[decide_eq_false (by omega),if_neg (by decide),List.drop_of_length_le (by omega)];simp[exD]
 |d+1,i,c,t,hd,hi,hc,ht=>by
  obtain⟨c,rfl⟩:∃k,c=k+1:=⟨c-1,by omega⟩;have hlt:i<g.expr.length:=by omega
  have ih:=fun t2 h=>nK_ (r:=r) (b:=b) he d (i+1) c t2 (by omega) (by omega) (by omega) h;have ed:exD l r.obj (g.expr.drop i)=kn_ l r.obj g.expr[i]++exD l r.obj (g.expr.drop (i+1)):=by
   rw[List.drop_eq_getElem_cons hlt];rfl
  unfold qp_;dsimp only;rw[decide_eq_true (by omega),if_pos rfl,vf_,List.getElem?_eq_getElem hlt,Zo,w64a (by omega),ed];have ha:=dV_ l r.obj g.expr[i];unfold kn_;split
  ·rw[appS (by simp only[List.length_singleton];omega),Zo,ih _ (by rw[List.length_append,List.length_singleton];omega),List.append_assoc]
  ·split
   ·rw[zO_ hl hn,Zo]
    by_cases h0:t.length=0
    ·obtain rfl:=List.eq_nil_of_length_eq_zero h0
     rw[decide_eq_true h0,if_pos rfl,appS (by simp only[List.length_nil];omega),Zo,ih _ (by omega),List.nil_append]
    ·rw[decide_eq_false h0,if_neg (by decide),appS (by omega),Zo,ih _ (by rw[List.length_append];omega),List.append_assoc]
   ·rw[ih t (by omega),List.nil_append]
def wA_ (sc:WellSchema)(l:List GTuple)(r:GRef):List GRef:=if (ql_ (⟨r.obj.type_,r.rel⟩:WellName) zGR sc.rels).expr= [] then vQ_ (vL_ (tO.ofL l) r.obj r.rel) else exD l r.obj (ql_ (⟨r.obj.type_,r.rel⟩:WellName) zGR sc.rels).expr
include hl hn in
theorem nL_ (hS:zU_ sc)(r:GRef):q8_ n ⟨sc,ixO l,r0⟩ r=some (wA_ sc l r):=by
 have hb:=(gZ_ hS ⟨r.obj.type_,r.rel⟩).2.1;unfold wA_;by_cases he:(ql_ (⟨r.obj.type_,r.rel⟩:WellName) zGR sc.rels).expr= []
 ·rw[if_pos he]
  exact dU_ (by omega) hn r he
 ·rw[if_neg he]
  unfold q8_;rw[vS_,Zo];have e1:qp_ n ⟨sc,ixO l,r0⟩ r (ql_ (⟨r.obj.type_,r.rel⟩:WellName) zGR sc.rels,mhas (⟨r.obj.type_,r.rel⟩:WellName) sc.rels) n (([]:List GRef),0)=_:=nK_ hl hn (by omega) _ 0 n [] rfl (Nat.zero_le _) (by omega) (Nat.zero_le _);rw[e1,Zo,List.drop_zero,List.nil_append]
  have h0:(0:Int)<((ql_ (⟨r.obj.type_,r.rel⟩:WellName) zGR sc.rels).expr.length:Int):=by
   have:0<(ql_ (⟨r.obj.type_,r.rel⟩:WellName) zGR sc.rels).expr.length:=List.length_pos_iff.2 he
   omega
  dsimp only[Zo];rw[decide_eq_true h0,if_pos rfl]
include hl hn in
theorem yA_ (hS:zU_ sc)(r:GRef):yO_ n ⟨sc,ixO l,r0⟩ r=some (rkK sc.ranks ⟨r.obj.type_,r.rel⟩,wA_ sc l r):=by
 unfold yO_;rw[nL_ hl hn hS];rfl
include hl hn in
theorem rO_ (o:GObj)(x:GStep)(hk:(x.kind==1||x.kind==2)=true):b0_ n ⟨sc,ixO l,r0⟩ o x=some (kn_ l o x):=by
 unfold b0_ kn_;split
 ·rfl
 ·rename_i h
  rw[if_pos (by simpa [h] using hk)];exact zO_ hl hn o x
include hl hn in
theorem yB_ {o:GObj}{N:List PN}:∀(ex:List GStep) (st:List Bool),(∀d∈exD l o ex,(qT_ d N).isSome=true)->st.length+ex.length<=1000->∃b,zZ_ n ⟨sc,ixO l,r0⟩ o N ex st=some b
 |[],st,_,_=>⟨_,rfl⟩
 |x::ex,st,hd,hs=>by
  simp only[List.length_cons] at hs;have hd1:∀d∈kn_ l o x,(qT_ d N).isSome=true:=fun d h=>hd d (List.mem_append_left _ h);have hd2:∀d∈exD l o ex,(qT_ d N).isSome=true:=fun d h=>hd d (List.mem_append_right _ h);unfold zZ_ pw_;by_cases hk:(x.kind==1||x.kind==2)=true
  ·rw[if_pos hk,rO_ hl hn o x hk,Zo,if_pos]
   ·rw[Zo]
    exact yB_ ex _ hd2 (by rw[List.length_append,List.length_singleton];omega)
   ·have hll:(kn_ l o x).length<=10001:=by
     have:=dV_ l o x
     unfold kn_;split
     ·simp
     ·split
      ·omega
      ·simp
    simp only[Bool.and_eq_true,List.all_eq_true,decide_eq_true_eq];exact⟨⟨hd1,by omega⟩,by omega⟩
  ·rw[if_neg hk]
   by_cases h2:st.length<2
   ·rw[if_pos h2]
    exact⟨_,rfl⟩
   ·rw[if_neg h2,Zo]
    exact yB_ ex _ hd2 (by rw[List.length_append,List.length_take,List.length_singleton];omega)
include hl hn in
theorem ck_ (hS:zU_ sc){s:GSub}{N:List PN}{r:GRef}{x:PN}(hf:qT_ r N=some x)(hx:x.deps=wA_ sc l r)(hd:∀d∈wA_ sc l r,(qT_ d N).isSome=true):∃b,nowM n ⟨sc,ixO l,r0⟩ s N r=some b:=by
 have hb:=(gZ_ hS ⟨r.obj.type_,r.rel⟩).2.1;have hsl:=kH_ l r.obj r.rel;unfold nowM;rw[vS_,Zo];dsimp only;cases he:(ql_ (⟨r.obj.type_,r.rel⟩:WellName) zGR sc.rels).expr.isEmpty with
 |true=>
  have he2:=List.isEmpty_iff.1 he;have hdl:(wA_ sc l r).length<=10000:=by
   unfold wA_;rw[if_pos he2];unfold vQ_;rw[List.length_map];exact Nat.le_trans (List.length_filter_le _ _) (by omega)
  rw[if_pos rfl];unfold nowD;rw[vS_,Zo];dsimp only;rw[he,if_pos rfl,yy_ (by omega),Zo,zX_ (by omega) (by omega),Zo,hf,Zo,hx,if_pos]
  ·exact⟨_,rfl⟩
  ·simp only[Bool.and_eq_true,List.all_eq_true,decide_eq_true_eq]
   exact⟨hd,by omega⟩
 |false=>
  have he2:(ql_ (⟨r.obj.type_,r.rel⟩:WellName) zGR sc.rels).expr≠[]:=fun h=>by rw[h] at he;cases he
  rw[if_neg (by decide),if_pos (by omega)];refine yB_ hl hn _ [] (fun d h=>hd d ?_) (by simp only[List.length_nil];omega);unfold wA_;rw[if_neg he2];exact h
end
def fitP (S:WellSchema)(t:GTuple):Prop:=(⟨t.sub_.type_,ByteArray.empty,t.sub_.rel⟩:GSub)∈(ql_ (⟨t.obj.type_,t.rel⟩:WellName) zGR S.rels).subs
section
variable {ts:List GType}{S:WellSchema}(hW:WellP ts S)(hB:zY_ ts)
include hW hB in
theorem kI_:zU_ S:=fun p hp=>by
 rw[hW.rels] at hp;obtain⟨t,ht,g,hg,rfl⟩:=y8_.1 hp;exact(hB.2 t ht).2 g hg
include hW in
theorem gx_ {m:WellName}(h:mhas m S.rels=true):∃t∈ts,∃g∈t.rels,m=⟨t.name,g.name⟩/\ql_ m zGR S.rels=g:=by
 have h1:=wL_.1 h;rw[hW.rels,uY_] at h1;obtain⟨t,ht,g,hg,rfl⟩:=hn_.1 h1;refine⟨t,ht,g,hg,rfl,?_⟩;unfold ql_;rw[pH_ hW.rels hW.keys ht hg];rfl
theorem rP_ {b:ByteArray}(h:(b.toList==({ data:= #[] }:ByteArray).toList)=true):b={ data:= #[] }:=by
 rw[beqS] at h;exact of_decide_eq_true h
include hW in
theorem closed {l:List GTuple}(hfit:∀t∈l,fitP S t){r d:GRef}(hr:mhas (⟨r.obj.type_,r.rel⟩:WellName) S.rels=true)(hd:d∈wA_ S l r):mhas (⟨d.obj.type_,d.rel⟩:WellName) S.rels=true/\(d.obj=r.obj\/∃t∈l,d.obj=⟨t.sub_.type_,t.sub_.id_⟩):=by
 obtain⟨t,ht,g,hg,e1,e2⟩:=gx_ hW hr;obtain⟨n1,n2⟩:=hW.nms t ht g hg;have ety:r.obj.type_=t.name:=congrArg WellName.typ e1;unfold wA_ at hd;split at hd
 ·obtain⟨s,hs,hne,rfl⟩:=hR_.1 hd
  obtain⟨u,hu,q1,q2,q3⟩:=bH_.1 hs;have hf:=hfit u hu;unfold fitP at hf;rw[q1,q2,q3,e2] at hf;refine⟨?_,.inr ⟨u,hu,by rw[q3];rfl⟩⟩;rcases n1 _ hf with h |h
  ·exact absurd (rP_ h) hne
  ·exact h
 ·rw[e2] at hd
  unfold exD at hd;obtain⟨x,hx,hd⟩:=List.mem_flatMap.1 hd;obtain⟨s1,s2⟩:=n2 x hx;unfold kn_ at hd;split at hd
  ·rename_i hk
   rw[List.mem_singleton.1 hd]
   have:=s1 (eq_of_beq hk)
   rw[<-ety] at this;exact⟨this,.inl rfl⟩
  ·split at hd
   ·rename_i hk
    obtain⟨a1,a2,a3⟩:=s2 (eq_of_beq hk);rw[<-ety] at a3;unfold arr at hd;obtain⟨s,hs,rfl⟩:=List.mem_map.1 hd;obtain⟨u,hu,q1,q2,q3⟩:=bH_.1 hs;have hf:=hfit u hu;unfold fitP at hf;rw[q1,q2,q3] at hf;exact⟨(a3 _ hf).1,.inr ⟨u,hu,by rw[q3]⟩⟩
   ·cases hd
def nM_ (l:List GTuple)(o:GObj):List GObj:=o::l.map fun t=>⟨t.sub_.type_,t.sub_.id_⟩
def rawU (ts:List GType)(l:List GTuple)(o:GObj):List GRef:=(nM_ l o).flatMap fun p=>((xX_ ts).filter fun q=>q.typ==p.type_).map fun q=>⟨p,q.rel⟩
theorem rQ_ {l:List GTuple}{o:GObj}{r:GRef}:r∈rawU ts l o↔r.obj∈nM_ l o/\(⟨r.obj.type_,r.rel⟩:WellName)∈xX_ ts:=by
 unfold rawU;rw[List.mem_flatMap];constructor
 ·rintro⟨p,hp,hr⟩
  obtain⟨q,hq,rfl⟩:=List.mem_map.1 hr;obtain⟨h1,h2⟩:=List.mem_filter.1 hq;refine⟨hp,?_⟩
  have:(⟨p.type_,q.rel⟩:WellName)=q:=by rw[<-eq_of_beq h2]
  exact this▸h1
 ·rintro⟨h1,h2⟩
  exact⟨r.obj,h1,List.mem_map.2 ⟨⟨r.obj.type_,r.rel⟩,List.mem_filter.2 ⟨h2,beq_self_eq_true _⟩,rfl⟩⟩
theorem nN_ (a:ByteArray):∀ {l:List GType},(l.map (·.name)).Nodup->(∀t∈l,t.rels.length<=200)->((xX_ l).filter fun q=>q.typ==a).length<=200/\(a∉l.map (·.name)->((xX_ l).filter fun q=>q.typ==a)= [])
 |[],_,_=>⟨Nat.zero_le _,fun _=>rfl⟩
 |t::l,hn,hb=>by
  rw[List.map_cons,List.nodup_cons] at hn;obtain⟨i1,i2⟩:=nN_ a hn.2 fun x hx=>hb x (List.mem_cons_of_mem _ hx);have e:xX_ (t::l)=t.rels.map (fun g=>⟨t.name,g.name⟩)++xX_ l:=by simp[xX_]
  have hf:(t.rels.map fun g=>(⟨t.name,g.name⟩:WellName)).filter (fun q=>q.typ==a)=if t.name=a then t.rels.map fun g=>⟨t.name,g.name⟩ else[]:=by
   split
   ·rename_i h
    exact List.filter_eq_self.2 fun q hq=>by
     obtain⟨g,_,rfl⟩:=List.mem_map.1 hq;simpa using h
   ·rename_i h
    exact List.filter_eq_nil_iff.2 fun q hq=>by
     obtain⟨g,_,rfl⟩:=List.mem_map.1 hq;simpa using h
  rw[e,List.filter_append,hf];constructor
  ·split
   ·rename_i h
    subst h;rw[i2 hn.1,List.append_nil,List.length_map];exact hb t (List.mem_cons_self ..)
   ·rw[List.nil_append]
    exact i1
  ·intro h
   rw[List.map_cons,List.mem_cons,not_or] at h;rw[if_neg fun e=>h.1 e.symm,i2 h.2];rfl
theorem f0_ {α:Type}[DecidableEq α]:∀L:List α,∃U:List α,U.Nodup/\(∀x,x∈U↔x∈L)/\U.length<=L.length
 |[]=>⟨[],List.nodup_nil,fun _=>Iff.rfl,Nat.le_refl _⟩
 |a::L=>by
  obtain⟨U,h1,h2,h3⟩:=f0_ L;by_cases h:a∈U
  ·refine⟨U,h1,fun x=> ?_,by rw[List.length_cons];omega⟩
   rw[h2,List.mem_cons];constructor
   ·exact .inr
   ·rintro(rfl |h4)
    ·exact(h2 _).1 h
    ·exact h4
  ·exact⟨a::U,List.nodup_cons.2 ⟨h,h1⟩,fun x=>by rw[List.mem_cons,List.mem_cons,h2],by rw[List.length_cons,List.length_cons];omega⟩
theorem nO_ (l:List GTuple)(o:GObj):∀ex:List GStep,(exD l o ex).length<=ex.length*(l.length+1)
 |[]=>Nat.zero_le _
 |x::ex=>by
  have h1:=nO_ l o ex;have h2:=dV_ l o x;have h3:(kn_ l o x).length<=l.length+1:=by
   unfold kn_;split
   ·simp
   ·split
    ·omega
    ·simp
  have e:exD l o (x::ex)=kn_ l o x++exD l o ex:=rfl;rw[e,List.length_append,List.length_cons,Nat.succ_mul];omega
theorem nP_ {α β:Type}(f:α->List β)(k:Nat):∀ {l:List α},(∀x∈l,(f x).length<=k)->(l.flatMap f).length<=l.length*k
 |[],_=>Nat.zero_le _
 |a::l,h=>by
  have h1:=h a (List.mem_cons_self ..);have h2:=nP_ f k fun x hx=>h x (List.mem_cons_of_mem _ hx);rw[List.flatMap_cons,List.length_append,List.length_cons,Nat.succ_mul];omega
theorem nQ_ {α:Type}(f:α->Nat)(k:Nat):∀ {l:List α},(∀x∈l,f x<=k)->(l.map f).sum<=l.length*k
 |[],_=>Nat.zero_le _
 |a::l,h=>by
  have h1:=h a (List.mem_cons_self ..);have h2:=nQ_ f k fun x hx=>h x (List.mem_cons_of_mem _ hx);rw[List.map_cons,List.sum_cons,List.length_cons,Nat.succ_mul];omega
include hW hB in
theorem rR_ {l:List GTuple}(hl:l.length<=100)(r:GRef):(wA_ S l r).length<=20200:=by
 have hb:=(kI_ hW hB|>fun h=>gZ_ h ⟨r.obj.type_,r.rel⟩).2.1;unfold wA_;split
 ·have:=kH_ l r.obj r.rel
  unfold vQ_;rw[List.length_map];exact Nat.le_trans (List.length_filter_le _ _) (by omega)
 ·refine Nat.le_trans (nO_ l r.obj _) (Nat.le_trans (Nat.mul_le_mul hb (Nat.succ_le_succ hl)) (by decide))
include hW hB in
theorem cl_ {n:Nat}{l r0:List GTuple}{o:GObj}{rel:ByteArray}{s:GSub}(hl:l.length<=100)(hn:2000000000<n)(hfit:∀t∈l,fitP S t)(hk:mhas (⟨o.type_,rel⟩:WellName) S.rels=true):∃b,xl_ n ⟨S,ixO l,r0⟩ o rel s=some b:=by
 have hS:=kI_ hW hB;obtain⟨U,u1,u2,u3⟩:=f0_ (rawU ts l o);have hUl:U.length<=20200:=by
  refine Nat.le_trans u3 (Nat.le_trans (nP_ _ 200 fun p _=> ?_) ?_)
  ·rw[List.length_map]
   exact(nN_ p.type_ hW.tys fun t ht=>(hB.2 t ht).1).1
  ·have:(nM_ l o).length<=101:=by unfold nM_;rw[List.length_cons,List.length_map];omega
   exact Nat.le_trans (Nat.mul_le_mul_right _ this) (by decide)
 have mU:∀r,r∈U↔r.obj∈nM_ l o/\mhas (⟨r.obj.type_,r.rel⟩:WellName) S.rels=true:=fun r=>by
  rw[u2,rQ_,wL_,hW.rels,uY_]
 have hc:∀r∈U,∀d∈wA_ S l r,d∈U:=fun r hr d hd=>by
  obtain⟨h1,h2⟩:=(mU r).1 hr;obtain⟨c1,c2⟩:=closed hW hfit h2 hd;refine(mU d).2 ⟨?_,c1⟩;rcases c2 with c2 |⟨t,ht,c2⟩
  ·rw[c2];exact h1
  ·rw[c2]
   exact List.mem_cons_of_mem _ (List.mem_map_of_mem ht)
 refine po_ (U:=U) (D:=wA_ S l) (rk:=fun r=>rkK S.ranks ⟨r.obj.type_,r.rel⟩) u1 (by omega) ((mU _).2 ⟨List.mem_cons_self ..,hk⟩) (fun r _=>yA_ (by omega) (by omega) hS r) hc ?_ hn fun K St N k1 k2 k3 k4 r hr=> ?_
 ·unfold total
  exact Nat.le_trans (nQ_ _ 20200 fun r _=>rR_ hW hB hl r) (Nat.le_trans (Nat.mul_le_mul_right _ hUl) (by decide))
 ·obtain⟨x,hx⟩:=j5_ (N:=N) (r:=r) (by rw[k2];exact hr)
  obtain⟨x1,x2⟩:=xT_ hx;refine ck_ (by omega) (by omega) hS hx (by rw[(k3 x x1).1,x2]) fun d hd=> ?_;rw[yR_,k2];exact k4 r hr d hd
end
theorem rS_ {n:Nat}{S:WellSchema}{l r0 r1:List GTuple}(hl:l.length<=10000)(hn:1000000<n)(hS:zU_ S)(o:GObj)(rel:ByteArray)(s:GSub):xl_ n ⟨S,ixO l,r0⟩ o rel s=xl_ n ⟨S,ixO l,r1⟩ o rel s:=by
 have e1:yO_ n ⟨S,ixO l,r0⟩=yO_ n ⟨S,ixO l,r1⟩:=funext fun r=>by rw[yA_ hl hn hS,yA_ hl hn hS]
 have e2:∀ob x,b0_ n ⟨S,ixO l,r0⟩ ob x=b0_ n ⟨S,ixO l,r1⟩ ob x:=fun ob x=>by
  unfold b0_;split
  ·rfl
  ·rw[zO_ hl hn,zO_ hl hn]
 have e3:∀ob N ex st,zZ_ n ⟨S,ixO l,r0⟩ ob N ex st=zZ_ n ⟨S,ixO l,r1⟩ ob N ex st:=fun ob N ex=>by
  induction ex with
  |nil=>exact fun _=>rfl
  |cons x ex ih=>
   intro st;unfold zZ_ pw_;rw[e2];congr 1
   funext r;cases r with
   |none=>rfl
   |some st=>exact ih st
 have e4:nowM n ⟨S,ixO l,r0⟩ s=nowM n ⟨S,ixO l,r1⟩ s:=funext fun N=>funext fun r=>by
  unfold nowM;simp only[e3];rfl
 unfold xl_;rw[e1,e4]
end Go.Proofs.YtnmkbmefohakmaaGreat.Ab
