/-
 What the library's Compact keeps, place by place. No program in sight.
-/
import Derived.Test.YtnmkbmefohakmaaGreatSkw
import Derived.Shelf.Small.Strs
set_option linter.all false
namespace Go.Proofs.YtnmkbmefohakmaaGreat.Ab
open Go.RowKit
def Ts (n:Nat)(G:AI)(ob:Ae)(N:List PN)(x:AX)(b:List Bool):Option (Option (List Bool)):=if x.kind==1||x.kind==2 then(Re n G ob x).bind fun l=>if l.all (fun d=>(DJ d N).isSome)&&decide (l.length<4294967296)&&decide (b.length<4294967296) then some (some (b++[l.any (fun d=>((DJ d N).map (·.is)).getD false)])) else none else if b.length<2 then some none else some (some (b.take (b.length-2)++[if x.kind==3 then b.getD (b.length-2) false||b.getD (b.length-1) false else if x.kind==5 then b.getD (b.length-2) false&&b.getD (b.length-1) false else b.getD (b.length-2) false&& !b.getD (b.length-1) false]))
def Ht (n:Nat)(G:AI)(ob:Ae)(N:List PN):List AX->List Bool->Option Bool
  |[],b=>some (b.length==1&&b.getD 0 false)
  |x::l,b=>(Ts n G ob N x b).bind fun r=>match r with
    |none=>some false
    |some b=>Ht n G ob N l b
structure TS where
  k:Nat
  hp:Hp
  nx:Nat
  st:List Bool
  rid:Nat
  ver:Nat
  es:List Bool
structure dz (n:Nat) (G:AI) (ob:Ae) (N:List PN) (l:List AX) (hp0:Hp) (nx0:Nat) (r:Bool) (x:TS):Prop where
  new:∀j,x.nx<=j->x.hp j=none
  old:∀i,i<nx0->x.hp i=hp0 i
  ob_:x.hp nx0=some (.bx [.v (.string ob.type_),.v (.string ob.id_)])
  row:x.st≠[]->x.hp x.rid=some (.rw (x.es.map eB) 1 x.ver false false)/\x.es.take x.st.length=x.st/\x.st.length<=x.es.length/\nx0<x.rid
  le:x.k<=l.length
  nxs:nx0<x.nx
  small:x.st.length<=4294967296
  mod:Ht n G ob N (l.drop x.k) x.st=some r
variable {G:AI}{n:Nat}
set_option maxRecDepth 4000 in
theorem y5 {hp:Hp}{nx q m:Nat}{ob:Ae}{l:List AX}{bl r:Bool}{s1 s2 s3 o vo:AV}{N:List Nd}(hf:∀j,nx<=j->hp j=none)
    (hq:hp q=some (.bx [.d (.pt (Ak G) 0) true,s1,s2,s3,.mo m,o])) (hN:DU hp m N) (b0:EB vo=some [.v (.string ob.type_),.v (.string ob.id_)]) (hl:l.length<4611686018427387904) (hr:Ht n G ob (Dq N) l []=some r):
    AT Tryz.prog 126 [.pt q 0,vo,.d (.sl (l.map AY)) bl] hp nx fun v O b1=>v= .v (.bool r)/\O=hp/\nx<=b1:=by
  refine zq Tryz.func126 ?_;refine AU (ZT 1 ?_);refine Ct b0 ?_;refine Z0 ?_;refine Dy ?_;refine CV ?_;refine DV (α:={ x:TS // dz n G ob (Dq N) l hp nx r x }) (fun x=>⟨upd 0 (.pt q 0) (upd 4 (.pt nx 0) (upd 7 (AW x.1.rid x.1.ver (x.1.st.map eB)) (upd 13 (.d (.sl (l.map AY)) bl) (upd 14 (.v (.int .i64 (l.length:Int))) (upd 15 (.v (.int .i64 (x.1.k:Int))) AJ))))),x.1.hp,x.1.nx⟩) (fun x=>l.length-x.1.k)
    ⟨⟨0,upd nx (some (.bx [.v (.string ob.type_),.v (.string ob.id_)])) hp,nx+2+1+3,[],0,0,[]⟩,?_⟩ ?_ ?_
  · exact{
            new:=fun j w=>by
              grind [upd,Ac]
            old:=fun i E=>Ac
            ob_:=At ..
            row:=fun h=>absurd rfl h
            le:=Lf _
            nxs:=by show nx<nx+2+1+3;omega
            small:=Lf _
            mod:=hr }
  · exact CW
  · rintro⟨x,h⟩
    have a6:x.hp q=some (.bx [.d (.pt (Ak G) 0) true,s1,s2,s3,.mo m,o]):=(h.old _ (Ch hf hq)).trans hq;have ag:DU x.hp m N:=hN.more (h.old _ (Ch hf hN.map)) (fun U V=>h.old _ (Ch hf (hN.box U V))) fun U V ha=>h.old _ (Ch hf ((hN.row U V ha).trans (Gu ha)));have b:=h.mod;refine AU (ZT 1 ?_);by_cases X:x.k<l.length
    · have c1:(decide ((x.k:Int)<(l.length:Int)))=true:=DB
      refine Ct c1 ?_;refine Z0 ?_;refine AU (CV ?_);refine AU ?_;obtain⟨g,hg⟩:∃g,l[x.k]? =some g:=⟨_,Le X⟩;rw[Lj X,show l[x.k]=g from(Lb.1 hg).2] at b;unfold Ht at b;have⟨b6,z,b⟩:=AP b;refine ZT 1 ?_;refine Z1 (Cz AY hg) ?_;generalize e1:(upd (x.nx+1+2) (some _) _:Hp)=F;have Y:∀i,i<x.nx->F i=x.hp i:=fun i E=>(by rw[<-e1,Ac,Ac]);have P:∀j,x.nx+1+4<=j->F j=none:=fun j w=>(by rw[<-e1,Ac,Ac];exact h.new j (by omega));have I:F (x.nx+1+2)=some (.bx [.v (.int .i64 g.kind),.v (.string g.a),.v (.string g.b)]):=(by rw[<-e1,At]);have Q:F nx=some (.bx [.v (.string ob.type_),.v (.string ob.id_)]):=(Y _ h.nxs).trans h.ob_;have q1:F q=some (.bx [.d (.pt (Ak G) 0) true,s1,s2,s3,.mo m,o]):=(Y _ (Ch h.new a6)).trans a6
      have N1:DU F m N:=ag.more (Y _ (Ch h.new ag.map)) (fun U V=>Y _ (Ch h.new (ag.box U V))) fun U V ha=>Y _ (Ch h.new ((ag.row U V ha).trans (Gu ha)));have Z:∀i,i<nx->F i=hp i:=fun i E=>(Y i (by have:=h.nxs;omega)).trans (h.old i E)
      have s:(x.st= []/\AW x.rid x.ver (x.st.map eB)= .v (.slice none 0 0))\/(x.st≠[]/\AW x.rid x.ver (x.st.map eB)= .so x.rid x.ver 0 x.st.length/\F x.rid=some (.rw (x.es.map eB) 1 x.ver false false)):=by
        by_cases y:x.st= []
        · exact .inl ⟨y,by rw[y];rfl⟩
        · have hr:=(h.row y).1
          exact .inr ⟨y,JN (Nz.2 y),(Y _ (Ch h.new hr)).trans hr⟩
      by_cases R:(g.kind==1||g.kind==2)=true
      · unfold Ts at z
        rw[if_pos R] at z;have⟨H,hd,z⟩:=AP z;split at z;rotate_left
        · cases z
        rename_i ak;rw[Lm,Lm,LP] at ak;cases z;have b:Ht n G ob (Dq N) (l.drop (x.k+1)) (x.st++[H.any fun d=>((DJ d (Dq N)).map (·.is)).getD false])=some r:=b;have ao:Ff F (Fv N) (fun r=>((DJ r (Dq N)).map (·.is)).getD false) H:=N1.at_ fun d hd=>by
          have:=ak.1.1 d hd;rw[JB] at this;simpa using this
        have aq:H.length<4611686018427387904:=by
          have:=of_decide_eq_true ak.1.2;omega
        have b7:x.st.length<4294967296:=of_decide_eq_true ak.2;rcases s with⟨y,s⟩ |⟨y,s,ab⟩
        · refine AU (ZT 1 ?_)
          refine Z1 s ?_;refine AU (AU ?_);refine ZT 1 ?_;rcases K:(g.kind==1) with _ |_
          · have aa:(g.kind==2)=true:=by rw[K,NE] at R;exact R
            refine Z1 (Y3 I K aa) ?_;refine ED (c:=true) rfl rfl ?_;refine ZT 1 ?_;refine Z1 (Y3 s I Q) ?_;have⟨A,k1,k2⟩:=ZG (nx:=x.nx+1+4+3+8+8) (n:=n) (ob:=ob) (x:=g) (vo:=.ag [.v (.string ob.type_),.v (.string ob.id_)]) (vx:=.ag [.v (.int .i64 g.kind),.v (.string g.a),.v (.string g.b)]) (fun j w=>P j (by omega)) q1 N1.map hd ao aq rfl rfl;refine CO (AT.mono k2 fun v aE a0 hv=> ?_);obtain⟨rfl,B,C⟩:=hv;have B:=B.symm;subst B;have C:=C.symm;subst C;refine Z1 (Y2 s trivial) ?_;refine ZT 1 ?_;refine Z1 (Ar (n:=x.k)) ?_;generalize k:(upd (x.nx+1+4+3+8+6) (some _) _:Hp)=e;refine⟨⟨⟨x.k+1,e,_,[H.any fun d=>((DJ d (Dq N)).map (·.is)).getD false],x.nx+1+4+3+8+6,0,[H.any fun d=>((DJ d (Dq N)).map (·.is)).getD false]⟩,?_⟩,CW,by show l.length-(x.k+1)<l.length-x.k;omega⟩;have a1:x.nx+1+4+3+8+8<=A:=k1;exact{
                    new:=fun j w=>by
                      have w:A+2<=j:=w;show e j=none;rw[<-k,Ac,Ac];exact P j (by omega)
                    old:=fun i E=>by
                      have:=h.nxs;show e i=hp i;rw[<-k,Ac,Ac];exact Z i E
                    ob_:=by
                      have:=h.nxs;show e nx=_;rw[<-k,Ac,Ac];exact Q
                    row:=fun _=>⟨by show e (x.nx+1+4+3+8+6)=_;rw[<-k,At];rfl,rfl,Lc _,by grind⟩
                    le:=X
                    nxs:=by have:=h.nxs;show nx<A+2;omega
                    small:=by show 1<=4294967296;omega
                    mod:=by rw[y] at b;exact b }
          · refine Z1 (Y2 I K) ?_
            refine ED (c:=true) rfl rfl ?_;refine ZT 1 ?_;refine Z1 (Y3 s I Q) ?_;have⟨A,k1,k2⟩:=ZG (nx:=x.nx+1+4+3+8+8) (n:=n) (ob:=ob) (x:=g) (vo:=.ag [.v (.string ob.type_),.v (.string ob.id_)]) (vx:=.ag [.v (.int .i64 g.kind),.v (.string g.a),.v (.string g.b)]) (fun j w=>P j (by omega)) q1 N1.map hd ao aq rfl rfl;refine CO (AT.mono k2 fun v aE a0 hv=> ?_);obtain⟨rfl,B,C⟩:=hv;have B:=B.symm;subst B;have C:=C.symm;subst C;refine Z1 (Y2 s trivial) ?_;refine ZT 1 ?_;refine Z1 (Ar (n:=x.k)) ?_;generalize k:(upd (x.nx+1+4+3+8+6) (some _) _:Hp)=e;refine⟨⟨⟨x.k+1,e,_,[H.any fun d=>((DJ d (Dq N)).map (·.is)).getD false],x.nx+1+4+3+8+6,0,[H.any fun d=>((DJ d (Dq N)).map (·.is)).getD false]⟩,?_⟩,CW,by show l.length-(x.k+1)<l.length-x.k;omega⟩;have a1:x.nx+1+4+3+8+8<=A:=k1;exact{
                    new:=fun j w=>by
                      have w:A+2<=j:=w;show e j=none;rw[<-k,Ac,Ac];exact P j (by omega)
                    old:=fun i E=>by
                      have:=h.nxs;show e i=hp i;rw[<-k,Ac,Ac];exact Z i E
                    ob_:=by
                      have:=h.nxs;show e nx=_;rw[<-k,Ac,Ac];exact Q
                    row:=fun _=>⟨by show e (x.nx+1+4+3+8+6)=_;rw[<-k,At];rfl,rfl,Lc _,by grind⟩
                    le:=X
                    nxs:=by have:=h.nxs;show nx<A+2;omega
                    small:=by show 1<=4294967296;omega
                    mod:=by rw[y] at b;exact b }
        · have u:=h.row y
          have a9:(x.st.length<=x.es.length)=True:=eq_true u.2.2.1;have ba:(x.st.length+1<=4294967296)=True:=Fa;have bb:(x.rid=x.nx+1+4+3+8+5)=False:=eq_false (by have:=Ch h.new u.1;omega);have bd:EZ 1 [[D.v (.bool (H.any fun d=>((DJ d (Dq N)).map (·.is)).getD false))]]=true:=rfl;refine AU (ZT 1 ?_);refine Z1 s ?_;refine AU (AU ?_);refine ZT 1 ?_;rcases K:(g.kind==1) with _ |_
          · have aa:(g.kind==2)=true:=by rw[K,NE] at R;exact R
            refine Z1 (Y3 I K aa) ?_;refine ED (c:=true) rfl rfl ?_;refine ZT 1 ?_;refine Z1 (Y3 s I Q) ?_;have⟨A,k1,k2⟩:=ZG (nx:=x.nx+1+4+3+8+8) (n:=n) (ob:=ob) (x:=g) (vo:=.ag [.v (.string ob.type_),.v (.string ob.id_)]) (vx:=.ag [.v (.int .i64 g.kind),.v (.string g.a),.v (.string g.b)]) (fun j w=>P j (by omega)) q1 N1.map hd ao aq rfl rfl;refine CO (AT.mono k2 fun v aE a0 hv=> ?_);obtain⟨rfl,B,C⟩:=hv;have B:=B.symm;subst B;have C:=C.symm;subst C;refine Z1 (Y6 s ab a9 ba bd bb) ?_;refine ZT 1 ?_;refine Z1 (Ar (n:=x.k)) ?_;generalize k:(upd x.rid (some _) _:Hp)=e;have a1:x.nx+1+4+3+8+8<=A:=k1;have be:=Ch h.new u.1;have a2:(x.es.take x.st.length).length=x.st.length:=(by rw[Lx];omega);refine⟨⟨⟨x.k+1,e,_,x.st++[H.any fun d=>((DJ d (Dq N)).map (·.is)).getD false],x.rid,x.ver+1,x.es.take x.st.length++[H.any fun d=>((DJ d (Dq N)).map (·.is)).getD false]⟩,?_⟩,Km (DO rfl (DO rfl (DO (by rw[JN (by simp)];simp;rfl) DW))),by show l.length-(x.k+1)<l.length-x.k;omega⟩;exact{
                    new:=fun j w=>by
                      have w:A+2<=j:=w;show e j=none;rw[<-k,Ac,Ac];exact P j (by omega)
                    old:=fun i E=>by
                      have:=h.nxs
                      have:=u.2.2.2;show e i=hp i;rw[<-k,Ac,Ac];exact Z i E
                    ob_:=by
                      have:=h.nxs
                      have:=u.2.2.2;show e nx=_;rw[<-k,Ac,Ac];exact Q
                    row:=fun _=>⟨by show e x.rid=_;rw[<-k,At,LX,NZ];rfl,by grind,by grind,u.2.2.2⟩
                    le:=X
                    nxs:=by have:=h.nxs;show nx<A+2;omega
                    small:=by grind
                    mod:=b }
          · refine Z1 (Y2 I K) ?_
            refine ED (c:=true) rfl rfl ?_;refine ZT 1 ?_;refine Z1 (Y3 s I Q) ?_;have⟨A,k1,k2⟩:=ZG (nx:=x.nx+1+4+3+8+8) (n:=n) (ob:=ob) (x:=g) (vo:=.ag [.v (.string ob.type_),.v (.string ob.id_)]) (vx:=.ag [.v (.int .i64 g.kind),.v (.string g.a),.v (.string g.b)]) (fun j w=>P j (by omega)) q1 N1.map hd ao aq rfl rfl;refine CO (AT.mono k2 fun v aE a0 hv=> ?_);obtain⟨rfl,B,C⟩:=hv;have B:=B.symm;subst B;have C:=C.symm;subst C;refine Z1 (Y6 s ab a9 ba bd bb) ?_;refine ZT 1 ?_;refine Z1 (Ar (n:=x.k)) ?_;generalize k:(upd x.rid (some _) _:Hp)=e;have a1:x.nx+1+4+3+8+8<=A:=k1;have be:=Ch h.new u.1;have a2:(x.es.take x.st.length).length=x.st.length:=(by rw[Lx];omega);refine⟨⟨⟨x.k+1,e,_,x.st++[H.any fun d=>((DJ d (Dq N)).map (·.is)).getD false],x.rid,x.ver+1,x.es.take x.st.length++[H.any fun d=>((DJ d (Dq N)).map (·.is)).getD false]⟩,?_⟩,Km (DO rfl (DO rfl (DO (by rw[JN (by simp)];simp;rfl) DW))),by show l.length-(x.k+1)<l.length-x.k;omega⟩;exact{
                    new:=fun j w=>by
                      have w:A+2<=j:=w;show e j=none;rw[<-k,Ac,Ac];exact P j (by omega)
                    old:=fun i E=>by
                      have:=h.nxs
                      have:=u.2.2.2;show e i=hp i;rw[<-k,Ac,Ac];exact Z i E
                    ob_:=by
                      have:=h.nxs
                      have:=u.2.2.2;show e nx=_;rw[<-k,Ac,Ac];exact Q
                    row:=fun _=>⟨by show e x.rid=_;rw[<-k,At,LX,NZ];rfl,by grind,by grind,u.2.2.2⟩
                    le:=X
                    nxs:=by have:=h.nxs;show nx<A+2;omega
                    small:=by grind
                    mod:=b }
      · have K:(g.kind==1)=false:=by
          cases L:(g.kind==1) with |false=>rfl |true=>exact absurd (by rw[L];rfl) R
        have aa:(g.kind==2)=false:=by
          cases L:(g.kind==2) with |false=>rfl |true=>exact absurd (by rw[L,OF]) R
        unfold Ts at z;rw[if_neg R] at z;have bg:∀O:Hp,(∀i,i<nx->O i=hp i)->GJ hp O:=fun O h2=>⟨fun i=>by
          grind⟩
        rcases s with⟨y,s⟩ |⟨y,s,ab⟩
        · rw[y,if_pos (by decide)] at z
          cases z;cases b;refine AU (ZT 1 ?_);refine Z1 s ?_;refine AU (AU ?_);refine ZT 1 ?_;refine Z1 (Y3 I K aa) ?_;refine DI (c:=false) rfl rfl ?_;refine AQ ?_;refine Dy ?_;refine ED (c:=true) rfl rfl ?_;refine AQ ?_;exact⟨_,hp,rfl,bg _ Z,rfl,rfl,by grind⟩
        · refine AU (ZT 1 ?_)
          refine Z1 s ?_;refine AU (AU ?_);refine ZT 1 ?_;refine Z1 (Y3 I K aa) ?_;refine DI (c:=false) rfl rfl ?_;refine AQ ?_;refine AU (AU ?_);refine ZT 1 ?_;by_cases h2:x.st.length<2
          · rw[if_pos h2] at z
            cases z;cases b;have c2:(decide ((x.st.length:Int)<2))=true:=DB;refine Z1 c2 ?_;refine ED (c:=true) rfl rfl ?_;refine AQ ?_;exact⟨_,hp,rfl,bg _ Z,rfl,rfl,by grind⟩
          · rw[if_neg h2] at z
            cases z;have c2:(decide ((x.st.length:Int)<2))=false:=DE;refine Z1 c2 ?_;refine DI (c:=false) rfl rfl ?_;refine AQ ?_;have u:=h.row y;obtain⟨p,O⟩:∃p,x.st.length=p+2:=⟨x.st.length-2,by omega⟩;have bo:∀j,j<x.st.length->x.es[j]? =some (x.st.getD j false):=fun j w=>by
              grind
            obtain⟨S,br⟩:∃S,S=x.st.getD p false:=⟨_,rfl⟩;obtain⟨T,bs⟩:∃T,T=x.st.getD (p+1) false:=⟨_,rfl⟩;have ea:=bo p (by omega);have eb:=bo (p+1) (by omega);have b:Ht n G ob (Dq N) (l.drop (x.k+1)) (x.st.take (x.st.length-2)++[if g.kind==3 then x.st.getD (x.st.length-2) false||x.st.getD (x.st.length-1) false else if g.kind==5 then x.st.getD (x.st.length-2) false&&x.st.getD (x.st.length-1) false else x.st.getD (x.st.length-2) false&& !x.st.getD (x.st.length-1) false])=some r:=b;have w2:IntKind.i64.wrap (((p+2:Nat):Int)-2)=(p:Int):=by
              rw[show(((p+2:Nat):Int)-2)=(p:Int) by omega];exact Hl (by have:=h.small;omega)
            have w1:IntKind.i64.wrap (((p+2:Nat):Int)-1)=((p+1:Nat):Int):=GB (n:=p+1) (by have:=h.small;omega);rw[O] at b;rw[show p+2-2=p by omega,show p+2-1=p+1 by omega,<-br,<-bs] at b;rw[<-br] at ea;rw[<-bs] at eb;refine AU (ZT 1 ?_);refine Z1 (Y2 (Y6 O w2 w1 ab (Cz eB ea) (Cz eB eb)) (Y2 (show(p<p+2)=True from Fa) (show(p+1<p+2)=True from Fa))) ?_;refine DD (by rfl) ?_;refine Z0 ?_;obtain⟨J,M⟩:∃J,J=(if g.kind==3 then S||T else if g.kind==5 then S&&T else S&& !T):=⟨_,rfl⟩;rw[<-M] at b;refine AU (Dw (α:=Unit) (fun _=>⟨upd 0 (.pt q 0) (upd 4 (.pt nx 0) (upd 7 (.so x.rid x.ver 0 (p+2)) (upd 10 (.v (.int .i64 ((p+2:Nat):Int))) (upd 11 (.v (.bool J)) (upd 13 (.d (.sl (l.map AY)) bl) (upd 14 (.v (.int .i64 (l.length:Int))) (upd 15 (.v (.int .i64 (x.k:Int))) AJ))))))),F,x.nx+1+4+3+8+2+12+100⟩) ?_ fun _=> ?_)
            · have a3:∀ {fr:Fr} {nn:Nat},nn<=x.nx+1+4+3+8+2+12+100->(∀t,(upd 0 (.pt q 0) (upd 4 (.pt nx 0) (upd 7 (.so x.rid x.ver 0 (p+2)) (upd 10 (.v (.int .i64 ((p+2:Nat):Int))) (upd 11 (.v (.bool J)) (upd 13 (.d (.sl (l.map AY)) bl) (upd 14 (.v (.int .i64 (l.length:Int))) (upd 15 (.v (.int .i64 (x.k:Int))) AJ))))))):Fr) t= .un\/(upd 0 (.pt q 0) (upd 4 (.pt nx 0) (upd 7 (.so x.rid x.ver 0 (p+2)) (upd 10 (.v (.int .i64 ((p+2:Nat):Int))) (upd 11 (.v (.bool J)) (upd 13 (.d (.sl (l.map AY)) bl) (upd 14 (.v (.int .i64 (l.length:Int))) (upd 15 (.v (.int .i64 (x.k:Int))) AJ))))))):Fr) t=fr t)->∃_:Unit,CE nx ⟨upd 0 (.pt q 0) (upd 4 (.pt nx 0) (upd 7 (.so x.rid x.ver 0 (p+2)) (upd 10 (.v (.int .i64 ((p+2:Nat):Int))) (upd 11 (.v (.bool J)) (upd 13 (.d (.sl (l.map AY)) bl) (upd 14 (.v (.int .i64 (l.length:Int))) (upd 15 (.v (.int .i64 (x.k:Int))) AJ))))))),F,x.nx+1+4+3+8+2+12+100⟩ ⟨fr,F,nn⟩:=fun L h2=>⟨(),.weak ⟨h2,fun _=>.inr rfl,L⟩⟩
              refine AU (ZT 1 ?_);refine Z1 I ?_;refine CV ?_;refine AU (ZT 1 ?_);rcases ad:(g.kind==3) with _ |_
              · refine Z1 ad ?_
                refine DI (c:=false) rfl rfl ?_;refine AU (ZT 1 ?_);rcases av:(g.kind==5) with _ |_
                · refine Z1 av ?_
                  refine DI (c:=false) rfl rfl ?_;refine ZT 1 ?_;rw[ad,av] at M;cases S<;>cases T<;>simp at M<;>subst M<;>(refine Z0 ?_;exact a3 (by show _<=_;omega) DW)
                · refine Z1 av ?_
                  refine ED (c:=true) rfl rfl ?_;refine ZT 1 ?_;rw[ad,av] at M;cases S<;>cases T<;>simp at M<;>subst M<;>(refine Z0 ?_;exact a3 (by show _<=_;omega) DW)
              · refine Z1 ad ?_
                refine ED (c:=true) rfl rfl ?_;refine ZT 1 ?_;rw[ad] at M;cases S<;>cases T<;>simp at M<;>subst M<;>(refine Z0 ?_;exact a3 (by show _<=_;omega) DW)
            · refine ZT 1 ?_
              have b2:(p<=x.es.length)=True:=eq_true (by have:=u.2.2.1;omega);have b3:(p+1<=4294967296)=True:=eq_true (by have:=h.small;omega);have b4:(p<=p+2)=True:=Fa;refine Z1 (Y2 (Y6 ab w2 b2 b3 b4 (BP p)) (Y2 (show EZ 1 [[D.v (.bool J)]]=true from rfl) (show(x.rid=x.nx+1+4+3+8+2+12+100+5)=False from eq_false (by have:=Ch h.new u.1;omega)))) ?_;refine ZT 1 ?_;refine Z1 (Ar (n:=x.k)) ?_;generalize k:(upd x.rid (some _) _:Hp)=e;have be:=Ch h.new u.1;have a2:(x.es.take p).length=p:=(by rw[Lx];have:=u.2.2.1;omega);have b5:x.st.take p=x.es.take p:=by
                have e1:x.st.take p=(x.es.take x.st.length).take p:=(by rw[u.2.1]);rw[e1,List.take_take,O,B5 (by omega)]
              have bx:(x.st.take p++[J]).length=p+1:=(by rw[b5,Ld,a2];rfl);refine⟨⟨⟨x.k+1,e,_,x.st.take p++[J],x.rid,x.ver+1,x.es.take p++[J]⟩,?_⟩,Km (DO rfl (DO rfl (DO (by rw[JN (xs:=x.st.take p++[J]) (by rw[bx];omega),bx];rfl) DW))),by show l.length-(x.k+1)<l.length-x.k;omega⟩;exact{
                      new:=fun j w=>by
                        have w:x.nx+1+4+3+8+2+12+100+8+2<=j:=w;show e j=none;rw[<-k,Ac,Ac];exact P j (by omega)
                      old:=fun i E=>by
                        have:=h.nxs
                        have:=u.2.2.2;show e i=hp i;rw[<-k,Ac,Ac];exact Z i E
                      ob_:=by
                        have:=h.nxs
                        have:=u.2.2.2;show e nx=_;rw[<-k,Ac,Ac];exact Q
                      row:=fun _=>⟨by show e x.rid=_;rw[<-k,At,LX,NZ];rfl,by grind,by grind,u.2.2.2⟩
                      le:=X
                      nxs:=by grind
                      small:=by grind
                      mod:=b }
    · have c1:(decide ((x.k:Int)<(l.length:Int)))=false:=DE
      rw[Nf (by omega)] at b;refine FM c1 ?_;have b:(x.st.length==1&&x.st.getD 0 false)=r:=LI b;have a4:GJ hp x.hp:=⟨fun i=>by
        rcases Nt i nx with h3 |h3
        · exact .inr (h.old i h3).symm
        · exact .inl (hf i h3)⟩
      by_cases y:x.st= []
      · have s:AW x.rid x.ver (x.st.map eB)= .v (.slice none 0 0):=by rw[y];rfl
        rw[y] at b;refine AU (ZT 1 ?_);refine FM s ?_;exact⟨_,hp,rfl,a4,by rw[<-b];rfl,rfl,by have:=h.nxs;show nx<=x.nx+1+9;omega⟩
      · have s:=JN (f:=eB) (id:=x.rid) (ver:=x.ver) (Nz.2 y)
        have u:=h.row y;refine AU (ZT 1 ?_);rcases L:(x.st.length==1) with _ |_
        · have a5:((x.st.length:Int)==1)=false:=by
            have:x.st.length≠1:=(by simpa using L);simp;omega
          rw[L,Ng] at b;refine Z1 (Y2 s a5) ?_;refine AQ ?_;exact⟨_,hp,rfl,a4,by rw[<-b];rfl,rfl,by have:=h.nxs;show nx<=x.nx+1+9;omega⟩
        · have e1:x.st.length=1:=by simpa using L
          have a5:((x.st.length:Int)==1)=true:=(by rw[e1];rfl);have e2:x.es[0]? =some (x.st.getD 0 false):=by
            have e3:x.es[0]? =x.st[0]? :=by
              rw[<-u.2.1,Nh,ifp]
            rw[e3,BW,Le (by omega)];rfl
          rw[L,NB] at b;rw[b] at e2;refine Z1 (Y6 s a5 u.1 (Cz eB e2) (show EY (.v (.int .i64 0))=some 0 from rfl) (show(0<x.st.length)=True from Fa)) ?_;refine AQ ?_;exact⟨_,hp,rfl,a4,rfl,rfl,by have:=h.nxs;show nx<=x.nx+1+9;omega⟩
def FH (n:Nat)(G:AI)(s:AL)(N:List PN)(r:AB):Option Bool:=(Gs n G.schema r.obj.type_ r.rel).bind fun b=>if b.1.expr.isEmpty then KC n G s N r else if b.1.expr.length<4611686018427387904 then Ht n G r.obj N b.1.expr [] else none
set_option maxRecDepth 4000 in
theorem y6 (n:Nat)(G:AI)(s:AL):Hn G (.v (.string s.type_)) (.v (.string s.id_)) (.v (.string s.rel)) (FH n G s):=by
 intro k c q m o N r b d g f h;unfold FH at h;have⟨C,l,h⟩:=AP h;split at h
 ·exact yl n G s k c q m o N r b d g f h
 rename_i E;split at h;rotate_left
 ·cases h
 rename_i Q;have⟨⟨F,H,p⟩,R⟩:=C;have S:0<p.length:=by
  cases p with |nil=>exact absurd rfl E |cons _ _=>simp
 refine zr Tryz.func100 ?_;have I:nw c q=0:=nz (Ch d g);have J:nw c c=1:=n7;have K:nw c (c+2+16)=19:=by unfold nw;omega
 have L:(decide ((p.length:Int) > 0))=true:=DB;have M:(decide ((0:Int)<(p.length:Int)))=true:=DB;have w:=And.intro (show(c=c+2+16)=False from Ep)<|And.intro (show(q=c+2+16)=False from eq_false (by have:=Ch d g;omega))<|And.intro (FX d g) (Y3 g L M);refine Z1 w ?_;refine Ds (Kf l) ?_;refine Z1 w ?_;refine JW (nw c) _ rfl (by simp only[Nm,Nr,LA,LU,Lh,Lu,HL,I,J,K];rfl) (by rfl) ?_;refine Z1 w ?_;obtain⟨t,u⟩:∃t,t=upd (c+2+16) (some (.bx [.v (.string F),.d (.sl (H.map AR)) true,.d (.sl (p.map AY)) true])) (upd (c+2+16) (some (.bx [.v (.string ByteArray.empty),.v (.slice none 0 0),.v (.slice none 0 0)])) (upd c (some (.bx [.v (.string r.obj.type_),.v (.string r.obj.id_),.v (.string r.rel)])) k)):=⟨_,rfl⟩;have z:∀ {i:Nat} {o:AO},k i=some o->t i=some o:=fun{i o} h=>by
  have:=Ch d h;rw[u,Ac,Ac,Ac];exact h
 have less:GJ k t:=⟨fun i=>by
  by_cases h:i<c
  ·exact .inr (by rw[u,Ac,Ac,Ac])
  exact .inl (d i (by omega))⟩
 have O:DU t m N:=f.more ((z f.map).trans f.map.symm) (fun y x=>(z (f.box y x)).trans (f.box y x).symm) fun y x A=>by
  have l:=f.row y x A;rcases Nt y.rid c with B |B
  ·rw[u,Ac,Ac,Ac]
  rw[d _ B] at l;cases e:y.above with |nil=>exact absurd e A |cons a b=>rw[e] at l;cases l
 rw[<-u];refine CO ((y5 (nx:=c+2+19+4+7) (fun j T=>by rw[u,Ac,Ac,Ac];exact d j (by omega)) (z g) O (vo:=.ag [.v (.string r.obj.type_),.v (.string r.obj.id_)]) rfl (by assumption) h).mono ?_);rintro v U P ⟨rfl,rfl,V⟩;refine Z0 ?_;exact⟨_,k,rfl,less,rfl,rfl,by show c<=P;omega⟩
theorem o7 {α:Type}{g:α->α->Bool}{F:Nat}:∀ {c f:Nat} {b d:List α},Gx g F c b f=some d->d.length=b.length
 |0,_,_,_,h=>by cases h
 |c+1,f,b,d,h=>by
  unfold Gx at h;split at h
  ·have⟨p,i,h⟩:=AP h;have⟨j,e,h⟩:=AP h;have k:=(d7 i (Lf _)).1.1;have l:j.length=p.1.length:=by
    split at e
    ·exact(Rs e).1
    cases e;rfl
   rw[o7 h,l,k]
  cases h;rfl
theorem y7 {α:Type}{c:α->α->Bool}{F:Nat}{xs b:List α}(h:Gy c F xs=some b):b.length=xs.length:=by
 unfold Gy at h;have⟨p,d,h⟩:=AP h;have⟨f,e,h⟩:=AP h;rw[o7 h,(Wd e).1,(d6 d (Lf _)).1.1]
def Hu (f:Nat)(N P:List PN):Option (List AB):=if N.length<4294967296 then Gy (GV fun a b=>GU (Po P a) (Po P b)) f (N.map (·.k)) else none
def Gj (n:Nat)(G:AI)(o:Ae)(rel:ByteArray)(s:AL):Option Bool:=(Hj (JC n G) n [] [⟨o,rel⟩]).bind fun N=>(FY (N.map (·.k)) N).bind fun b=>(Hu n N b).bind fun c=>(Kn (FH n G s) n c b).bind fun d=>if N.isEmpty then none else(DJ ⟨o,rel⟩ d).map (·.is)
theorem o8 {o:Ae}{rel:ByteArray}{s:AL}{r:Bool}(H:Gj n G o rel s=some r):AM Tryz.prog 34 [D.pt (Ak G) 0,.ag (DF o),.v (.string rel),.ag (AR s)] (.v (.bool r)) true:=by
 unfold Gj at H;have⟨N,d,H⟩:=AP H;have⟨f,h,H⟩:=AP H;have⟨C,b,H⟩:=AP H;have⟨E,k,H⟩:=AP H;split at H
 ·cases H
 rename_i l;obtain⟨x,q,rfl⟩:=La.1 H;have j:=Rm (oI h);have t:=dc d NV;unfold Hu at b;split at b;rotate_left
 ·cases b
 rename_i u;exact Rl (y6 n G s) d h (fun e=>l (by rw[e];rfl)) (by omega) (rk:=Po f) (fun p c=>by
  unfold Po;rw[yo (j▸t) c];rfl) (fun r v=>by
  have⟨p,c⟩:=JY (N:=f) (r:=r) (j▸v);rw[c];rfl) (fun g F S I J K i L w y z c M A B=>Rv w y A B z rfl (by simpa using u) (by simpa using b)) (by rw[y7 b,Lt]) k q
theorem dh {nw:List PN->AB->Option Bool}{P:List PN}(d:(P.map (·.k)).Nodup)(e:∀p∈P,∀x∈p.above,x∈P.map (·.k))(g:∀S r,r∈P.map (·.k)->∃b,nw (FP S P) r=some b)(k:Int):
  ∀(f:Nat) (S:AB->Bool) (w:List AB),(∀r∈w,r∈P.map (·.k))->w.length+EH P S<f->w.length+EH P S<=4294967296->∃c,JX nw k f (FP S P) w=some (FP c P)/\EH P c<=EH P S
 |0,_,_,_,h,_=>absurd h (LZ _)
 |f+1,S,[],_,_,_=>⟨S,rfl,Lc _⟩
 |f+1,S,r::w,j,t,u=>by
  have l:=j r (Lp ..);have⟨p,o⟩:=JY l;have⟨q,v⟩:=JF o;have F:=e p q;simp only[Ll] at t u;have y:∀x∈w,x∈P.map (·.k):=fun x s=>j x (Lk _ s);have z:DJ r (FP S P)=some { p with is:=S p.k }:=by rw[Rp,o];rfl
  have i:=dh d e g k f S w y (by omega) (by omega);unfold JX;rw[z,Zo];split
  ·exact i
  cases A:S p.k with
  |true=>
   rw[if_pos rfl];exact i
  |false=>
   have⟨b,B⟩:=g S r l;rw[if_neg (by simp),B,Zo];cases b with
   |false=>
    rw[if_neg (by simp)];exact i
   |true=>
    rw[if_pos rfl];have C:=oZ d q A;rw[if_pos (show w.length+p.above.length<=4294967296 by omega),oY];rw[v] at C;have⟨c,E,H⟩:=dh d e g k f (fun x=>S x||r==x) (p.above.reverse++w) (fun x s=>by
     grind) (by grind) (by grind)
    exact⟨c,E,by omega⟩
theorem oP {nw:List PN->AB->Option Bool}{P:List PN}{f:Nat}(c:(P.map (·.k)).Nodup)(d:∀p∈P,∀x∈p.above,x∈P.map (·.k))(e:∀S r,r∈P.map (·.k)->∃b,nw (FP S P) r=some b):
  ∀(l:List AB) (S:AB->Bool),(∀r∈l,r∈P.map (·.k))->1+EH P S<f->1+EH P S<=4294967296->∃i,Kn nw f l (FP S P)=some (FP i P)
 |[],S,_,_,_=>⟨S,rfl⟩
 |r::l,S,g,s,t=>by
  have⟨p,j⟩:=JY (g r (Lp ..));have k:DJ r (FP S P)=some { p with is:=S p.k }:=by rw[Rp,j];rfl
  unfold Kn;rw[k,Zo];have⟨o,q,u⟩:=dh c d e p.rank f S [r] (fun x h=>by grind) (by omega) (by omega);rw[q,Zo];exact oP c d e l o (fun x h=>g x (Lk _ h)) (by omega) (by omega)
theorem yx {o:Ae}{rel:ByteArray}{s:AL}{U:List AB}{D:AB->List AB}{rk:AB->Int}(B:U.Nodup)(C:U.length<=1000000)(e:(⟨o,rel⟩:AB)∈U)(E:∀r∈U,JC n G r=some (rk r,D r))(H:∀r∈U,∀d∈D r,d∈U)(I:total D U<=1000000000)(hn:2000000000<n)
  (J:∀(K:List AB) (S:AB->Bool) (N:List PN),(∀r∈K,r∈U)->N.map (·.k)=K->(∀p∈N,p.deps=D p.k/\p.is=S p.k)->(∀r∈K,∀d∈D r,d∈K)->∀r∈K,∃b,FH n G s N r=some b):
  ∃b,Gj n G o rel s=some b:=by
 have Y:Ma D U []<=total D U:=by
  unfold Ma total;rw[show(U.filter fun r=>decide (r∉([]:List PN).map (·.k)))=U from B0.2 fun _ _=>by simp];exact Lc _
 have⟨K,L,j,u,_,k,l,_⟩:=ZL (nd:=JC n G) B (by omega) E H n [] [⟨o,rel⟩] NV (fun _ h=>nomatch h) (fun r h=>by rw[Lr.1 h];exact e) (by simp only[Lo,Lu];omega) (by simp only[Lo,Lu];omega);have l:=l fun _ h=>nomatch h;have k:=k _ (Lr.2 rfl)
 have i:(K.map (mkP rk D)).map (·.k)=K:=by simp[mkP,NO]
 have M:=Lq (dj (D:=D) j u) I;have O:FY K (K.map (mkP rk D))=some (addL (wh_ D K) (K.map (mkP rk D))):=di D K _ (by rw[i];exact fun _ h=>h) (fun p c=>by
  obtain⟨r,e,rfl⟩:=LL.1 c;rw[i];exact⟨rfl,l r e⟩) fun p c=>by
  obtain⟨r,e,rfl⟩:=LL.1 c;simp only[mkP,LB];omega
 obtain⟨P,v⟩:∃P,P=addL (wh_ D K) (K.map (mkP rk D)):=⟨_,rfl⟩;have g:P.map (·.k)=K:=by rw[v,ZM,i]
 have t:∀p∈P,p.k∈K/\p=⟨p.k,rk p.k,D p.k,wh_ D K p.k,false⟩:=fun p c=>by
  rw[v] at c;obtain⟨q,w,rfl⟩:=LL.1 c;obtain⟨r,e,rfl⟩:=LL.1 w;exact⟨e,rfl⟩
 have Q:P=FP (fun _=>false) P:=by
  unfold FP;refine((Np fun p c=> ?_).trans (Iw _)).symm
  have:=(t p c).2;rw[this];rfl
 have Z:K.length<=1000000:=Lq (Wa j u) C;have⟨y,R,T,o3⟩:=o5 (F:=n) (od (Po P)) K (by omega) (by omega);have V:∀r∈y,r∈K:=fun r e=>T.mem_iff.1 e;have aa:EH P (fun _=>false)<=1000000000:=by
  unfold EH;rw[show(P.filter fun p=> !(fun _=>false) p.k)=P from B0.2 fun p _=>rfl];have z:(P.map fun p=>p.above.length)=K.map fun x=>(wh_ D K x).length:=by
   rw[<-g,Ba];refine Np fun p c=> ?_
   have:=(t p c).2;simp only[Function.comp];rw[g];exact congrArg (fun q:PN=>q.above.length) this
  rw[z];exact Lq (du j) M
 have⟨S,X⟩:=oP (f:=n) (nw:=FH n G s) (P:=P) (by rw[g];exact j) (fun p c x A=>by
  have⟨z,h2⟩:=t p c;rw[h2] at A;rw[g];exact(oX.1 A).1) (fun S r e=>by
  rw[g] at e;refine J K S _ u (by rw[FP,Ba];exact g) (fun p c=> ?_) l r e;obtain⟨q,w,rfl⟩:=LL.1 c;refine⟨?_,rfl⟩
  have:=(t q w).2;exact congrArg PN.deps this) y (fun _=>false) (fun r e=>by rw[g];exact V r e) (by omega) (by omega)
 refine⟨S ⟨o,rel⟩,?_⟩;unfold Gj;rw[show([]:List PN)=([]:List AB).map (mkP rk D) from rfl,L,Zo,i,O,Zo,<-v];unfold Hu;rw[Lt,ifp,i,R,Zo];rw[Q,X,Zo,if_neg (by
  cases K with |nil=>cases k |cons _ _=>simp),Rp]
 have⟨p,c⟩:=JY (N:=P) (r:=⟨o,rel⟩) (by rw[g];exact k);rw[c];show some (S p.k)=_;rw[(JF c).2]
theorem o9 {s:ByteArray}{r:List AG}(h:MS n s=some r):AM Tryz.prog 8 [D.v (.string s)] (D.sl (r.map AS)) true:=by
 unfold MS at h;obtain⟨y,b,rfl⟩:=La.1 h;refine zP #[.tmp 2] Tryz.func8 ?_;refine Dg ?_;refine CT (xR b) ?_;refine FN ?_;exact As
def ZV (n:Nat)(l:List AG):Option (AD × Int):=match HO n l with
 |some (.inl S)=>some (S,0)
 |_=>none
theorem y9 {l:List AG}{r:AD × Int}(h:ZV n l=some r):AM Tryz.prog 62 [D.sl (l.map AS)] (D.tu [D.pt (Av r.1) 0,D.v (.int .i64 r.2)]) false:=by
 unfold ZV at h;split at h
 ·rename_i S e;cases h;exact AM.of_A (ds:=[.sl (l.map AS)]) (pm e)
 cases h
theorem zA {l:List AG}{rows:List AC}{e:Int}(h:HO n l=some (.inr e))(b:(e != 0)=true):AM Tryz.prog 32 [D.sl (l.map AS),D.sl (rows.map AE)] (D.tu [.v (.pointer none),D.v (.int .i64 e)]) false:=by
 have c:AM Tryz.prog 62 [D.sl (l.map AS)] (.tu [.v (.pointer none),.v (.int .i64 e)]) false:=AM.of_A (ds:=[.sl (l.map AS)]) (pm h);refine zP #[.tmp 4,.tmp 5] Tryz.func32 ?_;refine Dg ?_;refine CT c ?_;refine DQ ?_;refine Z1 b ?_;exact As
end Go.Proofs.YtnmkbmefohakmaaGreat.Ab
namespace Go.Proofs.YtnmkbmefohakmaaGreat.Ab
open Go.Shelf Go.RowKit
def VL:Go.Shelf.Ren:=⟨fun |213=>138 |265=>155 |n=>n,fun |9=>9 |3=>3 |n=>n,fun |n=>n⟩
theorem Qg:Lays.n213 Tryz.prog VL:={
 mixed:=by kernel_rfl
 f213:=Tryz.func138.trans (congrArg some (by kernel_rfl))
 f265:=Tryz.func155.trans (congrArg some (by kernel_rfl))
 t3:=Tryz.underlying3
 a3:=Tryz.isAgg3
 z3:=Tryz.sizeOf3
 v3:=Tryz.zeroValue3
 t9:=Tryz.underlying9
 a9:=Tryz.isAgg9
 z9:=Tryz.sizeOf9
 v9:=Tryz.zeroValue9 }
def Gf (a b:ByteArray):Int:=Lib.compareBytes a.data.toList b.data.toList
def bytealg_CompareString (c:Nat)(a b:ByteArray):Option Int:=some (Gf a b)
variable {a:ByteArray}
theorem we {w:World}{I:Nat->Prop}{c:Array Value}{b:ByteArray}(e:c.size=2)(h:∀(j:Nat) (x:D),[D.v (.string a),D.v (.string b)][j]? =some x->∃u,c[j]? =some u/\Dc w I x u):c= #[.string a,.string b]:=by
 have⟨f,g,i⟩:=h 0 _ rfl;have⟨k,l,o⟩:=h 1 _ rfl;cases(show RC w I (.v (.string a)) f from i);cases(show RC w I (.v (.string b)) k from o);apply OJ
 ·simpa using e
 intro j d p
 have:j=0\/j=1:=by
  have:j<2:=by simpa using p
  omega
 rcases this with rfl |rfl
 ·simpa [d] using g
 simpa [d] using l
theorem wg {n:Nat}{b:ByteArray}{r:Int}(h:bytealg_CompareString n a b=some r):AM Tryz.prog 138 [D.v (.string a),D.v (.string b)] (D.v (.int .i64 r)) true:=by
 obtain rfl:=LI h;refine⟨⟨_,Tryz.func138,by kernel_rfl,by kernel_rfl⟩,fun w f g _ c h=> ?_⟩;obtain rfl:=we c h;refine(Any.bytealg_CompareString Qg a b w).mono ?_;rintro e d ⟨rfl,rfl⟩;exact⟨_,rfl,⟨Below.refl _ _,Lc _⟩,(.v _ rfl:RC d _ _ _)⟩
theorem Q3 (a b:ByteArray):decide (Gf a b<0)=tx.lt a b:=by
 have h:∀a b:List UInt8,Op.bytesLess a b=decide (Lib.compareBytes a b<0):=by
  intro a;induction a with
  |nil=>intro b;cases b<;>simp[Op.bytesLess,Lib.compareBytes]
  |cons a j c=>
   intro b;cases b with
   |nil=>simp[Op.bytesLess,Lib.compareBytes]
   |cons b i=>
    have c:=c i;simp only[Op.bytesLess,Lib.compareBytes];by_cases d:a<b
    ·simp[d]
    by_cases g:b<a
    ·have f:a≠b:=(by intro e;subst e;exact d g);simp[d,g,f]
    have f:a=b:=by
     rw[O0] at *;exact UInt8.toNat_inj.1 (by omega)
    subst f;simp[c]
 show _=Op.bytesLess a.toList b.toList;rw[Lib.toList_data,Lib.toList_data,h];rfl
theorem mB:∀a b:List UInt8,Lib.compareBytes a b= -Lib.compareBytes b a
 |[],[]=>rfl
 |[],_::_=>rfl
 |_::_,[]=>rfl
 |a::e,b::f=>by
  have g:=mB e f;simp only[Lib.compareBytes];by_cases d:a<b
  ·have c:¬b<a:=(by rw[O0] at *;omega);simp[d,c]
  by_cases c:b<a
  ·simp[d,c]
  simp[d,c,g]
theorem cZ (a b:ByteArray):Gf a b= -Gf b a:=mB _ _
theorem TG (a b:ByteArray):Gf a b=0↔a=b:=by
 constructor
 ·intro h;have c:=Q3 a b;have d:=Q3 b a;have e:=cZ a b;exact tx.total (c.symm.trans DE) (d.symm.trans DE)
 rintro rfl;have c:=Q3 a a;rw[tx.irrefl] at c;have d:=cZ a a;have e:=of_decide_eq_false c;omega
theorem wh {b c:ByteArray}(g:Gf a b<0)(h:Gf b c<0):Gf a c<0:=by
 have d:=Q3 a b;have e:=Q3 b c;have f:=Q3 a c;rw[decide_eq_true g] at d;rw[decide_eq_true h] at e;rw[tx.trans d.symm e.symm] at f;exact of_decide_eq_true f
def Gp:List Int->Int
 |[]=>0
 |x::r=>if x=0 then Gp r else x
def Eu (x y:List ByteArray):Int:=Gp (List.zipWith Gf x y)
theorem ca:∀x y,Eu x y= -Eu y x
 |[],[]=>rfl
 |[],_::_=>rfl
 |_::_,[]=>rfl
 |a::x,b::y=>by
  have d:=ca x y;have h:=cZ a b;unfold Eu at *;simp only[Bb,Gp];by_cases c:Gf b a=0
  ·simp[h,c,d]
  simp[h,c]
theorem Vf:∀x y:List ByteArray,x.length=y.length->(Eu x y=0↔x=y)
 |[],[],_=>by simp[Eu,Gp]
 |[],_::_,h=>by simp at h
 |_::_,[],h=>by simp at h
 |a::x,b::y,h=>by
  have d:=Vf x y (by simpa using h);unfold Eu at *;simp only[Bb,Gp,List.cons.injEq];by_cases c:Gf a b=0
  ·rw[if_pos c,d]
   have:=(TG a b).1 c;simp[this]
  have:a≠b:=fun e=>c ((TG a b).2 e)
  simp[c,this]
theorem mC:∀x y z:List ByteArray,x.length=y.length->y.length=z.length->Eu x y<0->Eu y z<0->Eu x z<0
 |[],[],[],_,_,h,_=>by simp[Eu,Gp] at h
 |[],_::_,_,h,_,_,_=>by simp at h
 |_::_,[],_,h,_,_,_=>by simp at h
 |_,[],_::_,_,h,_,_=>by simp at h
 |_,_::_,[],_,h,_,_=>by simp at h
 |a::x,b::y,c::z,j,k,f,d=>by
  have l:=mC x y z (by simpa using j) (by simpa using k);unfold Eu at *;simp only[Bb,Gp] at *;by_cases i:Gf a b=0
  ·have e:=(TG a b).1 i;subst e;rw[if_pos i] at f;by_cases g:Gf a c=0
   ·rw[if_pos g] at d⊢;exact l f d
   rw[if_neg g] at d⊢;exact d
  rw[if_neg i] at f;by_cases g:Gf b c=0
  ·have e:=(TG b c).1 g;subst e;rw[if_neg i];exact f
  rw[if_neg g] at d;have o:=wh f d;rw[ifn];exact o
def cc {α:Type}(f:α->List ByteArray)(b:∀x y,(f x).length=(f y).length)(c:∀x y,f x=f y->x=y):Lin α where
 lt x y:=decide (Eu (f x) (f y)<0)
 irrefl x:=decide_eq_false (by have:=(Vf (f x) (f x) rfl).2 rfl;omega)
 trans h1 h2:=decide_eq_true (mC _ _ _ (b _ _) (b _ _) (of_decide_eq_true h1) (of_decide_eq_true h2))
 total {x y} h1 h2:=c _ _ ((Vf _ _ (b _ _)).1 (by
  have d:=of_decide_eq_false h1;have e:=of_decide_eq_false h2;have g:=ca (f x) (f y);omega))
end Go.Proofs.YtnmkbmefohakmaaGreat.Ab
namespace Go.Proofs.YtnmkbmefohakmaaGreat.Ab
open Go.RowKit
def Wg (n:Nat)(b:List Int):Nat->Int->Option ((Unit) ⊕ Int)
 |0,_=>none
 |c+1,d=>(if decide (d<(b.length:Int)) then (idx b d).bind fun e=>(if (e != 0) then some (.inr e) else Wg n b c (IntKind.i64.wrap (d+1))) else some (.inl ()))
def Wh (n:Nat)(b:List Int):Option Int:=(Wg n b n 0:Option ((Unit) ⊕ Int)).bind fun
  | .inl _=>some 0
  | .inr r=>some r
variable {n:Nat}{r:Int}
theorem zG {g:List Int}(H:Wh n g=some r):AM Tryz.prog 105 [D.sl (List.map eI g)] (D.v (.int .i64 r)) true:=by
 unfold Wh at H;refine zP #[.tmp 2] Tryz.func105 ?_;refine Dg ?_;refine Dy ?_;refine zi H (fun f _ _=>⟨kp [3] f AJ,AK,0⟩) (fun o j b=> ?_) fun _ b=> ?_
 ·refine D9 j (fun f _ h=>⟨kp [3,6,7] f (upd 8 (.v (.int .i64 h)) AJ),AK,0⟩) (ZR []) fun c h k=> ?_
  refine AQ ?_;obtain⟨d,H15⟩ |⟨d,H15⟩:=Ah k
  ·obtain⟨p,q,s,l,H17⟩:=zI eI H15;have i:=Y2 d l;refine Z1 i ?_;obtain⟨e,H23⟩ |⟨e,H23⟩:=Cb i H17
   ·refine Z1 e ?_;cases H23;cases b;exact As
   refine Z1 e ?_;exact⟨_,H23,ZR []⟩
  refine Z1 d ?_;cases H15;exact⟨_,rfl,ZR []⟩
 refine AQ ?_;cases b;exact As
def Md (n:Nat)(a:ByteArray)(b:ByteArray):Option Int:=(bytealg_CompareString n a b).bind fun c=>some c
theorem Tu {a:ByteArray}{b:ByteArray}(H:Md n a b=some r):AM Tryz.prog 106 [D.v (.string a),D.v (.string b)] (D.v (.int .i64 r)) true:=by
 unfold Md at H;refine zP #[.tmp 4] Tryz.func106 ?_;refine ZT 1 ?_;have⟨e,c,d⟩:=AP H;refine Z0 ?_;refine CT (wg c) ?_;refine Z0 ?_;cases d;exact As
def ZW (n:Nat)(a:AC)(b:AC):Option Int:=(Md n a.obj.type_ b.obj.type_).bind fun c=>(Md n a.obj.id_ b.obj.id_).bind fun d=>(Md n a.rel b.rel).bind fun e=>(Md n a.sub_.type_ b.sub_.type_).bind fun f=>(Md n a.sub_.id_ b.sub_.id_).bind fun g=>(Md n a.sub_.rel b.sub_.rel).bind fun h=>(Wh n [c,d,e,f,g,h]).bind fun i=>some i
theorem zH {a:AC}{b:AC}(H:ZW n a b=some r):AM Tryz.prog 120 [D.ag (AE a),D.ag (AE b)] (D.v (.int .i64 r)) true:=by
 unfold ZW at H;refine zP #[.tmp 4] Tryz.func120 ?_;refine ZT 1 ?_;have⟨p,c,d⟩:=AP H;refine Z0 ?_;refine Ds (Tu c) ?_;have⟨q,e,f⟩:=AP d;refine Z0 ?_;refine Ds (Tu e) ?_;have⟨s,g,h⟩:=AP f;refine Z0 ?_;refine Ds (Tu g) ?_;have⟨t,i,j⟩:=AP h;refine Z0 ?_;refine Ds (Tu i) ?_;have⟨u,k,H10⟩:=AP j;refine Z0 ?_;refine Ds (Tu k) ?_;have⟨v,l,H12⟩:=AP H10;refine Z0 ?_;refine Ds (Tu l) ?_;have⟨w,o,H14⟩:=AP H12;refine Z0 ?_;refine Ds (zG o) ?_;refine Z0 ?_;refine DD (by kernel_rfl) ?_;refine Z0 ?_;cases H14;exact As
end Go.Proofs.YtnmkbmefohakmaaGreat.Ab

namespace Go.Proofs.YtnmkbmefohakmaaGreat.Ab
open Go.RowKit Lib
variable {m:Nat}
section
variable {α:Type}[Inhabited α][DecidableEq α]
def cq (xs:List α)(m:Nat):List α:=compactUpTo xs.toArray m
def yq (xs:List α)(m:Nat):List α:=cq xs m++xs.drop (cq xs m).length
theorem jq {xs:List α}(h:0<xs.length):cq xs 1=xs.take 1:=by
 obtain⟨x,r,rfl⟩:∃x r,xs=x::r:=by cases xs with |nil=>simp at h |cons x r=>exact⟨x,r,rfl⟩
 simp[cq,compactUpTo,keeps,OM]
omit [DecidableEq α] in
theorem Jp {xs:List α}{k:Nat}(h:k<xs.length):xs.toArray[k]! =xs[k]:=by simp[h]
theorem Jq {xs:List α}(h:m+1<xs.length)(b:xs[m+1]=xs[m]):cq xs (m+2)=cq xs (m+1):=by
 unfold cq;rw[compactUpTo_succ,keeps_neg (by omega) (by rw[Ip,Jp h,Jp (by omega),b]),if_neg (by decide),Ns]
theorem Jr {xs:List α}(h:m+1<xs.length)(b:xs[m+1]≠xs[m]):cq xs (m+2)=cq xs (m+1)++[xs[m+1]]:=by
 unfold cq;rw[compactUpTo_succ,keeps_pos (by rw[Ip,Jp h,Jp (by omega)];exact b),if_pos rfl,Jp h]
theorem Js (xs:List α):∀m,(cq xs m).length<=m
 |0=>by simp[cq,compactUpTo]
 |m+1=>by
  have:=Js xs m;unfold cq at *;rw[compactUpTo_succ,Ld];split<;>simp <;>omega
theorem Qe {xs:List α}(h:m<=xs.length):(yq xs m).length=xs.length:=by
 have:=Js xs m;unfold yq;rw[Ld,ND];omega
theorem Jt {xs:List α}{j:Nat}(b:(cq xs m).length<=j)(c:j<xs.length):(yq xs m)[j]? =some xs[j]:=by
 unfold yq;rw[Nn b,NT,show(cq xs m).length+(j-(cq xs m).length)=j by omega,Le c]
theorem vL {xs:List α}{k:Nat}(h:cq xs k=xs.take k)(b:k<=xs.length):yq xs k=xs:=by
 unfold yq;rw[h,Lx,B5 b,LK]
theorem jr {xs:List α}(h:cq xs (m+2)=cq xs (m+1)):yq xs (m+2)=yq xs (m+1):=by
 unfold yq;rw[h]
theorem Qf {xs:List α}(h:m+1<xs.length)(b:(cq xs (m+1)).length<xs.length)(c:xs[m+1]≠xs[m]):(yq xs (m+1)).set (cq xs (m+1)).length xs[m+1]=yq xs (m+2):=by
 unfold yq;rw[Jr h c,Ol _ _ (Lc _),BM,Lj b,Ow,Lz,Ld,Lo];rfl
theorem VK (xs:List α):cq xs xs.length=compact xs:=rfl
end
end Go.Proofs.YtnmkbmefohakmaaGreat.Ab
