/-
 What the library's Compact keeps, place by place. No program in sight.
-/
import Derived.Test.YtnmkbmefohakmaaGreatSkw
set_option linter.all false
namespace Go.Proofs.YtnmkbmefohakmaaGreat.Ab
open Go.RowKit
def Sz (n:Nat)(G:AM)(ob:Ao)(N:List PN)(x:AY)(st:List Bool):Option (Option (List Bool)):=if x.kind==1||x.kind==2 then(Q0 n G ob x).bind fun l=>if l.all (fun d=>(Cp d N).isSome)&&decide (l.length<4294967296)&&decide (st.length<4294967296) then some (some (st++[l.any (fun d=>((Cp d N).map (·.is)).getD false)])) else none else if st.length<2 then some none else some (some (st.take (st.length-2)++[if x.kind==3 then st.getD (st.length-2) false||st.getD (st.length-1) false else if x.kind==5 then st.getD (st.length-2) false&&st.getD (st.length-1) false else st.getD (st.length-2) false&& !st.getD (st.length-1) false]))
def Hu (n:Nat)(G:AM)(ob:Ao)(N:List PN):List AY->List Bool->Option Bool
  |[],st=>some (st.length==1&&st.getD 0 false)
  |x::l,st=>(Sz n G ob N x st).bind fun r=>match r with
    |none=>some false
    |some st=>Hu n G ob N l st
structure TS where
  k:Nat
  hp:Hp
  nx:Nat
  st:List Bool
  rid:Nat
  ver:Nat
  es:List Bool
structure cJ (n:Nat) (G:AM) (ob:Ao) (N:List PN) (l:List AY) (hp0:Hp) (nx0:Nat) (r:Bool) (x:TS):Prop where
  new:∀j,x.nx<=j->x.hp j=none
  old:∀i,i<nx0->x.hp i=hp0 i
  ob_:x.hp nx0=some (.bx [.v (.string ob.type_),.v (.string ob.id_)])
  row:x.st≠[]->x.hp x.rid=some (.rw (x.es.map eB) 1 x.ver false false)/\x.es.take x.st.length=x.st/\x.st.length<=x.es.length/\nx0<x.rid
  le:x.k<=l.length
  nxs:nx0<x.nx
  small:x.st.length<=4294967296
  mod:Hu n G ob N (l.drop x.k) x.st=some r
set_option maxRecDepth 4000 in
theorem vF {hp:Hp}{nx q m n:Nat}{G:AM}{ob:Ao}{l:List AY}{bl r:Bool}{s1 s2 s3 o vo:AV}{N:List Nd}(hf:∀j,nx<=j->hp j=none)
    (hq:hp q=some (.bx [.d (.pt (Aq G) 0) true,s1,s2,s3,.mo m,o])) (hN:C0 hp m N) (hvo:De vo=some [.v (.string ob.type_),.v (.string ob.id_)]) (hl:l.length<4611686018427387904) (hr:Hu n G ob (DW N) l []=some r):
    AK Tryz.prog 126 [.pt q 0,vo,.d (.sl (l.map Aj)) bl] hp nx fun v hp2 nx2=>v= .v (.bool r)/\hp2=hp/\nx<=nx2:=by
  refine zq Tryz.func126 ?_;refine AW (ZT 1 ?_);refine Ck hvo ?_;refine Z0 ?_;refine ET ?_;refine CN ?_;refine DS (α:={ x:TS // cJ n G ob (DW N) l hp nx r x }) (fun x=>⟨upd 0 (.pt q 0) (upd 4 (.pt nx 0) (upd 7 (Aa x.1.rid x.1.ver (x.1.st.map eB)) (upd 13 (.d (.sl (l.map Aj)) bl) (upd 14 (.v (.int .i64 (l.length:Int))) (upd 15 (.v (.int .i64 (x.1.k:Int))) AQ))))),x.1.hp,x.1.nx⟩) (fun x=>l.length-x.1.k)
    ⟨⟨0,upd nx (some (.bx [.v (.string ob.type_),.v (.string ob.id_)])) hp,nx+2+1+3,[],0,0,[]⟩,?_⟩ ?_ ?_
  · exact{
            new:=fun j hj=>by
              grind [upd,AR]
            old:=fun i hi=>AR
            ob_:=Ah ..
            row:=fun h=>absurd rfl h
            le:=Ll _
            nxs:=by show nx<nx+2+1+3;omega
            small:=Ll _
            mod:=hr }
  · exact CH
  · rintro⟨x,h⟩
    have hq1:x.hp q=some (.bx [.d (.pt (Aq G) 0) true,s1,s2,s3,.mo m,o]):=(h.old _ (CR hf hq)).trans hq;have hN1:C0 x.hp m N:=hN.more (h.old _ (CR hf hN.map)) (fun nd hn=>h.old _ (CR hf (hN.box nd hn))) fun nd hn ha=>h.old _ (CR hf ((hN.row nd hn ha).trans (Gn ha)));have hm:=h.mod;refine AW (ZT 1 ?_);by_cases hk:x.k<l.length
    · have c1:(decide ((x.k:Int)<(l.length:Int)))=true:=Cb
      refine Ck c1 ?_;refine Z0 ?_;refine AW (CN ?_);refine AW ?_;obtain⟨g,hg⟩:∃g,l[x.k]? =some g:=⟨_,Ld hk⟩;rw[Ly hk,show l[x.k]=g from(Lb.1 hg).2] at hm;unfold Hu at hm;obtain⟨res,hs,hm⟩:=AJ hm;refine ZT 1 ?_;refine Z1 (Cs Aj hg) ?_;generalize e1:(upd (x.nx+1+2) (some _) _:Hp)=hp1;have old1:∀i,i<x.nx->hp1 i=x.hp i:=fun i hi=>(by rw[<-e1,AR,AR]);have new1:∀j,x.nx+1+4<=j->hp1 j=none:=fun j hj=>(by rw[<-e1,AR,AR];exact h.new j (by omega));have b1:hp1 (x.nx+1+2)=some (.bx [.v (.int .i64 g.kind),.v (.string g.a),.v (.string g.b)]):=(by rw[<-e1,Ah]);have o1:hp1 nx=some (.bx [.v (.string ob.type_),.v (.string ob.id_)]):=(old1 _ h.nxs).trans h.ob_;have q1:hp1 q=some (.bx [.d (.pt (Aq G) 0) true,s1,s2,s3,.mo m,o]):=(old1 _ (CR h.new hq1)).trans hq1
      have N1:C0 hp1 m N:=hN1.more (old1 _ (CR h.new hN1.map)) (fun nd hn=>old1 _ (CR h.new (hN1.box nd hn))) fun nd hn ha=>old1 _ (CR h.new ((hN1.row nd hn ha).trans (Gn ha)));have old0:∀i,i<nx->hp1 i=hp i:=fun i hi=>(old1 i (by have:=h.nxs;omega)).trans (h.old i hi)
      have hsv:(x.st= []/\Aa x.rid x.ver (x.st.map eB)= .v (.slice none 0 0))\/(x.st≠[]/\Aa x.rid x.ver (x.st.map eB)= .so x.rid x.ver 0 x.st.length/\hp1 x.rid=some (.rw (x.es.map eB) 1 x.ver false false)):=by
        by_cases h0:x.st= []
        · exact .inl ⟨h0,by rw[h0];rfl⟩
        · have hr:=(h.row h0).1
          exact .inr ⟨h0,JC (NA.2 h0),(old1 _ (CR h.new hr)).trans hr⟩
      by_cases hlf:(g.kind==1||g.kind==2)=true
      · unfold Sz at hs
        rw[if_pos hlf] at hs;obtain⟨ds,hd,hs⟩:=AJ hs;split at hs;rotate_left
        · cases hs
        rename_i hok;rw[Li,Li,LL] at hok;cases hs;have hm:Hu n G ob (DW N) (l.drop (x.k+1)) (x.st++[ds.any fun d=>((Cp d (DW N)).map (·.is)).getD false])=some r:=hm;have at1:FG hp1 (FT N) (fun r=>((Cp r (DW N)).map (·.is)).getD false) ds:=N1.at_ fun d hd=>by
          have:=hok.1.1 d hd;rw[IZ] at this;simpa using this
        have hdl:ds.length<4611686018427387904:=by
          have:=of_decide_eq_true hok.1.2;omega
        have hsl:x.st.length<4294967296:=of_decide_eq_true hok.2;rcases hsv with⟨h0,hsv⟩ |⟨h0,hsv,hrow⟩
        · refine AW (ZT 1 ?_)
          refine Z1 hsv ?_;refine AW (AW ?_);refine ZT 1 ?_;rcases hk1:(g.kind==1) with _ |_
          · have hk2:(g.kind==2)=true:=by rw[hk1,BT] at hlf;exact hlf
            refine Z1 (Y3 b1 hk1 hk2) ?_;refine EV (c:=true) rfl rfl ?_;refine ZT 1 ?_;refine Z1 (Y3 hsv b1 o1) ?_;obtain⟨nx5,k1,k2⟩:=Xy (nx:=x.nx+1+4+3+8+8) (n:=n) (ob:=ob) (x:=g) (vo:=.ag [.v (.string ob.type_),.v (.string ob.id_)]) (vx:=.ag [.v (.int .i64 g.kind),.v (.string g.a),.v (.string g.b)]) (fun j hj=>new1 j (by omega)) q1 N1.map hd at1 hdl rfl rfl;refine CG (AK.mono k2 fun v hp5 nx5' hv=> ?_);obtain⟨rfl,hv2,hv3⟩:=hv;have hv2:=hv2.symm;subst hv2;have hv3:=hv3.symm;subst hv3;refine Z1 (Y2 hsv trivial) ?_;refine ZT 1 ?_;refine Z1 (As (n:=x.k)) ?_;generalize e6:(upd (x.nx+1+4+3+8+6) (some _) _:Hp)=hp6;refine⟨⟨⟨x.k+1,hp6,_,[ds.any fun d=>((Cp d (DW N)).map (·.is)).getD false],x.nx+1+4+3+8+6,0,[ds.any fun d=>((Cp d (DW N)).map (·.is)).getD false]⟩,?_⟩,CH,by show l.length-(x.k+1)<l.length-x.k;omega⟩;have k1':x.nx+1+4+3+8+8<=nx5:=k1;exact{
                    new:=fun j hj=>by
                      have hj:nx5+2<=j:=hj;show hp6 j=none;rw[<-e6,AR,AR];exact new1 j (by omega)
                    old:=fun i hi=>by
                      have:=h.nxs;show hp6 i=hp i;rw[<-e6,AR,AR];exact old0 i hi
                    ob_:=by
                      have:=h.nxs;show hp6 nx=_;rw[<-e6,AR,AR];exact o1
                    row:=fun _=>⟨by show hp6 (x.nx+1+4+3+8+6)=_;rw[<-e6,Ah];rfl,rfl,Lc _,by grind⟩
                    le:=hk
                    nxs:=by have:=h.nxs;show nx<nx5+2;omega
                    small:=by show 1<=4294967296;omega
                    mod:=by rw[h0] at hm;exact hm }
          · refine Z1 (Y2 b1 hk1) ?_
            refine EV (c:=true) rfl rfl ?_;refine ZT 1 ?_;refine Z1 (Y3 hsv b1 o1) ?_;obtain⟨nx5,k1,k2⟩:=Xy (nx:=x.nx+1+4+3+8+8) (n:=n) (ob:=ob) (x:=g) (vo:=.ag [.v (.string ob.type_),.v (.string ob.id_)]) (vx:=.ag [.v (.int .i64 g.kind),.v (.string g.a),.v (.string g.b)]) (fun j hj=>new1 j (by omega)) q1 N1.map hd at1 hdl rfl rfl;refine CG (AK.mono k2 fun v hp5 nx5' hv=> ?_);obtain⟨rfl,hv2,hv3⟩:=hv;have hv2:=hv2.symm;subst hv2;have hv3:=hv3.symm;subst hv3;refine Z1 (Y2 hsv trivial) ?_;refine ZT 1 ?_;refine Z1 (As (n:=x.k)) ?_;generalize e6:(upd (x.nx+1+4+3+8+6) (some _) _:Hp)=hp6;refine⟨⟨⟨x.k+1,hp6,_,[ds.any fun d=>((Cp d (DW N)).map (·.is)).getD false],x.nx+1+4+3+8+6,0,[ds.any fun d=>((Cp d (DW N)).map (·.is)).getD false]⟩,?_⟩,CH,by show l.length-(x.k+1)<l.length-x.k;omega⟩;have k1':x.nx+1+4+3+8+8<=nx5:=k1;exact{
                    new:=fun j hj=>by
                      have hj:nx5+2<=j:=hj;show hp6 j=none;rw[<-e6,AR,AR];exact new1 j (by omega)
                    old:=fun i hi=>by
                      have:=h.nxs;show hp6 i=hp i;rw[<-e6,AR,AR];exact old0 i hi
                    ob_:=by
                      have:=h.nxs;show hp6 nx=_;rw[<-e6,AR,AR];exact o1
                    row:=fun _=>⟨by show hp6 (x.nx+1+4+3+8+6)=_;rw[<-e6,Ah];rfl,rfl,Lc _,by grind⟩
                    le:=hk
                    nxs:=by have:=h.nxs;show nx<nx5+2;omega
                    small:=by show 1<=4294967296;omega
                    mod:=by rw[h0] at hm;exact hm }
        · have hrw:=h.row h0
          have hlt:(x.st.length<=x.es.length)=True:=eq_true hrw.2.2.1;have hle:(x.st.length+1<=4294967296)=True:=FB;have hne5:(x.rid=x.nx+1+4+3+8+5)=False:=eq_false (by have:=CR h.new hrw.1;omega);have hlt2:ED 1 [[D.v (.bool (ds.any fun d=>((Cp d (DW N)).map (·.is)).getD false))]]=true:=rfl;refine AW (ZT 1 ?_);refine Z1 hsv ?_;refine AW (AW ?_);refine ZT 1 ?_;rcases hk1:(g.kind==1) with _ |_
          · have hk2:(g.kind==2)=true:=by rw[hk1,BT] at hlf;exact hlf
            refine Z1 (Y3 b1 hk1 hk2) ?_;refine EV (c:=true) rfl rfl ?_;refine ZT 1 ?_;refine Z1 (Y3 hsv b1 o1) ?_;obtain⟨nx5,k1,k2⟩:=Xy (nx:=x.nx+1+4+3+8+8) (n:=n) (ob:=ob) (x:=g) (vo:=.ag [.v (.string ob.type_),.v (.string ob.id_)]) (vx:=.ag [.v (.int .i64 g.kind),.v (.string g.a),.v (.string g.b)]) (fun j hj=>new1 j (by omega)) q1 N1.map hd at1 hdl rfl rfl;refine CG (AK.mono k2 fun v hp5 nx5' hv=> ?_);obtain⟨rfl,hv2,hv3⟩:=hv;have hv2:=hv2.symm;subst hv2;have hv3:=hv3.symm;subst hv3;refine Z1 (Y6 hsv hrow hlt hle hlt2 hne5) ?_;refine ZT 1 ?_;refine Z1 (As (n:=x.k)) ?_;generalize e6:(upd x.rid (some _) _:Hp)=hp6;have k1':x.nx+1+4+3+8+8<=nx5:=k1;have hrl:=CR h.new hrw.1;have htl:(x.es.take x.st.length).length=x.st.length:=(by rw[Lw];omega);refine⟨⟨⟨x.k+1,hp6,_,x.st++[ds.any fun d=>((Cp d (DW N)).map (·.is)).getD false],x.rid,x.ver+1,x.es.take x.st.length++[ds.any fun d=>((Cp d (DW N)).map (·.is)).getD false]⟩,?_⟩,Kg (Cv rfl (Cv rfl (Cv (by rw[JC (by simp)];simp;rfl) C7))),by show l.length-(x.k+1)<l.length-x.k;omega⟩;exact{
                    new:=fun j hj=>by
                      have hj:nx5+2<=j:=hj;show hp6 j=none;rw[<-e6,AR,AR];exact new1 j (by omega)
                    old:=fun i hi=>by
                      have:=h.nxs
                      have:=hrw.2.2.2;show hp6 i=hp i;rw[<-e6,AR,AR];exact old0 i hi
                    ob_:=by
                      have:=h.nxs
                      have:=hrw.2.2.2;show hp6 nx=_;rw[<-e6,AR,AR];exact o1
                    row:=fun _=>⟨by show hp6 x.rid=_;rw[<-e6,Ah,Na,Be];rfl,by grind,by grind,hrw.2.2.2⟩
                    le:=hk
                    nxs:=by have:=h.nxs;show nx<nx5+2;omega
                    small:=by grind
                    mod:=hm }
          · refine Z1 (Y2 b1 hk1) ?_
            refine EV (c:=true) rfl rfl ?_;refine ZT 1 ?_;refine Z1 (Y3 hsv b1 o1) ?_;obtain⟨nx5,k1,k2⟩:=Xy (nx:=x.nx+1+4+3+8+8) (n:=n) (ob:=ob) (x:=g) (vo:=.ag [.v (.string ob.type_),.v (.string ob.id_)]) (vx:=.ag [.v (.int .i64 g.kind),.v (.string g.a),.v (.string g.b)]) (fun j hj=>new1 j (by omega)) q1 N1.map hd at1 hdl rfl rfl;refine CG (AK.mono k2 fun v hp5 nx5' hv=> ?_);obtain⟨rfl,hv2,hv3⟩:=hv;have hv2:=hv2.symm;subst hv2;have hv3:=hv3.symm;subst hv3;refine Z1 (Y6 hsv hrow hlt hle hlt2 hne5) ?_;refine ZT 1 ?_;refine Z1 (As (n:=x.k)) ?_;generalize e6:(upd x.rid (some _) _:Hp)=hp6;have k1':x.nx+1+4+3+8+8<=nx5:=k1;have hrl:=CR h.new hrw.1;have htl:(x.es.take x.st.length).length=x.st.length:=(by rw[Lw];omega);refine⟨⟨⟨x.k+1,hp6,_,x.st++[ds.any fun d=>((Cp d (DW N)).map (·.is)).getD false],x.rid,x.ver+1,x.es.take x.st.length++[ds.any fun d=>((Cp d (DW N)).map (·.is)).getD false]⟩,?_⟩,Kg (Cv rfl (Cv rfl (Cv (by rw[JC (by simp)];simp;rfl) C7))),by show l.length-(x.k+1)<l.length-x.k;omega⟩;exact{
                    new:=fun j hj=>by
                      have hj:nx5+2<=j:=hj;show hp6 j=none;rw[<-e6,AR,AR];exact new1 j (by omega)
                    old:=fun i hi=>by
                      have:=h.nxs
                      have:=hrw.2.2.2;show hp6 i=hp i;rw[<-e6,AR,AR];exact old0 i hi
                    ob_:=by
                      have:=h.nxs
                      have:=hrw.2.2.2;show hp6 nx=_;rw[<-e6,AR,AR];exact o1
                    row:=fun _=>⟨by show hp6 x.rid=_;rw[<-e6,Ah,Na,Be];rfl,by grind,by grind,hrw.2.2.2⟩
                    le:=hk
                    nxs:=by have:=h.nxs;show nx<nx5+2;omega
                    small:=by grind
                    mod:=hm }
      · have hk1:(g.kind==1)=false:=by
          cases h1:(g.kind==1) with |false=>rfl |true=>exact absurd (by rw[h1];rfl) hlf
        have hk2:(g.kind==2)=false:=by
          cases h1:(g.kind==2) with |false=>rfl |true=>exact absurd (by rw[h1,O6]) hlf
        unfold Sz at hs;rw[if_neg hlf] at hs;have less1:∀hp2:Hp,(∀i,i<nx->hp2 i=hp i)->Fj hp hp2:=fun hp2 h2=>⟨fun i=>by
          grind⟩
        rcases hsv with⟨h0,hsv⟩ |⟨h0,hsv,hrow⟩
        · rw[h0,if_pos (by decide)] at hs
          cases hs;cases hm;refine AW (ZT 1 ?_);refine Z1 hsv ?_;refine AW (AW ?_);refine ZT 1 ?_;refine Z1 (Y3 b1 hk1 hk2) ?_;refine DF (c:=false) rfl rfl ?_;refine AN ?_;refine ET ?_;refine EV (c:=true) rfl rfl ?_;refine AN ?_;exact⟨_,hp,rfl,less1 _ old0,rfl,rfl,by grind⟩
        · refine AW (ZT 1 ?_)
          refine Z1 hsv ?_;refine AW (AW ?_);refine ZT 1 ?_;refine Z1 (Y3 b1 hk1 hk2) ?_;refine DF (c:=false) rfl rfl ?_;refine AN ?_;refine AW (AW ?_);refine ZT 1 ?_;by_cases h2:x.st.length<2
          · rw[if_pos h2] at hs
            cases hs;cases hm;have c2:(decide ((x.st.length:Int)<2))=true:=Cb;refine Z1 c2 ?_;refine EV (c:=true) rfl rfl ?_;refine AN ?_;exact⟨_,hp,rfl,less1 _ old0,rfl,rfl,by grind⟩
          · rw[if_neg h2] at hs
            cases hs;have c2:(decide ((x.st.length:Int)<2))=false:=Cr;refine Z1 c2 ?_;refine DF (c:=false) rfl rfl ?_;refine AN ?_;have hrw:=h.row h0;obtain⟨p,hp2⟩:∃p,x.st.length=p+2:=⟨x.st.length-2,by omega⟩;have st1:∀j,j<x.st.length->x.es[j]? =some (x.st.getD j false):=fun j hj=>by
              grind
            obtain⟨va,eva⟩:∃va,va=x.st.getD p false:=⟨_,rfl⟩;obtain⟨vb,evb⟩:∃vb,vb=x.st.getD (p+1) false:=⟨_,rfl⟩;have ea:=st1 p (by omega);have eb:=st1 (p+1) (by omega);have hm:Hu n G ob (DW N) (l.drop (x.k+1)) (x.st.take (x.st.length-2)++[if g.kind==3 then x.st.getD (x.st.length-2) false||x.st.getD (x.st.length-1) false else if g.kind==5 then x.st.getD (x.st.length-2) false&&x.st.getD (x.st.length-1) false else x.st.getD (x.st.length-2) false&& !x.st.getD (x.st.length-1) false])=some r:=hm;have w2:IntKind.i64.wrap (((p+2:Nat):Int)-2)=(p:Int):=by
              rw[show(((p+2:Nat):Int)-2)=(p:Int) by omega];exact Iv (by have:=h.small;omega)
            have w1:IntKind.i64.wrap (((p+2:Nat):Int)-1)=((p+1:Nat):Int):=HJ (n:=p+1) (by have:=h.small;omega);rw[hp2] at hm;rw[show p+2-2=p by omega,show p+2-1=p+1 by omega,<-eva,<-evb] at hm;rw[<-eva] at ea;rw[<-evb] at eb;refine AW (ZT 1 ?_);refine Z1 (Y2 (Y6 hp2 w2 w1 hrow (Cs eB ea) (Cs eB eb)) (Y2 (show(p<p+2)=True from FB) (show(p+1<p+2)=True from FB))) ?_;refine DR (by rfl) ?_;refine Z0 ?_;obtain⟨vr,evr⟩:∃vr,vr=(if g.kind==3 then va||vb else if g.kind==5 then va&&vb else va&& !vb):=⟨_,rfl⟩;rw[<-evr] at hm;refine AW (EI (α:=Unit) (fun _=>⟨upd 0 (.pt q 0) (upd 4 (.pt nx 0) (upd 7 (.so x.rid x.ver 0 (p+2)) (upd 10 (.v (.int .i64 ((p+2:Nat):Int))) (upd 11 (.v (.bool vr)) (upd 13 (.d (.sl (l.map Aj)) bl) (upd 14 (.v (.int .i64 (l.length:Int))) (upd 15 (.v (.int .i64 (x.k:Int))) AQ))))))),hp1,x.nx+1+4+3+8+2+12+100⟩) ?_ fun _=> ?_)
            · have fin:∀ {fr:Fr} {nn:Nat},nn<=x.nx+1+4+3+8+2+12+100->(∀t,(upd 0 (.pt q 0) (upd 4 (.pt nx 0) (upd 7 (.so x.rid x.ver 0 (p+2)) (upd 10 (.v (.int .i64 ((p+2:Nat):Int))) (upd 11 (.v (.bool vr)) (upd 13 (.d (.sl (l.map Aj)) bl) (upd 14 (.v (.int .i64 (l.length:Int))) (upd 15 (.v (.int .i64 (x.k:Int))) AQ))))))):Fr) t= .un\/(upd 0 (.pt q 0) (upd 4 (.pt nx 0) (upd 7 (.so x.rid x.ver 0 (p+2)) (upd 10 (.v (.int .i64 ((p+2:Nat):Int))) (upd 11 (.v (.bool vr)) (upd 13 (.d (.sl (l.map Aj)) bl) (upd 14 (.v (.int .i64 (l.length:Int))) (upd 15 (.v (.int .i64 (x.k:Int))) AQ))))))):Fr) t=fr t)->∃_:Unit,A6 nx ⟨upd 0 (.pt q 0) (upd 4 (.pt nx 0) (upd 7 (.so x.rid x.ver 0 (p+2)) (upd 10 (.v (.int .i64 ((p+2:Nat):Int))) (upd 11 (.v (.bool vr)) (upd 13 (.d (.sl (l.map Aj)) bl) (upd 14 (.v (.int .i64 (l.length:Int))) (upd 15 (.v (.int .i64 (x.k:Int))) AQ))))))),hp1,x.nx+1+4+3+8+2+12+100⟩ ⟨fr,hp1,nn⟩:=fun h1 h2=>⟨(),.weak ⟨h2,fun _=>.inr rfl,h1⟩⟩
              refine AW (ZT 1 ?_);refine Z1 b1 ?_;refine CN ?_;refine AW (ZT 1 ?_);rcases hk3:(g.kind==3) with _ |_
              · refine Z1 hk3 ?_
                refine DF (c:=false) rfl rfl ?_;refine AW (ZT 1 ?_);rcases hk5:(g.kind==5) with _ |_
                · refine Z1 hk5 ?_
                  refine DF (c:=false) rfl rfl ?_;refine ZT 1 ?_;rw[hk3,hk5] at evr;cases va<;>cases vb<;>simp at evr<;>subst evr<;>(refine Z0 ?_;exact fin (by show _<=_;omega) C7)
                · refine Z1 hk5 ?_
                  refine EV (c:=true) rfl rfl ?_;refine ZT 1 ?_;rw[hk3,hk5] at evr;cases va<;>cases vb<;>simp at evr<;>subst evr<;>(refine Z0 ?_;exact fin (by show _<=_;omega) C7)
              · refine Z1 hk3 ?_
                refine EV (c:=true) rfl rfl ?_;refine ZT 1 ?_;rw[hk3] at evr;cases va<;>cases vb<;>simp at evr<;>subst evr<;>(refine Z0 ?_;exact fin (by show _<=_;omega) C7)
            · refine ZT 1 ?_
              have hlc:(p<=x.es.length)=True:=eq_true (by have:=hrw.2.2.1;omega);have hl2:(p+1<=4294967296)=True:=eq_true (by have:=h.small;omega);have hl3:(p<=p+2)=True:=FB;refine Z1 (Y2 (Y6 hrow w2 hlc hl2 hl3 (B7 p)) (Y2 (show ED 1 [[D.v (.bool vr)]]=true from rfl) (show(x.rid=x.nx+1+4+3+8+2+12+100+5)=False from eq_false (by have:=CR h.new hrw.1;omega)))) ?_;refine ZT 1 ?_;refine Z1 (As (n:=x.k)) ?_;generalize e6:(upd x.rid (some _) _:Hp)=hp6;have hrl:=CR h.new hrw.1;have htl:(x.es.take p).length=p:=(by rw[Lw];have:=hrw.2.2.1;omega);have hst:x.st.take p=x.es.take p:=by
                have e1:x.st.take p=(x.es.take x.st.length).take p:=(by rw[hrw.2.1]);rw[e1,List.take_take,hp2,BZ (by omega)]
              have hsl2:(x.st.take p++[vr]).length=p+1:=(by rw[hst,Lf,htl];rfl);refine⟨⟨⟨x.k+1,hp6,_,x.st.take p++[vr],x.rid,x.ver+1,x.es.take p++[vr]⟩,?_⟩,Kg (Cv rfl (Cv rfl (Cv (by rw[JC (xs:=x.st.take p++[vr]) (by rw[hsl2];omega),hsl2];rfl) C7))),by show l.length-(x.k+1)<l.length-x.k;omega⟩;exact{
                      new:=fun j hj=>by
                        have hj:x.nx+1+4+3+8+2+12+100+8+2<=j:=hj;show hp6 j=none;rw[<-e6,AR,AR];exact new1 j (by omega)
                      old:=fun i hi=>by
                        have:=h.nxs
                        have:=hrw.2.2.2;show hp6 i=hp i;rw[<-e6,AR,AR];exact old0 i hi
                      ob_:=by
                        have:=h.nxs
                        have:=hrw.2.2.2;show hp6 nx=_;rw[<-e6,AR,AR];exact o1
                      row:=fun _=>⟨by show hp6 x.rid=_;rw[<-e6,Ah,Na,Be];rfl,by grind,by grind,hrw.2.2.2⟩
                      le:=hk
                      nxs:=by grind
                      small:=by grind
                      mod:=hm }
    · have c1:(decide ((x.k:Int)<(l.length:Int)))=false:=Cr
      rw[Nz (by omega)] at hm;refine Ep c1 ?_;have hm:(x.st.length==1&&x.st.getD 0 false)=r:=LI hm;have less2:Fj hp x.hp:=⟨fun i=>by
        rcases Nf i nx with h3 |h3
        · exact .inr (h.old i h3).symm
        · exact .inl (hf i h3)⟩
      by_cases h0:x.st= []
      · have hsv:Aa x.rid x.ver (x.st.map eB)= .v (.slice none 0 0):=by rw[h0];rfl
        rw[h0] at hm;refine AW (ZT 1 ?_);refine Ep hsv ?_;exact⟨_,hp,rfl,less2,by rw[<-hm];rfl,rfl,by have:=h.nxs;show nx<=x.nx+1+9;omega⟩
      · have hsv:=JC (f:=eB) (id:=x.rid) (ver:=x.ver) (NA.2 h0)
        have hrw:=h.row h0;refine AW (ZT 1 ?_);rcases h1:(x.st.length==1) with _ |_
        · have h1':((x.st.length:Int)==1)=false:=by
            have:x.st.length≠1:=(by simpa using h1);simp;omega
          rw[h1,Nj] at hm;refine Z1 (Y2 hsv h1') ?_;refine AN ?_;exact⟨_,hp,rfl,less2,by rw[<-hm];rfl,rfl,by have:=h.nxs;show nx<=x.nx+1+9;omega⟩
        · have e1:x.st.length=1:=by simpa using h1
          have h1':((x.st.length:Int)==1)=true:=(by rw[e1];rfl);have e2:x.es[0]? =some (x.st.getD 0 false):=by
            have e3:x.es[0]? =x.st[0]? :=by
              rw[<-hrw.2.1,Nn,ifp]
            rw[e3,BU,Ld (by omega)];rfl
          rw[h1,NG] at hm;rw[hm] at e2;refine Z1 (Y6 hsv h1' hrw.1 (Cs eB e2) (show D8 (.v (.int .i64 0))=some 0 from rfl) (show(0<x.st.length)=True from FB)) ?_;refine AN ?_;exact⟨_,hp,rfl,less2,rfl,rfl,by have:=h.nxs;show nx<=x.nx+1+9;omega⟩
def Ek (n:Nat)(G:AM)(s:AL)(N:List PN)(r:AB):Option Bool:=(Gm n G.schema r.obj.type_ r.rel).bind fun rel=>if rel.1.expr.isEmpty then KF n G s N r else if rel.1.expr.length<4611686018427387904 then Hu n G r.obj N rel.1.expr [] else none
set_option maxRecDepth 4000 in
theorem vG (n:Nat)(G:AM)(s:AL):Hn G (.v (.string s.type_)) (.v (.string s.id_)) (.v (.string s.rel)) (Ek n G s):=by
 intro hp nx q m o N r b hf hq hN h;unfold Ek at h;obtain⟨rel,h1,h⟩:=AJ h;split at h
 ·exact uv n G s hp nx q m o N r b hf hq hN h
 rename_i he;split at h;rotate_left
 ·cases h
 rename_i hl;obtain⟨⟨rn,rs,re⟩,ro⟩:=rel;have he0:0<re.length:=by
  cases re with |nil=>exact absurd rfl he |cons _ _=>simp
 refine zr Tryz.func100 ?_;have n0:nw nx q=0:=kl (CR hf hq);have n1:nw nx nx=1:=km;have n2:nw nx (nx+2+16)=19:=by unfold nw;omega
 have c1:(decide ((re.length:Int) > 0))=true:=Cb;have c2:(decide ((0:Int)<(re.length:Int)))=true:=Cb;have w:=And.intro (show(nx=nx+2+16)=False from EU)<|And.intro (show(q=nx+2+16)=False from eq_false (by have:=CR hf hq;omega))<|And.intro (E8 hf hq) (Y3 hq c1 c2);refine Z1 w ?_;refine Ea (Ka h1) ?_;refine Z1 w ?_;refine JH (nw nx) _ rfl (by simp only[Nc,Nk,LE,LJ,Lk,LD,HH,n0,n1,n2];rfl) (by rfl) ?_;refine Z1 w ?_;obtain⟨hp1,e1⟩:∃hp1,hp1=upd (nx+2+16) (some (.bx [.v (.string rn),.d (.sl (rs.map AZ)) true,.d (.sl (re.map Aj)) true])) (upd (nx+2+16) (some (.bx [.v (.string ByteArray.empty),.v (.slice none 0 0),.v (.slice none 0 0)])) (upd nx (some (.bx [.v (.string r.obj.type_),.v (.string r.obj.id_),.v (.string r.rel)])) hp)):=⟨_,rfl⟩;have old:∀ {i:Nat} {o:AO},hp i=some o->hp1 i=some o:=fun{i o} h=>by
  have:=CR hf h;rw[e1,AR,AR,AR];exact h
 have less:Fj hp hp1:=⟨fun i=>by
  by_cases h:i<nx
  ·exact .inr (by rw[e1,AR,AR,AR])
  exact .inl (hf i (by omega))⟩
 have hN1:C0 hp1 m N:=hN.more ((old hN.map).trans hN.map.symm) (fun y hy=>(old (hN.box y hy)).trans (hN.box y hy).symm) fun y hy ha=>by
  have h1:=hN.row y hy ha;rcases Nf y.rid nx with h2 |h2
  ·rw[e1,AR,AR,AR]
  rw[hf _ h2] at h1;cases e:y.above with |nil=>exact absurd e ha |cons a b=>rw[e] at h1;cases h1
 rw[<-e1];refine CG ((vF (nx:=nx+2+19+4+7) (fun j hj=>by rw[e1,AR,AR,AR];exact hf j (by omega)) (old hq) hN1 (vo:=.ag [.v (.string r.obj.type_),.v (.string r.obj.id_)]) rfl (by assumption) h).mono ?_);rintro v hp2 nx2 ⟨rfl,rfl,hle⟩;refine Z0 ?_;exact⟨_,hp,rfl,less,rfl,rfl,by show nx<=nx2;omega⟩
theorem mC {α:Type}{lt:α->α->Bool}{F:Nat}:∀ {c bs:Nat} {xs ys:List α},Gr lt F c xs bs=some ys->ys.length=xs.length
 |0,_,_,_,h=>by cases h
 |c+1,bs,xs,ys,h=>by
  unfold Gr at h;split at h
  ·obtain⟨p,h1,h⟩:=AJ h;obtain⟨zs,h2,h⟩:=AJ h;have e1:=(cM h1 (Ll _)).1.1;have e2:zs.length=p.1.length:=by
    split at h2
    ·exact(RF h2).1
    cases h2;rfl
   rw[mC h,e2,e1]
  cases h;rfl
theorem vH {α:Type}{lt:α->α->Bool}{F:Nat}{xs ys:List α}(h:Gt lt F xs=some ys):ys.length=xs.length:=by
 unfold Gt at h;obtain⟨p,h1,h⟩:=AJ h;obtain⟨zs,h2,h⟩:=AJ h;rw[mC h,(VW h2).1,(cL h1 (Ll _)).1.1]
def Hv (f:Nat)(N P:List PN):Option (List AB):=if N.length<4294967296 then Gt (GK fun a b=>GJ (PR P a) (PR P b)) f (N.map (·.k)) else none
def Hw (n:Nat)(G:AM)(o:Ao)(rel:ByteArray)(s:AL):Option Bool:=(Hk (Ir n G) n [] [⟨o,rel⟩]).bind fun N=>(E9 (N.map (·.k)) N).bind fun P1=>(Hv n N P1).bind fun ord=>(Kh (Ek n G s) n ord P1).bind fun P2=>if N.isEmpty then none else(Cp ⟨o,rel⟩ P2).map (·.is)
theorem vJ {n:Nat}{G:AM}{o:Ao}{rel:ByteArray}{s:AL}{r:Bool}(H:Hw n G o rel s=some r):AI Tryz.prog 34 [D.pt (Aq G) 0,.ag (Du o),.v (.string rel),.ag (AZ s)] (.v (.bool r)) true:=by
 unfold Hw at H;obtain⟨N,h1,H⟩:=AJ H;obtain⟨P1,h2,H⟩:=AJ H;obtain⟨ord,h3,H⟩:=AJ H;obtain⟨P2,h4,H⟩:=AJ H;split at H
 ·cases H
 rename_i hne;obtain⟨x,h5,rfl⟩:=La.1 H;have hk:=RB (lI h2);have hnd:=cA h1 NZ;unfold Hv at h3;split at h3;rotate_left
 ·cases h3
 rename_i hl;exact Q9 (vG n G s) h1 h2 (fun e=>hne (by rw[e];rfl)) (by omega) (rk:=PR P1) (fun p hp=>by
  unfold PR;rw[uy (hk▸hnd) hp];rfl) (fun r hr=>by
  obtain⟨p,hp⟩:=JJ (N:=P1) (r:=r) (hk▸hr);rw[hp];rfl) (fun g caps S ids hp0 br i ver hc hi hS hp nx hh hx=>RH hc hi hh hx hS rfl (by simpa using hl) (by simpa using h3)) (by rw[vH h3,LC]) h4 h5
theorem cD {nw:List PN->AB->Option Bool}{P:List PN}(hnd:(P.map (·.k)).Nodup)(hP:∀p∈P,∀x∈p.above,x∈P.map (·.k))(hnw:∀S r,r∈P.map (·.k)->∃b,nw (Er S P) r=some b)(k:Int):
  ∀(f:Nat) (S:AB->Bool) (w:List AB),(∀r∈w,r∈P.map (·.k))->w.length+Ds P S<f->w.length+Ds P S<=4294967296->∃S',JI nw k f (Er S P) w=some (Er S' P)/\Ds P S'<=Ds P S
 |0,_,_,_,h,_=>absurd h (LK _)
 |f+1,S,[],_,_,_=>⟨S,rfl,Lc _⟩
 |f+1,S,r::w,hw,hf,hb=>by
  have hrK:=hw r (Lo ..);obtain⟨p,hp⟩:=JJ hrK;obtain⟨hpm,hpk⟩:=Iw hp;have hab:=hP p hpm;simp only[Lg] at hf hb;have hw2:∀x∈w,x∈P.map (·.k):=fun x hx=>hw x (Lh _ hx);have e0:Cp r (Er S P)=some { p with is:=S p.k }:=by rw[RD,hp];rfl
  have ih:=cD hnd hP hnw k f S w hw2 (by omega) (by omega);unfold JI;rw[e0,Zo];split
  ·exact ih
  cases hs:S p.k with
  |true=>
   rw[if_pos rfl];exact ih
  |false=>
   obtain⟨b,hb1⟩:=hnw S r hrK;rw[if_neg (by simp),hb1,Zo];cases b with
   |false=>
    rw[if_neg (by simp)];exact ih
   |true=>
    rw[if_pos rfl];have ho:=lW hnd hpm hs;rw[if_pos (show w.length+p.above.length<=4294967296 by omega),lV];rw[hpk] at ho;obtain⟨S',q1,q2⟩:=cD hnd hP hnw k f (fun x=>S x||r==x) (p.above.reverse++w) (fun x hx=>by
     grind) (by grind) (by grind)
    exact⟨S',q1,by omega⟩
theorem lM {nw:List PN->AB->Option Bool}{P:List PN}{f:Nat}(hnd:(P.map (·.k)).Nodup)(hP:∀p∈P,∀x∈p.above,x∈P.map (·.k))(hnw:∀S r,r∈P.map (·.k)->∃b,nw (Er S P) r=some b):
  ∀(l:List AB) (S:AB->Bool),(∀r∈l,r∈P.map (·.k))->1+Ds P S<f->1+Ds P S<=4294967296->∃S',Kh nw f l (Er S P)=some (Er S' P)
 |[],S,_,_,_=>⟨S,rfl⟩
 |r::l,S,hl,hf,hb=>by
  obtain⟨p,hp⟩:=JJ (hl r (Lo ..));have e0:Cp r (Er S P)=some { p with is:=S p.k }:=by rw[RD,hp];rfl
  unfold Kh;rw[e0,Zo];obtain⟨S1,q1,q2⟩:=cD hnd hP hnw p.rank f S [r] (fun x hx=>by grind) (by omega) (by omega);rw[q1,Zo];exact lM hnd hP hnw l S1 (fun x hx=>hl x (Lh _ hx)) (by omega) (by omega)
theorem vD {n:Nat}{G:AM}{o:Ao}{rel:ByteArray}{s:AL}{U:List AB}{D:AB->List AB}{rk:AB->Int}(hU:U.Nodup)(hl:U.length<=1000000)(hr:(⟨o,rel⟩:AB)∈U)(hnd:∀r∈U,Ir n G r=some (rk r,D r))(hD:∀r∈U,∀d∈D r,d∈U)(ht:total D U<=1000000000)(hn:2000000000<n)
  (hnw:∀(K:List AB) (S:AB->Bool) (N:List PN),(∀r∈K,r∈U)->N.map (·.k)=K->(∀p∈N,p.deps=D p.k/\p.is=S p.k)->(∀r∈K,∀d∈D r,d∈K)->∀r∈K,∃b,Ek n G s N r=some b):
  ∃b,Hw n G o rel s=some b:=by
 have hun:MS D U []<=total D U:=by
  unfold MS total;rw[show(U.filter fun r=>decide (r∉([]:List PN).map (·.k)))=U from BY.2 fun _ _=>by simp];exact Lc _
 obtain⟨K,k1,k2,k3,_,k5,k6,_⟩:=X6 (nd:=Ir n G) hU (by omega) hnd hD n [] [⟨o,rel⟩] NZ (fun _ h=>nomatch h) (fun r h=>by rw[Ln.1 h];exact hr) (by simp only[Lr,LD];omega) (by simp only[Lr,LD];omega);have k6:=k6 fun _ h=>nomatch h;have k5:=k5 _ (Ln.2 rfl)
 have hkk:(K.map (mkP rk D)).map (·.k)=K:=by simp[mkP,NM]
 have htK:=Lp (cF (D:=D) k2 k3) ht;have e2:E9 K (K.map (mkP rk D))=some (addL (zy_ D K) (K.map (mkP rk D))):=cE D K _ (by rw[hkk];exact fun _ h=>h) (fun p hp=>by
  obtain⟨r,hr,rfl⟩:=LQ.1 hp;rw[hkk];exact⟨rfl,k6 r hr⟩) fun p hp=>by
  obtain⟨r,hr,rfl⟩:=LQ.1 hp;simp only[mkP,LB];omega
 obtain⟨P,eP⟩:∃P,P=addL (zy_ D K) (K.map (mkP rk D)):=⟨_,rfl⟩;have hPk:P.map (·.k)=K:=by rw[eP,X7,hkk]
 have hPm:∀p∈P,p.k∈K/\p=⟨p.k,rk p.k,D p.k,zy_ D K p.k,false⟩:=fun p hp=>by
  rw[eP] at hp;obtain⟨q,hq,rfl⟩:=LQ.1 hp;obtain⟨r,hr,rfl⟩:=LQ.1 hq;exact⟨hr,rfl⟩
 have hPis:P=Er (fun _=>false) P:=by
  unfold Er;refine((Ni fun p hp=> ?_).trans (Ii _)).symm
  have:=(hPm p hp).2;rw[this];rfl
 have hKl:K.length<=1000000:=Lp (X5 k2 k3) hl;obtain⟨ord,o1,o2,o3⟩:=mB (F:=n) (lY (PR P)) K (by omega) (by omega);have oK:∀r∈ord,r∈K:=fun r hr=>o2.mem_iff.1 hr;have how:Ds P (fun _=>false)<=1000000000:=by
  unfold Ds;rw[show(P.filter fun p=> !(fun _=>false) p.k)=P from BY.2 fun p _=>rfl];have h1:(P.map fun p=>p.above.length)=K.map fun x=>(zy_ D K x).length:=by
   rw[<-hPk,N8];refine Ni fun p hp=> ?_
   have:=(hPm p hp).2;simp only[Function.comp];rw[hPk];exact congrArg (fun q:PN=>q.above.length) this
  rw[h1];exact Lp (cG k2) htK
 obtain⟨S,r1⟩:=lM (f:=n) (nw:=Ek n G s) (P:=P) (by rw[hPk];exact k2) (fun p hp x hx=>by
  obtain⟨h1,h2⟩:=hPm p hp;rw[h2] at hx;rw[hPk];exact(lU.1 hx).1) (fun S r hr=>by
  rw[hPk] at hr;refine hnw K S _ k3 (by rw[Er,N8];exact hPk) (fun p hp=> ?_) k6 r hr;obtain⟨q,hq,rfl⟩:=LQ.1 hp;refine⟨?_,rfl⟩
  have:=(hPm q hq).2;exact congrArg PN.deps this) ord (fun _=>false) (fun r hr=>by rw[hPk];exact oK r hr) (by omega) (by omega)
 refine⟨S ⟨o,rel⟩,?_⟩;unfold Hw;rw[show([]:List PN)=([]:List AB).map (mkP rk D) from rfl,k1,Zo,hkk,e2,Zo,<-eP];unfold Hv;rw[LC,ifp,hkk,o1,Zo];rw[hPis,r1,Zo,if_neg (by
  cases K with |nil=>cases k5 |cons _ _=>simp),RD]
 obtain⟨p,hp⟩:=JJ (N:=P) (r:=⟨o,rel⟩) (by rw[hPk];exact k5);rw[hp];show some (S p.k)=_;rw[(Iw hp).2]
theorem vZ {n:Nat}{s:ByteArray}{r:List AT}(h:MO n s=some r):AI Tryz.prog 8 [D.v (.string s)] (D.sl (r.map Ak)) true:=by
 unfold MO at h;obtain⟨y,hy,rfl⟩:=La.1 h;refine zP #[.tmp 2] Tryz.func8 ?_;refine D3 ?_;refine DB (tj hy) ?_;refine GI ?_;exact CC
def YI (n:Nat)(l:List AT):Option (AC × Int):=match I6 n l with
 |some (.inl S)=>some (S,0)
 |_=>none
theorem vc {n:Nat}{l:List AT}{r:AC × Int}(h:YI n l=some r):AI Tryz.prog 62 [D.sl (l.map Ak)] (D.tu [D.pt (Ap r.1) 0,D.v (.int .i64 r.2)]) false:=by
 unfold YI at h;split at h
 ·rename_i S e;cases h;exact AI.of_A (ds:=[.sl (l.map Ak)]) (my e)
 cases h
theorem vd {n:Nat}{l:List AT}{rows:List AE}{e:Int}(h:I6 n l=some (.inr e))(he:(e != 0)=true):AI Tryz.prog 32 [D.sl (l.map Ak),D.sl (rows.map AH)] (D.tu [.v (.pointer none),D.v (.int .i64 e)]) false:=by
 have hw:AI Tryz.prog 62 [D.sl (l.map Ak)] (.tu [.v (.pointer none),.v (.int .i64 e)]) false:=AI.of_A (ds:=[.sl (l.map Ak)]) (my h);refine zP #[.tmp 4,.tmp 5] Tryz.func32 ?_;refine D3 ?_;refine DB hw ?_;refine Dj ?_;refine Z1 he ?_;exact CC
end Go.Proofs.YtnmkbmefohakmaaGreat.Ab
namespace Go.Proofs.YtnmkbmefohakmaaGreat.Ab
open Go.Shelf Go.RowKit
def Gc (a b:ByteArray):Int:=Lib.compareBytes a.data.toList b.data.toList
def bytealg_CompareString (_n:Nat)(a b:ByteArray):Option Int:=some (Gc a b)
theorem tK {w:World}{I:Nat->Prop}{args:Array Value}{a b:ByteArray}(hs:args.size=2)(h:∀(j:Nat) (x:D),[D.v (.string a),D.v (.string b)][j]? =some x->∃u,args[j]? =some u/\DJ w I x u):args= #[.string a,.string b]:=by
 obtain⟨u0,e0,r0⟩:=h 0 _ rfl;obtain⟨u1,e1,r1⟩:=h 1 _ rfl;cases(show RC w I (.v (.string a)) u0 from r0);cases(show RC w I (.v (.string b)) u1 from r1);apply OD
 ·simpa using hs
 intro j h1 h2
 have:j=0\/j=1:=by
  have:j<2:=by simpa using h2
  omega
 rcases this with rfl |rfl
 ·simpa [h1] using e0
 simpa [h1] using e1
theorem tL {n:Nat}{a b:ByteArray}{r:Int}(h:bytealg_CompareString n a b=some r):AI Tryz.prog 138 [D.v (.string a),D.v (.string b)] (D.v (.int .i64 r)) true:=by
 obtain rfl:=LI h;refine⟨⟨_,Tryz.func138,by kernel_rfl,by kernel_rfl⟩,fun w M0 args _ hs h=> ?_⟩;obtain rfl:=tK hs h;refine(Any.bytealg_CompareString iV a b w).mono ?_;rintro e w' ⟨rfl,rfl⟩;exact⟨_,rfl,⟨Below.refl _ _,Lc _⟩,(.v _ rfl:RC w' _ _ _)⟩
theorem QY (a b:ByteArray):decide (Gc a b<0)=tx.lt a b:=by
 have bl_cb:∀a b:List UInt8,Op.bytesLess a b=decide (Lib.compareBytes a b<0):=by
  intro a;induction a with
  |nil=>intro b;cases b<;>simp[Op.bytesLess,Lib.compareBytes]
  |cons a la ih=>
   intro b;cases b with
   |nil=>simp[Op.bytesLess,Lib.compareBytes]
   |cons b lb=>
    have ih:=ih lb;simp only[Op.bytesLess,Lib.compareBytes];by_cases h1:a<b
    ·simp[h1]
    by_cases h2:b<a
    ·have h3:a≠b:=(by intro e;subst e;exact h1 h2);simp[h1,h2,h3]
    have h3:a=b:=by
     rw[OT] at *;exact BE.1 (by omega)
    subst h3;simp[ih]
 show _=Op.bytesLess a.toList b.toList;rw[Lib.toList_data,Lib.toList_data,bl_cb];rfl
theorem iy:∀a b:List UInt8,Lib.compareBytes a b= -Lib.compareBytes b a
 |[],[]=>rfl
 |[],_::_=>rfl
 |_::_,[]=>rfl
 |a::la,b::lb=>by
  have ih:=iy la lb;simp only[Lib.compareBytes];by_cases h1:a<b
  ·have h2:¬b<a:=(by rw[OT] at *;omega);simp[h1,h2]
  by_cases h2:b<a
  ·simp[h1,h2]
  simp[h1,h2,ih]
theorem am (a b:ByteArray):Gc a b= -Gc b a:=iy _ _
theorem Sh (a b:ByteArray):Gc a b=0↔a=b:=by
 constructor
 ·intro h;have h1:=QY a b;have h2:=QY b a;have h3:=am a b;exact tx.total (h1.symm.trans Cr) (h2.symm.trans Cr)
 rintro rfl;have h1:=QY a a;rw[tx.irrefl] at h1;have h2:=am a a;have h3:=of_decide_eq_false h1;omega
theorem tM {a b c:ByteArray}(h1:Gc a b<0)(h2:Gc b c<0):Gc a c<0:=by
 have k1:=QY a b;have k2:=QY b c;have k3:=QY a c;rw[decide_eq_true h1] at k1;rw[decide_eq_true h2] at k2;rw[tx.trans k1.symm k2.symm] at k3;exact of_decide_eq_true k3
def HZ:List Int->Int
 |[]=>0
 |x::r=>if x=0 then HZ r else x
def Gd (x y:List ByteArray):Int:=HZ (List.zipWith Gc x y)
theorem iz:∀x y,Gd x y= -Gd y x
 |[],[]=>rfl
 |[],_::_=>rfl
 |_::_,[]=>rfl
 |a::x,b::y=>by
  have ih:=iz x y;have h:=am a b;unfold Gd at *;simp only[BH,HZ];by_cases h1:Gc b a=0
  ·simp[h,h1,ih]
  simp[h,h1]
theorem ap:∀x y:List ByteArray,x.length=y.length->(Gd x y=0↔x=y)
 |[],[],_=>by simp[Gd,HZ]
 |[],_::_,h=>by simp at h
 |_::_,[],h=>by simp at h
 |a::x,b::y,h=>by
  have ih:=ap x y (by simpa using h);unfold Gd at *;simp only[BH,HZ,List.cons.injEq];by_cases h1:Gc a b=0
  ·rw[if_pos h1,ih]
   have:=(Sh a b).1 h1;simp[this]
  have:a≠b:=fun e=>h1 ((Sh a b).2 e)
  simp[h1,this]
theorem i8:∀x y z:List ByteArray,x.length=y.length->y.length=z.length->Gd x y<0->Gd y z<0->Gd x z<0
 |[],[],[],_,_,h,_=>by simp[Gd,HZ] at h
 |[],_::_,_,h,_,_,_=>by simp at h
 |_::_,[],_,h,_,_,_=>by simp at h
 |_,[],_::_,_,h,_,_=>by simp at h
 |_,_::_,[],_,h,_,_=>by simp at h
 |a::x,b::y,c::z,h1,h2,h3,h4=>by
  have ih:=i8 x y z (by simpa using h1) (by simpa using h2);unfold Gd at *;simp only[BH,HZ] at *;by_cases e1:Gc a b=0
  ·have e:=(Sh a b).1 e1;subst e;rw[if_pos e1] at h3;by_cases e2:Gc a c=0
   ·rw[if_pos e2] at h4⊢;exact ih h3 h4
   rw[if_neg e2] at h4⊢;exact h4
  rw[if_neg e1] at h3;by_cases e2:Gc b c=0
  ·have e:=(Sh b c).1 e2;subst e;rw[if_neg e1];exact h3
  rw[if_neg e2] at h4;have h5:=tM h3 h4;rw[ifn];exact h5
def au {α:Type}(f:α->List ByteArray)(hl:∀x y,(f x).length=(f y).length)(hi:∀x y,f x=f y->x=y):Lin α where
 lt x y:=decide (Gd (f x) (f y)<0)
 irrefl x:=decide_eq_false (by have:=(ap (f x) (f x) rfl).2 rfl;omega)
 trans h1 h2:=decide_eq_true (i8 _ _ _ (hl _ _) (hl _ _) (of_decide_eq_true h1) (of_decide_eq_true h2))
 total {x y} h1 h2:=hi _ _ ((ap _ _ (hl _ _)).1 (by
  have k1:=of_decide_eq_false h1;have k2:=of_decide_eq_false h2;have k3:=iz (f x) (f y);omega))
end Go.Proofs.YtnmkbmefohakmaaGreat.Ab
namespace Go.Proofs.YtnmkbmefohakmaaGreat.Ab
open Go.RowKit
def Vh (n:Nat)(vals:List Int):Nat->Int->Option ((Unit) ⊕ Int)
 |0,_=>none
 |c+1,t8=>(if decide (t8<(vals.length:Int)) then (C4 vals t8).bind fun x2=>(if (x2 != 0) then some (.inr x2) else Vh n vals c (IntKind.i64.wrap (t8+1))) else some (.inl ()))
def Vi (n:Nat)(vals:List Int):Option Int:=(Vh n vals n 0:Option ((Unit) ⊕ Int)).bind fun
  | .inl _=>some 0
  | .inr r=>some r
theorem vq {n:Nat}{vals:List Int}{r:Int}(H:Vi n vals=some r):AI Tryz.prog 105 [D.sl (List.map eI vals)] (D.v (.int .i64 r)) true:=by
 unfold Vi at H;refine zP #[.tmp 2] Tryz.func105 ?_;refine D3 ?_;refine ET ?_;refine zi H (fun f _ _=>⟨kp [3] f AQ,AS,0⟩) (fun e_ E1 H2=> ?_) fun _ H2=> ?_
 ·refine IX E1 (fun f _ t8=>⟨kp [3,6,7] f (upd 8 (.v (.int .i64 t8)) AQ),AS,0⟩) (ZR []) fun c t8 L3=> ?_
  refine AN ?_;obtain⟨c14,H15⟩ |⟨c14,H15⟩:=CM L3
  ·obtain⟨x2,h18,h19,h20,H17⟩:=zI eI H15;have w220_:=Y2 c14 h20;refine Z1 w220_ ?_;obtain⟨w221_,H23⟩ |⟨w221_,H23⟩:=DU w220_ H17
   ·refine Z1 w221_ ?_;cases H23;cases H2;exact CC
   refine Z1 w221_ ?_;exact⟨_,H23,ZR []⟩
  refine Z1 c14 ?_;cases H15;exact⟨_,rfl,ZR []⟩
 refine AN ?_;cases H2;exact CC
def MV (n:Nat)(a:ByteArray)(b:ByteArray):Option Int:=(bytealg_CompareString n a b).bind fun t7=>some t7
theorem S5 {n:Nat}{a:ByteArray}{b:ByteArray}{r:Int}(H:MV n a b=some r):AI Tryz.prog 106 [D.v (.string a),D.v (.string b)] (D.v (.int .i64 r)) true:=by
 unfold MV at H;refine zP #[.tmp 4] Tryz.func106 ?_;refine ZT 1 ?_;obtain⟨t7,b1,H2⟩:=AJ H;refine Z0 ?_;refine DB (tL b1) ?_;refine Z0 ?_;cases H2;exact CC
def YJ (n:Nat)(a:AE)(b:AE):Option Int:=(MV n a.obj.type_ b.obj.type_).bind fun t11=>(MV n a.obj.id_ b.obj.id_).bind fun t18=>(MV n a.rel b.rel).bind fun t23=>(MV n a.sub_.type_ b.sub_.type_).bind fun t30=>(MV n a.sub_.id_ b.sub_.id_).bind fun t37=>(MV n a.sub_.rel b.sub_.rel).bind fun t44=>(Vi n [t11,t18,t23,t30,t37,t44]).bind fun t46=>some t46
theorem vt {n:Nat}{a:AE}{b:AE}{r:Int}(H:YJ n a b=some r):AI Tryz.prog 120 [D.ag (AH a),D.ag (AH b)] (D.v (.int .i64 r)) true:=by
 unfold YJ at H;refine zP #[.tmp 4] Tryz.func120 ?_;refine ZT 1 ?_;obtain⟨t11,b1,H2⟩:=AJ H;refine Z0 ?_;refine Ea (S5 b1) ?_;obtain⟨t18,b3,H4⟩:=AJ H2;refine Z0 ?_;refine Ea (S5 b3) ?_;obtain⟨t23,b5,H6⟩:=AJ H4;refine Z0 ?_;refine Ea (S5 b5) ?_;obtain⟨t30,b7,H8⟩:=AJ H6;refine Z0 ?_;refine Ea (S5 b7) ?_;obtain⟨t37,b9,H10⟩:=AJ H8;refine Z0 ?_;refine Ea (S5 b9) ?_;obtain⟨t44,b11,H12⟩:=AJ H10;refine Z0 ?_;refine Ea (S5 b11) ?_;obtain⟨t46,b13,H14⟩:=AJ H12;refine Z0 ?_;refine Ea (vq b13) ?_;refine Z0 ?_;refine DR (by kernel_rfl) ?_;refine Z0 ?_;cases H14;exact CC
end Go.Proofs.YtnmkbmefohakmaaGreat.Ab

namespace Go.Proofs.YtnmkbmefohakmaaGreat.Ab
open Go.RowKit Lib
section
variable {α:Type}[Inhabited α][DecidableEq α]
def cq (xs:List α)(m:Nat):List α:=compactUpTo xs.toArray m
def yq (xs:List α)(m:Nat):List α:=cq xs m++xs.drop (cq xs m).length
theorem iT {xs:List α}(h:0<xs.length):cq xs 1=xs.take 1:=by
 obtain⟨x,r,rfl⟩:∃x r,xs=x::r:=by cases xs with |nil=>simp at h |cons x r=>exact⟨x,r,rfl⟩
 simp[cq,compactUpTo,keeps,OE]
omit [DecidableEq α] in
theorem Jo {xs:List α}{k:Nat}(h:k<xs.length):xs.toArray[k]! =xs[k]:=by simp[h]
theorem Jp {xs:List α}{m:Nat}(h:m+1<xs.length)(he:xs[m+1]=xs[m]):cq xs (m+2)=cq xs (m+1):=by
 unfold cq;rw[compactUpTo_succ,keeps_neg (by omega) (by rw[Id,Jo h,Jo (by omega),he]),if_neg (by decide),LY]
theorem Jq {xs:List α}{m:Nat}(h:m+1<xs.length)(he:xs[m+1]≠xs[m]):cq xs (m+2)=cq xs (m+1)++[xs[m+1]]:=by
 unfold cq;rw[compactUpTo_succ,keeps_pos (by rw[Id,Jo h,Jo (by omega)];exact he),if_pos rfl,Jo h]
theorem Jr (xs:List α):∀m,(cq xs m).length<=m
 |0=>by simp[cq,compactUpTo]
 |m+1=>by
  have:=Jr xs m;unfold cq at *;rw[compactUpTo_succ,Lf];split<;>simp <;>omega
theorem QS {xs:List α}{m:Nat}(h:m<=xs.length):(yq xs m).length=xs.length:=by
 have:=Jr xs m;unfold yq;rw[Lf,Nv];omega
theorem Js {xs:List α}{m j:Nat}(h1:(cq xs m).length<=j)(h2:j<xs.length):(yq xs m)[j]? =some xs[j]:=by
 unfold yq;rw[L8 h1,NQ,show(cq xs m).length+(j-(cq xs m).length)=j by omega,Ld h2]
theorem sj {xs:List α}{k:Nat}(h:cq xs k=xs.take k)(hk:k<=xs.length):yq xs k=xs:=by
 unfold yq;rw[h,Lw,BZ hk,LM]
theorem iU {xs:List α}{m:Nat}(h:cq xs (m+2)=cq xs (m+1)):yq xs (m+2)=yq xs (m+1):=by
 unfold yq;rw[h]
theorem QT {xs:List α}{m:Nat}(h:m+1<xs.length)(hl:(cq xs (m+1)).length<xs.length)(he:xs[m+1]≠xs[m]):(yq xs (m+1)).set (cq xs (m+1)).length xs[m+1]=yq xs (m+2):=by
 unfold yq;rw[Jq h he,OQ _ _ (Lc _),B6,Ly hl,Oo,Lq,Lf,Lr];rfl
theorem Uo (xs:List α):cq xs xs.length=compact xs:=rfl
end
end Go.Proofs.YtnmkbmefohakmaaGreat.Ab
