/-
 What a law is handed, opened: numbers, texts, lists and structs of these, as the machine's data. No program in sight.
-/
import Derived.Test.YtnmkbmefohakmaaGreatGob
import Derived.Test.YtnmkbmefohakmaaGreatCm
namespace Go.Proofs.YtnmkbmefohakmaaGreat.Ab
open Go.RowKit
theorem uH_ {α:Type}{xs:List α}{v:Int}(k:Nat)(hv:v=(k:Int))(h:k<xs.length):∃x,idx xs v=some x/\x∈xs:=⟨_,hv▸idxS h,List.getElem_mem h⟩
theorem catB {x y:ByteArray}{k:Nat}(hx:x.size<=k)(hy:y.size<=8)(hk:k<=1000000):∃s,cat x y=some s/\s.size<=k+8:=by
 have:1000008<=maxLen:=by decide
 exact⟨_,catS (by omega),by rw[ByteArray.size_append];omega⟩
theorem yF_ {xs:List ByteArray}{x:ByteArray}(h:x∈xs)(hx:(xs.all fun y=>decide (y.size<=8))=true):x.size<=8:=of_decide_eq_true (List.all_eq_true.1 hx x h)
theorem idx7 (xs:List ByteArray)(v:Int)(h:xs.length=8):∃x,idx xs (IntKind.i64.wrap (an v 7:Int))=some x/\x∈xs:=uH_ (an v 7) (go_ v 7 (by decide)) (by rw[h];exact Nat.lt_of_le_of_lt (an_le v 7) (by decide))
theorem idx1 (a b:ByteArray)(v:Int):∃x,idx [a,b] (IntKind.i64.wrap (an v 1:Int))=some x/\x∈[a,b]:=uH_ (an v 1) (go_ v 1 (by decide)) (Nat.lt_of_le_of_lt (an_le v 1) (show 1<2 by decide))
theorem idx3 (xs:List ByteArray)(v:Int)(h:xs.length=4):∃x,idx xs (IntKind.i64.wrap (an v 3:Int))=some x/\x∈xs:=uH_ (an v 3) (go_ v 3 (by decide)) (by rw[h];exact Nat.lt_of_le_of_lt (an_le v 3) (by decide))
theorem idxm (xs:List ByteArray)(v:Int)(m:Nat)(h:xs.length=m)(hm:0<m):∃x,idx xs (Int.tmod (IntKind.i64.wrap (an v 255:Int)) (m:Int))=some x/\x∈xs:=uH_ (an v 255%m) (by rw[an8];exact rz_ _ _) (by rw[h];exact Nat.mod_lt _ hm)
section
variable {n:Nat}{t0:List Int}
theorem nX_ (k:Nat):∃v,jg_ n (k:Int) t0=some v:=by
 unfold jg_;by_cases h:k<t0.length
 ·rw[dlt h,if_pos rfl,idxS h]
  exact⟨_,rfl⟩
 ·rw[dnlt (by omega),if_neg (by decide)]
  exact⟨_,rfl⟩
theorem nY_ (v:Int):∃s,jL_ n v=some s/\s.size<=8:=by
 unfold jL_;obtain⟨x,h1,h2⟩:=idxm [({ data:= #[117] }:ByteArray),{ data:= #[117] },{ data:= #[97,35,114] },{ data:= #[98,35,114] },{ data:= #[97,35,115] },{ data:= #[98,35,112] },{ data:= #[97] },{ data:= #[98] },{ data:= #[117] },{ data:= #[97,35,113] }] v 10 rfl (by decide)
 refine⟨x,by rw[show(10:Int)=((10:Nat):Int) from rfl,h1];rfl,yF_ h2 (by decide)⟩
theorem gE_ (v:Int):∃s,jq_ n v=some s/\s.size<=8:=by
 unfold jq_;obtain⟨x,h1,h2⟩:=idx7 [({ data:= #[114] }:ByteArray),{ data:= #[115] },{ data:= #[114] },{ data:= #[115] },{ data:= #[115,45,62,114] },{ data:= #[115,45,62,112] },{ data:= #[112] },{ data:= #[113] }] v rfl;refine⟨x,by rw[h1];rfl,yF_ h2 (by decide)⟩
theorem nZ_ {k3:Nat}(hk3:k3<=100):∀(d j c:Nat) (s:ByteArray) (k:Nat),d=2-j->j<=2->d<c->s.size<=k->k+112*d<=100000->∃r,q1_ n t0 (k3:Int) c (s,(j:Int))=some r/\r.size<=k+112*d
 |0,j,c,s,k,hd,hj,hc,hs,hk=>by
  obtain⟨c,rfl⟩:∃e,c=e+1:=⟨c-1,by omega⟩;unfold q1_;rw[show decide ((j:Int)<2)=false by simp;omega,if_neg (by decide)];exact⟨s,rfl,by omega⟩
 |d+1,j,c,s,k,hd,hj,hc,hs,hk=>by
  obtain⟨c,rfl⟩:∃e,c=e+1:=⟨c-1,by omega⟩;have ih:=fun s2 k2=>nZ_ hk3 d (j+1) c s2 k2 (by omega) (by omega) (by omega);obtain⟨v,hv⟩:=nX_ (n:=n) (t0:=t0) (k3+1+j)
  have e:IntKind.i64.wrap (IntKind.i64.wrap ((k3:Int)+1)+(j:Int))=((k3+1+j:Nat):Int):=by rw[w64a (by omega),show((k3+1:Nat):Int)+(j:Int)=((k3+1+j:Nat):Int) by omega,w64 (by omega)]
  unfold q1_;rw[show decide ((j:Int)<2)=true by simp;omega,if_pos rfl,e,hv,Zo,w64a (by omega)];obtain⟨s1,h1,z1⟩:=catB (y:={ data:= #[32] }) hs (by decide) (by omega);obtain⟨x,h2,hx⟩:=uH_ (xs:=[({ data:= #[112] }:ByteArray),{ data:= #[113] }]) (v:=(j:Int)) j rfl (by simp;omega);obtain⟨s2,h3,z2⟩:=catB (y:=x) z1 (yF_ hx (by decide)) (by omega)
  obtain⟨s3,h4,z3⟩:=catB (y:={ data:= #[32,61,32] }) z2 (by decide) (by omega);obtain⟨a1,g1,y1⟩:=gE_ (n:=n) v;obtain⟨s4,h5,z4⟩:=catB z3 y1 (by omega);obtain⟨x2,h6,hx2⟩:=idx3 [({ data:= #[32,43,32] }:ByteArray),{ data:= #[32,38,32] },{ data:= #[32,45,32] },{ data:= #[32,43,32] }] (sh v 4) rfl
  obtain⟨s5,h7,z5⟩:=catB (y:=x2) z4 (yF_ hx2 (by decide)) (by omega);obtain⟨a2,g2,y2⟩:=gE_ (n:=n) (sh v 8);obtain⟨s6,h8,z6⟩:=catB z5 y2 (by omega);rw[h1,Zo,h2,Zo,h3,Zo,h4,Zo,g1,Zo,h5,Zo,h6,Zo,h7,Zo,g2,Zo,h8,Zo];split
  ·obtain⟨x3,h9,hx3⟩:=idx3 [({ data:= #[32,43,32] }:ByteArray),{ data:= #[32,38,32] },{ data:= #[32,45,32] },{ data:= #[32,45,32,40] }] (sh v 13) rfl
   obtain⟨s7,h10,z7⟩:=catB (y:=x3) z6 (yF_ hx3 (by decide)) (by omega);obtain⟨a3,g3,y3⟩:=gE_ (n:=n) (sh v 16);obtain⟨s8,h11,z8⟩:=catB z7 y3 (by omega);rw[h9,Zo,h10,Zo,g3,Zo,h11,Zo];split
   ·obtain⟨s9,h12,z9⟩:=catB (y:={ data:= #[32,38,32] }) z8 (by decide) (by omega)
    obtain⟨a4,g4,y4⟩:=gE_ (n:=n) (sh v 20);obtain⟨s10,h13,z10⟩:=catB z9 y4 (by omega);obtain⟨s11,h14,z11⟩:=catB (y:={ data:= #[41] }) z10 (by decide) (by omega);obtain⟨s12,h15,z12⟩:=catB (y:={ data:= #[59] }) z11 (by decide) (by omega);rw[h12,Zo,g4,Zo,h13,Zo,h14,Zo,h15,Zo];obtain⟨r,q1,q2⟩:=ih s12 _ z12 (by omega);exact⟨r,q1,by omega⟩
   ·obtain⟨s9,h12,z9⟩:=catB (y:={ data:= #[59] }) z8 (by decide) (by omega)
    rw[h12,Zo];obtain⟨r,q1,q2⟩:=ih s9 _ z9 (by omega);exact⟨r,q1,by omega⟩
  ·obtain⟨s9,h12,z9⟩:=catB (y:={ data:= #[59] }) z6 (by decide) (by omega)
   rw[h12,Zo];obtain⟨r,q1,q2⟩:=ih s9 _ z9 (by omega);exact⟨r,q1,by omega⟩
set_option maxRecDepth 4000 in
theorem n0_ (hn:10<n):∀(d j c:Nat) (s:ByteArray) (k:Nat),d=2-j->j<=2->d<c->s.size<=k->k+400*d<=10000->∃r,jr_ n t0 c (s,((3*j:Nat):Int),(j:Int))=some r/\r.size<=k+400*d
 |0,j,c,s,k,hd,hj,hc,hs,hk=>by
  obtain⟨c,rfl⟩:∃e,c=e+1:=⟨c-1,by omega⟩;unfold jr_;rw[show decide ((j:Int)<2)=false by simp;omega,if_neg (by decide)];exact⟨s,rfl,by omega⟩
 |d+1,j,c,s,k,hd,hj,hc,hs,hk=>by
  obtain⟨c,rfl⟩:∃e,c=e+1:=⟨c-1,by omega⟩;have ih:=fun s2 k2=>n0_ hn d (j+1) c s2 k2 (by omega) (by omega) (by omega);obtain⟨v,hv⟩:=nX_ (n:=n) (t0:=t0) (3*j);have e1:IntKind.i64.wrap (((3*j:Nat):Int)+3)=((3*(j+1):Nat):Int):=by rw[show((3*j:Nat):Int)+3=((3*(j+1):Nat):Int) by omega,w64 (by omega)]
  unfold jr_;rw[show decide ((j:Int)<2)=true by simp;omega,if_pos rfl,hv,w64a (by omega),e1];obtain⟨s1,h1,z1⟩:=catB (y:={ data:= #[116,121,112,101,32] }) hs (by decide) (by omega);obtain⟨x,h2,hx⟩:=uH_ (xs:=[({ data:= #[97] }:ByteArray),{ data:= #[98] }]) (v:=(j:Int)) j rfl (by simp;omega)
  obtain⟨s2,h3,z2⟩:=catB (y:=x) z1 (yF_ hx (by decide)) (by omega);obtain⟨s3,h4,z3⟩:=catB (y:={ data:= #[32,123,32,114,58,32] }) z2 (by decide) (by omega);obtain⟨a1,g1,y1⟩:=nY_ (n:=n) v;obtain⟨s4,h5,z4⟩:=catB z3 y1 (by omega);rw[h1,Zo,h2,Zo,h3,Zo,h4,Zo,Zo,g1,Zo,h5,Zo,Zo]
  have hm:∃s5,(if (IntKind.i64.wrap (an (sh v 8) 1:Int))==1 then(cat s4 ({ data:= #[32,124,32] })).bind fun s43=>(some v).bind fun t412=>(jL_ n (sh t412 9)).bind fun t432=>(cat s43 t432).bind fun s44=>some s44 else some s4)=some s5/\s5.size<=k+48:=by
   split
   ·obtain⟨s5,h6,z5⟩:=catB (y:={ data:= #[32,124,32] }) z4 (by decide) (by omega)
    obtain⟨a2,g2,y2⟩:=nY_ (n:=n) (sh v 9);obtain⟨s6,h7,z6⟩:=catB z5 y2 (by omega);refine⟨s6,?_,by omega⟩;rw[h6,Zo,Zo,g2,Zo,h7];rfl
   ·exact⟨s4,rfl,by omega⟩
  obtain⟨s5,h6,z5⟩:=hm;obtain⟨s6,h7,z6⟩:=catB (y:={ data:= #[59,32,115,58,32] }) z5 (by decide) (by omega);obtain⟨x2,h8,hx2⟩:=idxm [({ data:= #[97] }:ByteArray),{ data:= #[98] },{ data:= #[97,32,124,32,98] },{ data:= #[117,32,124,32,97] }] (sh v 20) 4 rfl (by decide)
  have h8:idx [({ data:= #[97] }:ByteArray),{ data:= #[98] },{ data:= #[97,32,124,32,98] },{ data:= #[117,32,124,32,97] }] (Int.tmod (IntKind.i64.wrap (an (sh v 20) 255:Int)) 4)=some x2:=h8;obtain⟨s7,h9,z7⟩:=catB (y:=x2) z6 (yF_ hx2 (by decide)) (by omega);obtain⟨s8,h10,z8⟩:=catB (y:={ data:= #[59] }) z7 (by decide) (by omega)
  obtain⟨s9,h11,z9⟩:=nZ_ (n:=n) (t0:=t0) (k3:=3*j) (by omega) 2 0 n s8 _ rfl (by omega) (by omega) z8 (by omega);have h11:q1_ n t0 ((3*j:Nat):Int) n (s8,0)=some s9:=h11;obtain⟨s10,h12,z10⟩:=catB (y:={ data:= #[32,125,10] }) z9 (by decide) (by omega);rw[h6,Zo,h7,Zo,Zo,h8,Zo,h9,Zo,h10,Zo,h11,Zo,h12,Zo];obtain⟨r,q1,q2⟩:=ih s10 _ z10 (by omega)
  exact⟨r,q1,by omega⟩
theorem n1_ (hn:10<n)(t0:List Int):∃s,vh_ n t0=some s/\s.size<=1000:=by
 obtain⟨r,h1,h2⟩:=n0_ (t0:=t0) hn 2 0 n { data:= #[116,121,112,101,32,117,10] } 7 rfl (by omega) (by omega) (by decide) (by omega);have h1:jr_ n t0 n ({ data:= #[116,121,112,101,32,117,10] },0,0)=some r:=h1;refine⟨r,?_,by omega⟩;unfold vh_;rw[h1];rfl
end
def idL:List ByteArray:=[{ data:= #[97] },{ data:= #[98] },{ data:= #[99] },{ data:= #[100] },{ data:= #[97,98] },{ data:= #[98,45,49] },{ data:= #[120,46,121] },{ data:= #[48] }]
def tyL:List ByteArray:=[{ data:= #[97] },{ data:= #[98] }]
def rlL:List ByteArray:=[{ data:= #[114] },{ data:= #[115] }]
def stL:List ByteArray:=[{ data:= #[117] },{ data:= #[97] },{ data:= #[98] }]
structure tameP (t:GTuple):Prop where
 ty:t.obj.type_∈tyL
 id:t.obj.id_∈idL
 rl:t.rel∈rlL
 st:t.sub_.type_∈stL
 si:t.sub_.id_∈idL
 sr:t.sub_.rel=ByteArray.empty\/t.sub_.rel∈rlL
theorem nm_of (n:Nat)(z:Int):∃s,w0_ n z=some s/\s∈idL:=by
 unfold w0_;obtain⟨x,h1,h2⟩:=idx7 idL z rfl;unfold idL at h1;exact⟨x,by rw[h1];rfl,h2⟩
theorem n2_ (n:Nat)(z:Int):∃t,zw_ n z=some t/\tameP t:=by
 unfold zw_;obtain⟨s1,h1,m1⟩:=nm_of n (sh z 1);obtain⟨s2,h2,m2⟩:=nm_of n (sh z 13);obtain⟨x1,e1,i1⟩:=idx1 { data:= #[97] } { data:= #[98] } z;obtain⟨x2,e2,i2⟩:=idx1 { data:= #[114] } { data:= #[115] } (sh z 4);obtain⟨x3,e3,i3⟩:=idxm stL (sh z 5) 3 rfl (by decide)
 have e3:idx [({ data:= #[117] }:ByteArray),{ data:= #[97] },{ data:= #[98] }] (Int.tmod (IntKind.i64.wrap (an (sh z 5) 255:Int)) 3)=some x3:=e3;obtain⟨x4,e4,i4⟩:=idx1 { data:= #[114] } { data:= #[115] } (sh z 18);rw[e1,Zo,h1,Zo,e2,Zo,e3,Zo,h2,Zo];split
 ·rw[e4]
  exact⟨_,rfl,i1,m1,i2,i3,m2,.inr i4⟩
 ·exact⟨_,rfl,i1,m1,i2,i3,m2,.inl rfl⟩
theorem uI_ {n:Nat}(l:List Int):∀(c:Nat) (out:List GTuple),out.length<=80->out.length<=l.length->80-out.length<c->(∀t∈out,tameP t)->∃ys,ju_ n l c (out,(out.length:Int))=some ys/\ys.length<=80/\ys.length<=l.length/\∀t∈ys,tameP t
 |0,_,_,_,h,_=>by omega
 |c+1,out,h1,h0,h2,ho=>by
  unfold ju_;by_cases h:out.length<l.length
  ·rw[dlt h,if_pos rfl,Zo]
   by_cases h3:out.length<80
   ·obtain⟨t,ht,hp⟩:=n2_ n l[out.length]
    rw[show decide ((out.length:Int)<80)=true by simp;omega,if_pos rfl,idxS h,Zo,ht,Zo,appS (by simp;omega),Zo,wr1 (by omega)];obtain⟨ys,h4,h5⟩:=uI_ (n:=n) l c (out++[t]) (by simp;omega) (by simp;omega) (by simp;omega) fun x hx=>by
     rcases List.mem_append.1 hx with hx |hx
     ·exact ho x hx
     ·rw[List.mem_singleton.1 hx]
      exact hp
    rw[List.length_append,List.length_singleton] at h4;exact⟨ys,h4,h5⟩
   ·rw[show decide ((out.length:Int)<80)=false by simp;omega,if_neg (by decide)]
    exact⟨_,rfl,h1,h0,ho⟩
  ·rw[dnlt (by omega),if_neg (by decide),Zo]
   rw[if_neg (by decide)];exact⟨_,rfl,h1,h0,ho⟩
theorem rV_ {n:Nat}(l:List Int)(hn:80<n):∃ys,zx_ n l=some ys/\ys.length<=80/\ys.length<=l.length/\∀t∈ys,tameP t:=by
 obtain⟨ys,h1,h2⟩:=uI_ (n:=n) l n [] (by simp) (by simp) (by simpa using hn) (by simp);refine⟨ys,?_,h2⟩;unfold zx_;have h3:ju_ n l n ([],0)=some ys:=h1;rw[h3];rfl
theorem rW_ (n:Nat)(z:Int):∃a:GObj × ByteArray × GSub,zy_ n z=some a/\a.1.type_∈tyL/\a.1.id_∈idL/\a.2.2.type_∈stL/\a.2.2.id_∈idL/\a.2.2.rel={ data:= #[] }:=by
 unfold zy_;obtain⟨t,h1,h2⟩:=n2_ n z;obtain⟨x,h3,_⟩:=idx7 [({ data:= #[114] }:ByteArray),{ data:= #[115] },{ data:= #[112] },{ data:= #[113] },{ data:= #[112] },{ data:= #[113] },{ data:= #[122] },{ data:= #[112] }] (sh z 24) rfl;rw[h1,Zo,h3];exact⟨_,rfl,h2.ty,h2.id,h2.st,h2.si,rfl⟩
theorem kJ_ (m:Nat):∀x∈tyL++rlL++stL,xP_ (m+10) x=some true/\xV_ (m+10) x=some true:=by
 intro x hx;simp only[tyL,rlL,stL,List.cons_append,List.nil_append,List.mem_cons,List.not_mem_nil,or_false] at hx;rcases hx with rfl |rfl |rfl |rfl |rfl |rfl |rfl<;>exact⟨by kernel_rfl,by kernel_rfl⟩
theorem sN_ (m:Nat):∀x∈idL,yE_ (m+10) x=some true/\yY_ (m+10) x=some true:=by
 intro x hx;simp only[idL,List.mem_cons,List.not_mem_nil,or_false] at hx;rcases hx with rfl |rfl |rfl |rfl |rfl |rfl |rfl |rfl<;>exact⟨by kernel_rfl,by kernel_rfl⟩
theorem co_ {n:Nat}{t:GTuple}(hn:10<=n)(h:tameP t):v3_ n t=some true/\xW_ n t=some true:=by
 obtain⟨m,rfl⟩:∃m,n=m+10:=⟨n-10,by omega⟩;have a1:=kJ_ m t.obj.type_ (by simp[h.ty]);have a2:=sN_ m t.obj.id_ h.id;have a3:=kJ_ m t.rel (by simp[h.rl]);have a4:=kJ_ m t.sub_.type_ (by simp[h.st]);have a5:=sN_ m t.sub_.id_ h.si;unfold v3_ xW_;rw[a1.1,a1.2,a2.1,a2.2,a3.1,a3.2,a4.1,a4.2,a5.1,a5.2];simp only[Zo,if_true,beqS];rcases h.sr with e |e
 ·rw[e,decide_eq_true (show ByteArray.empty={ data:= #[] } from rfl)]
  exact⟨rfl,rfl⟩
 ·have a6:=kJ_ m t.sub_.rel (by simp[e])
  rw[a6.1,a6.2];constructor<;>split<;>rfl
theorem uD_ {n:Nat}{S:WellSchema}{a:ByteArray}:∀ {l:List GRel} {ns:List WellName} {e:Int},kj_ n S a l ns=some (.inr e)->(e != 0)=true
 |[],_,_,h=>by cases h
 |g::r,ns,e,h=>by
  unfold kj_ at h;split at h
  ·obtain⟨x,_,h⟩:=zbi h
   split at h
   ·exact uD_ h
   ·rename_i hx
    cases h;simpa using hx
  ·cases h
theorem uE_ {n:Nat}{S:WellSchema}:∀ {l:List GType} {ns:List WellName} {e:Int},kk_ n S l ns=some (.inr e)->(e != 0)=true
 |[],_,_,h=>by cases h
 |t::r,ns,e,h=>by
  unfold kk_ at h;obtain⟨x,hx,h⟩:=zbi h;split at h
  ·exact uE_ h
  ·cases h
   exact uD_ hx
theorem nR_ {n:Nat}{l:List GType}{e:Int}(h:w5_ n l=some (.inr e)):(e != 0)=true:=by
 unfold w5_ at h;split at h
 ·split at h
  ·obtain⟨x,hx,h⟩:=zbi h
   rcases x with(_ |⟨m,r⟩) |e'
   ·cases h
   ·unfold wellR at h
    obtain⟨_,_,h⟩:=zbi h;obtain⟨_,_,h⟩:=zbi h;split at h
    ·obtain⟨y,_,h⟩:=zbi h
     rcases y with _ |K
     ·cases h
      rfl
     ·cases h
    ·cases h
   ·cases h
    exact uE_ hx
  ·rename_i hc
   cases h;simpa using hc
 ·cases h
instance (S:WellSchema) (t:GTuple):Decidable (fitP S t):=by unfold fitP;infer_instance
def fitB (S:WellSchema)(t:GTuple):Bool:=decide (fitP S t)
theorem nS_ {n:Nat}{S:WellSchema}{t:GTuple}(hS:zU_ S)(hn:1000<n)(h:xW_ n t=some true):qZ_ n S t=some (fitB S t):=by
 have hb:=(gZ_ hS ⟨t.obj.type_,t.rel⟩).1;unfold qZ_;rw[vS_,Zo,h,Zo,if_pos rfl,zX_ (by dsimp only;omega) (by dsimp only;omega)];rfl
theorem gy_ {n:Nat}{rows:List GTuple}{S:WellSchema}(hS:zU_ S)(hn:1000<n):∀(l out:List GTuple),(∀t∈l,xW_ n t=some true)->out.length+l.length<=4294967296->xg_ (vq_ n rows (S,0)) (vr_ n rows (S,0)) l out=some (out++l.filter (fitB S))
 |[],out,_,_=>by
  show some out=_;simp
 |t::l,out,hl,ho=>by
  simp only[List.length_cons] at ho;have hl2:∀x∈l,xW_ n x=some true:=fun x hx=>hl x (List.mem_cons_of_mem _ hx);rw[xg_];show(qZ_ n S t).bind _=_;rw[nS_ hS hn (hl t (List.mem_cons_self ..)),Zo];cases hf:fitB S t with
  |true=>
   rw[if_pos rfl,appS (by simp only[List.length_singleton];omega),Zo,gy_ hS hn l _ hl2 (by rw[List.length_append,List.length_singleton];omega)];simp[hf]
  |false=>
   rw[if_neg (by decide),gy_ hS hn l _ hl2 (by omega)];simp[hf]
theorem dW_ {n:Nat}{ts:List GType}{rows:List GTuple}{S:WellSchema}(h:w5_ n ts=some (.inl S))(hS:zU_ S)(hn:1000000<n)(hr:rows.length<=1000000)(hok:∀t∈rows,xW_ n t=some true):y2_ n ts rows=some (⟨S,ixO (rows.filter (fitB S)),rows.filter (fitB S)⟩,0):=by
 have hf:(rows.filter (fitB S)).length<=rows.length:=List.length_filter_le _ _;have hL:j7_ n rows (S,0) n (([]:List GTuple),0)=_:=y1_ n rows (S,0) (by omega) n [] 0 (by omega) (by omega);rw[List.drop_zero,gy_ hS (by omega) _ _ hok (by simp only[List.length_nil];omega),List.nil_append] at hL;unfold y2_ gW_;rw[h];dsimp only
 rw[Zo,if_neg (by simp),hL,Zo,d7_ (by omega) hn,Zo];split
 ·rename_i h0
  rw[List.eq_nil_of_length_eq_zero (of_decide_eq_true h0)]
 ·rfl
def yC_ (n:Nat)(S:WellSchema)(rows:List GTuple)(o:GObj)(rel:ByteArray)(s:GSub):Option (Bool × Int):=
 if s.rel={ data:= #[] } then(if mhas (⟨o.type_,rel⟩:WellName) S.rels then(xl_ n ⟨S,ixO (rows.filter (fitB S)),[]⟩ o rel s).map fun b=>(b,0) else some (false,12)) else some (false,13)
theorem hS_ {n:Nat}{ts:List GType}{rows:List GTuple}{S:WellSchema}{o:GObj}{rel:ByteArray}{s:GSub}(h:w5_ n ts=some (.inl S))(hS:zU_ S)(hn:1000000<n)(hr:rows.length<=10000)(hok:∀t∈rows,xW_ n t=some true):jk_ n ts rows o rel s=yC_ n S rows o rel s:=by
 have hf:(rows.filter (fitB S)).length<=rows.length:=List.length_filter_le _ _;unfold jk_;rw[h];dsimp only;unfold vJ_ yC_;rw[dW_ h hS hn (by omega) hok,Zo,if_neg (by simp),beqS];by_cases e:s.rel={ data:= #[] }
 ·rw[decide_eq_true e,if_pos rfl,if_pos e]
  unfold jZ_;rw[vS_,Zo,Zo];dsimp only;cases mhas (⟨o.type_,rel⟩:WellName) S.rels with
  |true=>
   rw[if_pos rfl,if_pos rfl,Option.map_eq_bind,rS_ (r0:=rows.filter (fitB S)) (r1:=[]) (by omega) hn hS];rfl
  |false=>rw[if_neg (by decide),if_neg (by decide)]
 ·rw[decide_eq_false e,if_neg (by decide),if_neg e]
theorem dX_ {n:Nat}{ts:List GType}{rows:List GTuple}{S:WellSchema}(hW:WellP ts S)(hB:zY_ ts)(hn:2000000000<n)(hr:rows.length<=100)(o:GObj)(rel:ByteArray)(s:GSub):∃r,yC_ n S rows o rel s=some r:=by
 have hf:(rows.filter (fitB S)).length<=rows.length:=List.length_filter_le _ _;unfold yC_;split
 ·split
  ·rename_i hk
   obtain⟨b,hb⟩:=cl_ hW hB (r0:=[]) (o:=o) (rel:=rel) (s:=s) (l:=rows.filter (fitB S)) (by omega) hn (fun t ht=>of_decide_eq_true (List.mem_filter.1 ht).2) hk;rw[hb];exact⟨_,rfl⟩
  ·exact⟨_,rfl⟩
 ·exact⟨_,rfl⟩
theorem nT_ {a b:List GTuple}(h:∀x,x∈a↔x∈b):ixO a=ixO b:=by unfold ixO;rw[tO.ofL_congr h]
theorem bI_ {n:Nat}{S:WellSchema}{a b:List GTuple}(h:∀x,fitB S x=true->(x∈a↔x∈b))(o:GObj)(rel:ByteArray)(s:GSub):yC_ n S a o rel s=yC_ n S b o rel s:=by
 unfold yC_;rw[nT_ (a:=a.filter (fitB S)) (b:=b.filter (fitB S)) fun x=>by
  rw[List.mem_filter,List.mem_filter];exact⟨fun⟨h1,h2⟩=>⟨(h x h2).1 h1,h2⟩,fun⟨h1,h2⟩=>⟨(h x h2).2 h1,h2⟩⟩]
theorem cm_ {ts:List GType}(hB:zY_ ts){n:Nat}(hn:2000000000<n):(∃S,w5_ n ts=some (.inl S)/\WellP ts S)\/∃e,(e != 0)=true/\∀rows o rel s,jk_ n ts rows o rel s=some (false,e):=by
 obtain⟨r,h1,h2⟩:=ma_ hB hn;rcases r with S |e
 ·exact .inl ⟨S,h1,h2 S rfl⟩
 ·have he:=nR_ h1
  refine .inr ⟨e,he,fun rows o rel s=> ?_⟩;unfold jk_;rw[h1];dsimp only;rw[if_pos he]
def relF (rel:ByteArray)(l:List GRel):Option GRel:=l.find? fun g=>decide (g.name=rel)
def relD (ts:List GType)(a rel:ByteArray):Option GRel:=(ts.find? fun t=>decide (t.name=a)).bind fun t=>relF rel t.rels
theorem f1_ {n:Nat}{ts:List GType}{rel:ByteArray}{i:Nat}(hi:i<ts.length)(hx:ts[i].rels.length<=200):∀(d k c:Nat),d=ts[i].rels.length-k->k<=ts[i].rels.length->d<c->
  (q4_ n ts rel (i:Int) c (k:Int)=some (.inl ())/\relF rel (ts[i].rels.drop k)=none)\/∃j:Nat,∃hj:j<ts[i].rels.length,q4_ n ts rel (i:Int) c (k:Int)=some (.inr ((i:Int),(j:Int)))/\relF rel (ts[i].rels.drop k)=some ts[i].rels[j]
 |0,k,c,hd,hk,hc=>by
  obtain⟨c,rfl⟩:∃e,c=e+1:=⟨c-1,by omega⟩;refine .inl ⟨?_,by rw[List.drop_of_length_le (by omega)];rfl⟩;unfold q4_;rw[idxS hi,Zo,dnlt (by omega),if_neg (by decide)]
 |d+1,k,c,hd,hk,hc=>by
  obtain⟨c,rfl⟩:∃e,c=e+1:=⟨c-1,by omega⟩;have hlt:k<ts[i].rels.length:=by omega
  have ih:=f1_ (n:=n) (rel:=rel) hi hx d (k+1) c (by omega) (by omega) (by omega);have e1:q4_ n ts rel (i:Int) (c+1) (k:Int)=if decide (ts[i].rels[k].name=rel) then some (.inr ((i:Int),(k:Int))) else q4_ n ts rel (i:Int) c ((k+1:Nat):Int):=by
   conv=>lhs;unfold q4_
   rw[idxS hi,Zo,dlt hlt,if_pos rfl,idxS hlt,Zo,beqS,w64a (by omega)]
  have e2:relF rel (ts[i].rels.drop k)=if decide (ts[i].rels[k].name=rel) then some ts[i].rels[k] else relF rel (ts[i].rels.drop (k+1)):=by
   unfold relF;rw[List.drop_eq_getElem_cons hlt,List.find?_cons];cases decide (ts[i].rels[k].name=rel)<;>rfl
  rw[e1,e2];cases hde:decide (ts[i].rels[k].name=rel) with
  |true=>exact .inr ⟨k,hlt,rfl,rfl⟩
  |false=>exact ih
theorem f2_ {n:Nat}{ts:List GType}{a rel:ByteArray}(hB:zY_ ts)(hn:1000<n):∀(d i c:Nat),d=ts.length-i->i<=ts.length->d<c->
  (qU_ n ts a rel c (i:Int)=some (.inl ())/\(ts.drop i).find? (fun t=>decide (t.name=a))=none)\/∃k:Nat,∃hk:k<ts.length,(ts.drop i).find? (fun t=>decide (t.name=a))=some ts[k]/\
   ((qU_ n ts a rel c (i:Int)=some (.inr ((k:Int), -1))/\relF rel ts[k].rels=none)\/∃j:Nat,∃hj:j<ts[k].rels.length,qU_ n ts a rel c (i:Int)=some (.inr ((k:Int),(j:Int)))/\relF rel ts[k].rels=some ts[k].rels[j])
 |0,i,c,hd,hi,hc=>by
  obtain⟨c,rfl⟩:∃e,c=e+1:=⟨c-1,by omega⟩;refine .inl ⟨?_,by rw[List.drop_of_length_le (by omega)];rfl⟩;unfold qU_;rw[dnlt (by omega),if_neg (by decide)]
 |d+1,i,c,hd,hi,hc=>by
  obtain⟨c,rfl⟩:∃e,c=e+1:=⟨c-1,by omega⟩;have hlt:i<ts.length:=by omega
  have hb1:=hB.1;have hb:=(hB.2 ts[i] (List.getElem_mem hlt)).1;have ih:=f2_ (a:=a) (rel:=rel) hB hn d (i+1) c (by omega) (by omega) (by omega);have e1:qU_ n ts a rel (c+1) (i:Int)=if decide (ts[i].name=a) then(q4_ n ts rel (i:Int) n 0).bind (fun | .inl _=>some (.inr ((i:Int),(-1))) | .inr r=>some (.inr r)) else qU_ n ts a rel c ((i+1:Nat):Int):=by
   conv=>lhs;unfold qU_
   rw[dlt hlt,if_pos rfl,idxS hlt,Zo,beqS,w64a (by omega)];rfl
  have e2:(ts.drop i).find? (fun t=>decide (t.name=a))=if decide (ts[i].name=a) then some ts[i] else(ts.drop (i+1)).find? (fun t=>decide (t.name=a)):=by
   rw[List.drop_eq_getElem_cons hlt,List.find?_cons];cases decide (ts[i].name=a)<;>rfl
  rw[e1,e2];cases hde:decide (ts[i].name=a) with
  |true=>
   refine .inr ⟨i,hlt,rfl,?_⟩;rw[if_pos rfl];rcases f1_ (n:=n) (rel:=rel) hlt hb _ 0 n rfl (Nat.zero_le _) (by omega) with⟨q1,q2⟩ |⟨j,hj,q1,q2⟩
   ·rw[List.drop_zero] at q2
    have q1:q4_ n ts rel (i:Int) n 0=_:=q1;exact .inl ⟨by rw[q1];rfl,q2⟩
   ·rw[List.drop_zero] at q2
    have q1:q4_ n ts rel (i:Int) n 0=_:=q1;exact .inr ⟨j,hj,by rw[q1];rfl,q2⟩
  |false=>exact ih
theorem dY_ {n:Nat}{ts:List GType}(hB:zY_ ts)(hn:1000<n)(a rel:ByteArray):wB_ n ts a rel=some ((relD ts a rel).getD zGR,(relD ts a rel).isSome):=by
 unfold wB_ gD_ relD;rcases f2_ (n:=n) (a:=a) (rel:=rel) hB hn _ 0 n rfl (Nat.zero_le _) (by have:=hB.1;omega) with⟨q1,q2⟩ |⟨k,hk,q2,q3⟩
 ·rw[List.drop_zero] at q2
  have q1:qU_ n ts a rel n 0=_:=q1;rw[q1,q2];rfl
 ·rw[List.drop_zero] at q2
  rw[q2];rcases q3 with⟨q1,q3⟩ |⟨j,hj,q1,q3⟩
  ·have q1:qU_ n ts a rel n 0=_:=q1
   rw[q1,Zo,Zo,Zo,q3];dsimp only;rw[decide_eq_false (by omega),if_neg (by decide)];rfl
  ·have q1:qU_ n ts a rel n 0=_:=q1
   rw[q1,Zo,Zo,Zo,q3];dsimp only;rw[decide_eq_false (by omega),if_neg (by decide),decide_eq_false (by omega),if_neg (by decide),idxS hk,Zo,idxS hj,Zo];rfl
theorem bJ_ {α β:Type}{f:α->β}:∀ {l:List α},(l.map f).Nodup->∀ {x y:α},x∈l->y∈l->f x=f y->x=y
 |[],_,_,_,h,_,_=>nomatch h
 |a::l,hn,x,y,hx,hy,e=>by
  rw[List.map_cons,List.nodup_cons] at hn;rcases List.mem_cons.1 hx with rfl |hx'
  ·rcases List.mem_cons.1 hy with rfl |hy'
   ·rfl
   ·exact absurd (e▸List.mem_map_of_mem hy') hn.1
  ·rcases List.mem_cons.1 hy with rfl |hy'
   ·exact absurd (e▸List.mem_map_of_mem hx') hn.1
   ·exact bJ_ hn.2 hx' hy' e
theorem rT_ {ts:List GType}{S:WellSchema}(hW:WellP ts S)(a rel:ByteArray):relD ts a rel=mget (⟨a,rel⟩:WellName) S.rels:=by
 unfold relD;cases h1:ts.find? fun t=>decide (t.name=a) with
 |none=>
  rw[List.find?_eq_none] at h1;cases h2:mget (⟨a,rel⟩:WellName) S.rels with
  |none=>rfl
  |some g=>
   obtain⟨t,ht,g',_,e,_⟩:=gx_ hW (m:=⟨a,rel⟩) (by unfold mhas;rw[h2];rfl);exact absurd (decide_eq_true (congrArg WellName.typ e).symm) (h1 t ht)
 |some t=>
  have ht:=List.mem_of_find?_eq_some h1;have hta:t.name=a:=of_decide_eq_true (p:=t.name=a) (List.find?_some (p:=fun(t:GType)=>decide (t.name=a)) h1);rw[Zo];unfold relF;cases h3:t.rels.find? fun g=>decide (g.name=rel) with
  |some g=>
   have hg:=List.mem_of_find?_eq_some h3;have hgr:g.name=rel:=of_decide_eq_true (p:=g.name=rel) (List.find?_some (p:=fun(g:GRel)=>decide (g.name=rel)) h3);rw[<-hta,<-hgr,pH_ hW.rels hW.keys ht hg]
  |none=>
   rw[List.find?_eq_none] at h3;cases h2:mget (⟨a,rel⟩:WellName) S.rels with
   |none=>rfl
   |some g=>
    obtain⟨t',ht',g',hg',e,_⟩:=gx_ hW (m:=⟨a,rel⟩) (by unfold mhas;rw[h2];rfl);have et:t'.name=t.name:=(congrArg WellName.typ e).symm.trans hta.symm
    have:t'=t:=bJ_ hW.tys ht' ht et
    subst this;exact absurd (decide_eq_true (congrArg WellName.rel e).symm) (h3 g' hg')
def fitD (ts:List GType)(t:GTuple):Bool:=(relD ts t.obj.type_ t.rel).isSome&&((relD ts t.obj.type_ t.rel).getD zGR).subs.any fun x=>decide (x.type_=t.sub_.type_)&&decide (x.rel=t.sub_.rel)
theorem py_ {n:Nat}{t:GTuple}{q:GRel × Bool}(hx:q.1.subs.length<=51):∀(d i c:Nat),d=q.1.subs.length-i->i<=q.1.subs.length->d<c->
  jh_ n t q c (i:Int)=some (if (q.1.subs.drop i).any (fun x=>decide (x.type_=t.sub_.type_)&&decide (x.rel=t.sub_.rel)) then .inr true else .inl ())
 |0,i,c,hd,hi,hc=>by
  obtain⟨c,rfl⟩:∃e,c=e+1:=⟨c-1,by omega⟩;unfold jh_;rw[dnlt (by omega),if_neg (by decide),List.drop_of_length_le (by omega)];rfl
 |d+1,i,c,hd,hi,hc=>by
  obtain⟨c,rfl⟩:∃e,c=e+1:=⟨c-1,by omega⟩;have hlt:i<q.1.subs.length:=by omega
  have ih:=py_ (n:=n) (t:=t) hx d (i+1) c (by omega) (by omega) (by omega);unfold jh_;rw[dlt hlt,if_pos rfl,idxS hlt,Zo,beqS,beqS,w64a (by omega),ih,List.drop_eq_getElem_cons hlt,List.any_cons];cases decide (q.1.subs[i].type_=t.sub_.type_)<;>cases decide (q.1.subs[i].rel=t.sub_.rel)<;>simp
theorem dh_ {n:Nat}{ts:List GType}{t:GTuple}(hB:zY_ ts)(hn:1000<n)(hok:v3_ n t=some true):zA_ n ts t=some (fitD ts t):=by
 unfold zA_ fitD;rw[dY_ hB hn,Zo];have hl:((relD ts t.obj.type_ t.rel).getD zGR).subs.length<=51:=by
  cases h:relD ts t.obj.type_ t.rel with
  |none=>exact Nat.zero_le _
  |some g=>
   unfold relD at h;obtain⟨y,h1,h2⟩:=Option.bind_eq_some_iff.1 h;exact((hB.2 y (List.mem_of_find?_eq_some h1)).2 g (List.mem_of_find?_eq_some h2)).1
 dsimp only;cases(relD ts t.obj.type_ t.rel).isSome with
 |false=>rfl
 |true=>
  have e:=py_ (n:=n) (t:=t) (q:=((relD ts t.obj.type_ t.rel).getD zGR,true)) hl _ 0 n rfl (Nat.zero_le _) (by dsimp only;omega);rw[List.drop_zero] at e;have e:jh_ n t ((relD ts t.obj.type_ t.rel).getD zGR,true) n 0=_:=e;rw[if_pos rfl,hok,Zo,Zo,if_neg (by decide),e,Zo,Bool.true_and]
  cases(((relD ts t.obj.type_ t.rel).getD zGR).subs.any fun x=>decide (x.type_=t.sub_.type_)&&decide (x.rel=t.sub_.rel))<;>rfl
theorem pz_ {ts:List GType}{S:WellSchema}(hW:WellP ts S)(hB:zY_ ts)(t:GTuple):fitD ts t=fitB S t:=by
 have hb:=(gZ_ (kI_ hW hB) ⟨t.obj.type_,t.rel⟩).2.2.2;unfold fitD fitB fitP;rw[rT_ hW];unfold ql_ at hb;show _=decide (_∈((mget (⟨t.obj.type_,t.rel⟩:WellName) S.rels).getD zGR).subs);generalize mget (⟨t.obj.type_,t.rel⟩:WellName) S.rels=o at hb⊢;cases o with
 |none=>simp[zGR]
 |some g=>
  simp only[Option.getD_some] at hb;rw[Bool.eq_iff_iff];simp only[Option.isSome_some,Option.getD_some,Bool.true_and,List.any_eq_true,Bool.and_eq_true,decide_eq_true_eq];constructor
  ·rintro⟨x,hx,e1,e2⟩
   have:=hb x hx
   obtain⟨a,b,c⟩:=x;dsimp only at e1 e2 this;subst e1 e2 this;exact hx
  ·exact fun hx=>⟨_,hx,rfl,rfl⟩
theorem so_L1 {n:Nat}{ts:List GType}{rows:List GTuple}(hr:rows.length<=100)(hf:∀t∈rows,zA_ n ts t=some (fitD ts t)):∀(k c:Nat) (B F:List GTuple),k<=rows.length->k<c->B.length+2*k<=1000->F.length+k<=1000->
  ∃B' F',qG_ n ts rows c (B,F,(k:Int)-1)=some (B',F')/\B'.length=B.length+2*k/\F'.length<=F.length+k/\(∀x,x∈B'↔x∈B\/x∈rows.take k)/\∀x,x∈F'↔x∈F\/(x∈rows.take k/\fitD ts x=true)
 |0,c,B,F,hk,hc,hB,hF=>by
  obtain⟨c,rfl⟩:∃e,c=e+1:=⟨c-1,by omega⟩;refine⟨B,F,?_,rfl,Nat.le_refl _,fun x=>by simp,fun x=>by simp⟩;unfold qG_;rw[decide_eq_false (by omega),if_neg (by decide)]
 |k+1,c,B,F,hk,hc,hB,hF=>by
  obtain⟨c,rfl⟩:∃e,c=e+1:=⟨c-1,by omega⟩;have hlt:k<rows.length:=by omega
  have e1:((k+1:Nat):Int)-1=(k:Int):=by omega
  have e2:IntKind.i64.wrap ((k:Int)-1)=(k:Int)-1:=IntWalk.i64_in _ (by omega);have mt:∀x,x∈rows.take (k+1)↔x∈rows.take k\/x=rows[k]:=fun x=>by
   rw[List.take_add_one,List.getElem?_eq_getElem hlt,List.mem_append];simp
  rw[e1];unfold qG_;rw[decide_eq_true (by omega),if_pos rfl,idxS hlt,Zo,appS (by simp;omega),Zo,hf _ (List.getElem_mem hlt),Zo,e2];have hl2:(B++[rows[k],rows[k]]).length=B.length+2:=by simp
  cases hd:fitD ts rows[k] with
  |true=>
   rw[if_pos rfl,appS (by simp;omega),Zo];obtain⟨B',F',q1,q2,q3,q4,q5⟩:=so_L1 hr hf k c (B++[rows[k],rows[k]]) (F++[rows[k]]) (by omega) (by omega) (by omega) (by simp;omega);refine⟨B',F',q1,by omega,by simp at q3;omega,fun x=> ?_,fun x=> ?_⟩
   ·rw[q4,mt]
    simp only[List.mem_append,List.mem_cons,List.not_mem_nil,or_false,or_self];grind
   ·rw[q5,mt]
    simp only[List.mem_append,List.mem_cons,List.not_mem_nil,or_false];grind
  |false=>
   rw[if_neg (by decide)];obtain⟨B',F',q1,q2,q3,q4,q5⟩:=so_L1 hr hf k c (B++[rows[k],rows[k]]) F (by omega) (by omega) (by omega) (by omega);refine⟨B',F',q1,by omega,by omega,fun x=> ?_,fun x=> ?_⟩
   ·rw[q4,mt]
    simp only[List.mem_append,List.mem_cons,List.not_mem_nil,or_false,or_self];grind
   ·rw[q5,mt]
    grind
theorem cH_ {α:Type}(l:List α)(k:Nat):∃m,slc l 0 (if (k:Int)<(l.length:Int) then(k:Int) else(l.length:Int))=some m/\m.length<=k:=by
 split
 ·rename_i h
  exact⟨_,slcS (a:=0) (b:=k) (Nat.zero_le _) (by omega),by rw[List.drop_zero,List.length_take];omega⟩
 ·rename_i h
  exact⟨_,slcS (a:=0) (b:=l.length) (Nat.zero_le _) (Nat.le_refl _),by rw[List.drop_zero,List.length_take];omega⟩
theorem law_seekOrder (t0 t1:List Int)(t2:Int):∃n,xm_ n t0 t1 t2=some true:=by
 refine⟨3000000000,?_⟩;generalize hn0:(3000000000:Nat)=n;have hn:2000200000<n:=by omega
 clear hn0;obtain⟨s,h1,hs⟩:=n1_ (n:=n) (by omega) t0;obtain⟨ts,h2,hB⟩:=ct_ s n (by omega);obtain⟨l,h3,hl⟩:=cH_ t1 25;have h3:slc t1 0 (if 25<(t1.length:Int) then 25 else(t1.length:Int))=some l:=h3
 obtain⟨rows,h4,_,hr,hp⟩:=rV_ (n:=n) l (by omega);obtain⟨⟨o,rel,sb⟩,h5,_⟩:=rW_ n t2;have hok:∀t∈rows,v3_ n t=some true/\xW_ n t=some true:=fun t ht=>co_ (by omega) (hp t ht)
 obtain⟨B,F,h6,b1,b2,b3,b4⟩:=so_L1 (n:=n) (ts:=ts) (rows:=rows) (by omega) (fun t ht=>dh_ hB (by omega) (hok t ht).1) rows.length n [] [] (Nat.le_refl _) (by omega) (by simp;omega) (by simp;omega);simp only[List.length_nil,List.take_length,List.not_mem_nil,false_or,Nat.zero_add] at b1 b2 b3 b4
 have e1:IntKind.i64.wrap ((rows.length:Int)-1)=(rows.length:Int)-1:=IntWalk.i64_in _ (by omega);have key:∃r,∀rs∈[rows,B,F],jk_ n ts rs o rel sb=some r:=by
  rcases cm_ hB (n:=n) (by omega) with⟨S,w1,hW⟩ |⟨e,_,w2⟩
  ·have hS:=kI_ hW hB
   obtain⟨r,hr2⟩:=dX_ hW hB (n:=n) (rows:=rows) (by omega) (by omega) o rel sb;refine⟨r,fun rs hrs=> ?_⟩;have hm:∀x∈rs,x∈rows:=fun x hx=>by
    simp only[List.mem_cons,List.not_mem_nil,or_false] at hrs;rcases hrs with rfl |rfl |rfl
    ·exact hx
    ·exact(b3 x).1 hx
    ·exact((b4 x).1 hx).1
   have hlen:rs.length<=10000:=by
    simp only[List.mem_cons,List.not_mem_nil,or_false] at hrs;rcases hrs with rfl |rfl |rfl<;>omega
   rw[hS_ w1 hS (by omega) hlen fun t ht=>(hok t (hm t ht)).2,<-hr2];refine bI_ (fun x hx=> ?_) o rel sb;simp only[List.mem_cons,List.not_mem_nil,or_false] at hrs;rcases hrs with rfl |rfl |rfl
   ·exact Iff.rfl
   ·exact b3 x
   ·rw[b4,pz_ hW hB,hx]
    simp
  ·exact⟨_,fun rs _=>w2 rs o rel sb⟩
 obtain⟨r,hk⟩:=key;have k1:=hk rows (by simp);have k2:=hk B (by simp);have k3:=hk F (by simp);unfold xm_;rw[h1,Zo,h2,Zo,h3,Zo,h4,Zo,h5,Zo,e1,h6,Zo];dsimp only;rw[k1,Zo,k2,Zo,k3,Zo];simp[wZ_]
end Go.Proofs.YtnmkbmefohakmaaGreat.Ab
namespace Go.Proofs.YtnmkbmefohakmaaGreat.Ab
open Go.ChangeShapes Go.WideShapes Go.ChangeAt Go.RowKit
abbrev All (W:World):Nat->Prop:=fun k=>k<W.heap.size/\¬False
section
variable {H:Type}{enc:TypeId × Value->H}{P:Program}{W:World}
def Opens {H:Type}(enc:TypeId × Value->H)(P:Program)(W:World)(t:TypeId){α:Type}(e:α->List D)(ok:α->Prop):Prop:=
 ∀(fuel:Nat) (cs:List Value) (x:DataW H × List MemPlace),DataW.trod enc P W 0 (fun _=>true) true fuel t cs=some x->∃a:α,ok a/\cs.length=(e a).length/\∀(j:Nat) (d:D),(e a)[j]? =some d->∃u,cs[j]? =some u/\RC W (All W) d u
theorem kK_ {d:D}{u:Value}(h:RC W (All W) d u):∀(j:Nat) (d':D),[d][j]? =some d'->∃u',[u][j]? =some u'/\RC W (All W) d' u':=fun j d' hj=>by
 cases j with
 |zero=>cases hj;exact⟨u,rfl,h⟩
 |succ j=>simp at hj
theorem Opens.int {t:TypeId}{k:IntKind}(ht:P.underlying t=some (.int k)):Opens enc P W t (fun n:Int=>[.v (.int k n)]) fun n=>(Lit.int k n).wf=true:=fun fuel cs x h=>by
 obtain⟨n,rfl,_,hw⟩:=DataW.trod_int ht h;exact⟨n,hw,rfl,kK_ (.v _ rfl)⟩
theorem Opens.bool {t:TypeId}(ht:P.underlying t=some .bool):Opens enc P W t (fun b:Bool=>[.v (.bool b)]) fun _=>True:=fun fuel cs x h=>by
 obtain⟨n,rfl,_⟩:=DataW.trod_bool ht h;exact⟨n,trivial,rfl,kK_ (.v _ rfl)⟩
theorem cp_ {w:World}{p:Addr}{x:Value}(h:w.cell? p=some x):p.block<w.heap.size:=by
 rcases Nat.lt_or_ge p.block w.heap.size with h1 |h1
 ·exact h1
 ·have:w.heap[p.block]? =none:=Array.getElem?_eq_none h1
  simp[World.cell?,this] at h
theorem gF_ {b o i:Nat}:(⟨b,o,none⟩:Addr).add i=⟨b,o+i,none⟩:=by
 unfold Addr.add;split<;>simp_all
theorem Opens.slice {t e:TypeId}{k:Nat}(ht:P.underlying t=some (.slice e))(hk:P.cellsOf e=k)(h0:0<k){α:Type}{en:α->List D}{ok:α->Prop}(hl:∀a,(en a).length=k)(he:Opens enc P W e en ok):
  Opens enc P W t (fun l:List α=>[.sl (List.map en l)]) fun l=>l.length<=maxLen/\∀a∈l,ok a:=fun fuel cs x h=>by
 subst hk;rcases DataW.trod_slice ht h with⟨rfl,_⟩ |⟨a,len,cap,elems,rest,n,_,rfl,_,_,hlc,hm,hel,hat,_,_⟩
 ·exact⟨[],⟨Nat.zero_le _,by simp⟩,rfl,kK_ (.nl _ _)⟩
 ·have each:∀i:Fin len,∃(y:α) (us:List Value),ok y/\us.length=P.cellsOf e/\(∀j,j<P.cellsOf e->W.cell? ((a.add (i.1*P.cellsOf e)).add j)=us[j]?)/\∀(j:Nat) (d:D),(en y)[j]? =some d->∃u,us[j]? =some u/\RC W (All W) d u:=fun i=>by
   have h1:=hat i.1 i.2;rw[List.getElem?_eq_getElem (by rw[hel];exact i.2)] at h1;obtain⟨us,h2,h3⟩:=Option.bind_eq_some_iff.1 h1;obtain⟨_,h5,h6⟩:=World.cells?_some h2;obtain⟨y,k1,k2,k3⟩:=he _ _ _ h3;exact⟨y,us,k1,h5,h6,k3⟩
  have ch:∃(f:Fin len->α) (g:Fin len->List Value),∀i,ok (f i)/\(g i).length=P.cellsOf e/\(∀j,j<P.cellsOf e->W.cell? ((a.add (i.1*P.cellsOf e)).add j)=(g i)[j]?)/\∀(j:Nat) (d:D),(en (f i))[j]? =some d->∃u,(g i)[j]? =some u/\RC W (All W) d u:=
   ⟨fun i=>(each i).choose,fun i=>(each i).choose_spec.choose,fun i=>(each i).choose_spec.choose_spec⟩
  obtain⟨f,g,hfg⟩:=ch;refine⟨List.ofFn f,⟨by simp;omega,fun y hy=> ?_⟩,rfl,kK_ ?_⟩
  ·obtain⟨i,rfl⟩:=List.mem_ofFn.1 hy
   exact(hfg i).1
  ·cases len with
   |zero=>exact .nl _ _
   |succ m=>
    have hc0:=(hfg ⟨0,by omega⟩).2.2.1 0 h0;have hl0:0<(g ⟨0,by omega⟩).length:=by rw[(hfg ⟨0,by omega⟩).2.1];exact h0
    rw[List.getElem?_eq_getElem hl0] at hc0;obtain⟨b,o,s⟩:=a;have hspot:s=none:=by
     have:=World.cell?_spot hc0
     simpa [Addr.add] using this
    subst hspot;have hlen:(List.map en (List.ofFn f)).length=m+1:=by simp
    have at':∀(i:Nat) (cs:List D),(List.map en (List.ofFn f))[i]? =some cs->∃hi:i<m+1,cs=en (f ⟨i,hi⟩):=fun i cs hi=>by
     have h1:i<m+1:=by
      have:=(List.getElem?_eq_some_iff.1 hi).1
      rwa [hlen] at this
     refine⟨h1,?_⟩;rw[List.getElem?_map,List.getElem?_eq_getElem (by rw[List.length_ofFn];exact h1),List.getElem_ofFn] at hi;exact(Option.some.inj hi).symm
    have key:=RC.sl (w:=W) (I:=All W) (List.map en (List.ofFn f)) b o cap (P.cellsOf e) (fun i j=>(W.cell? ⟨b,o+i*P.cellsOf e+j,none⟩).getD (.bool true)) ⟨?_,fun h=>h⟩ (by rw[hlen];exact hlc) ?_ ?_ ?_
    ·rw[hlen] at key
     exact key
    ·have:=cp_ hc0
     simpa [Addr.add] using this
    ·intro i cs hi
     obtain⟨h1,rfl⟩:=at' i cs hi;exact hl _
    ·intro i j cs d hi hj
     obtain⟨h1,rfl⟩:=at' i cs hi;obtain⟨u,k1,k2⟩:=(hfg ⟨i,h1⟩).2.2.2 j d hj;have hjk:j<P.cellsOf e:=by have:=(List.getElem?_eq_some_iff.1 hj).1;rwa [hl] at this
     have k3:=(hfg ⟨i,h1⟩).2.2.1 j hjk;rw[gF_,gF_,k1] at k3;simp only[k3,Option.getD_some]
    ·intro i j cs d hi hj
     obtain⟨h1,rfl⟩:=at' i cs hi;obtain⟨u,k1,k2⟩:=(hfg ⟨i,h1⟩).2.2.2 j d hj;have hjk:j<P.cellsOf e:=by have:=(List.getElem?_eq_some_iff.1 hj).1;rwa [hl] at this
     have k3:=(hfg ⟨i,h1⟩).2.2.1 j hjk;rw[gF_,gF_,k1] at k3;simp only[k3,Option.getD_some];exact k2
def OpensF {H:Type}(enc:TypeId × Value->H)(P:Program)(W:World)(o:Nat)(fs:List Field){α:Type}(e:α->List D)(ok:α->Prop):Prop:=
 ∀(n:Nat) (cs:List Value),(∀f∈fs,∃y,DataW.trod enc P W 0 (fun _=>true) true n f.type ((cs.drop f.offset).take (P.cellsOf f.type))=some y)->∃a:α,ok a/\∀(j:Nat) (d:D),(e a)[j]? =some d->∃u,cs[o+j]? =some u/\RC W (All W) d u
theorem OpensF.nil {o:Nat}:OpensF enc P W o [] (fun _:Unit=>[]) fun _=>True:=fun _ _ _=>⟨(),trivial,fun j d h=>by simp at h⟩
theorem OpensF.cons {o k:Nat}{f:Field}{fs:List Field}{α β:Type}{e1:α->List D}{e2:β->List D}{ok1:α->Prop}{ok2:β->Prop}(ho:f.offset=o)(hl:∀a,(e1 a).length=k)(h1:Opens enc P W f.type e1 ok1)(h2:OpensF enc P W (o+k) fs e2 ok2):
  OpensF enc P W o (f::fs) (fun p:α × β=>e1 p.1++e2 p.2) fun p=>ok1 p.1/\ok2 p.2:=fun n cs h=>by
 obtain⟨y,hy⟩:=h f (List.mem_cons_self ..);obtain⟨a,k1,k2,k3⟩:=h1 _ _ _ hy;obtain⟨b,k4,k5⟩:=h2 n cs fun g hg=>h g (List.mem_cons_of_mem _ hg);refine⟨(a,b),⟨k1,k4⟩,fun j d hj=> ?_⟩;rcases Nat.lt_or_ge j k with hlt |hge
 ·rw[List.getElem?_append_left (by rw[hl];exact hlt)] at hj
  obtain⟨u,e3,e4⟩:=k3 j d hj;refine⟨u,?_,e4⟩;rw[List.getElem?_take] at e3;split at e3
  ·rwa [List.getElem?_drop,ho] at e3
  ·cases e3
 ·rw[List.getElem?_append_right (by rw[hl];exact hge),hl] at hj
  obtain⟨u,e3,e4⟩:=k5 _ d hj;exact⟨u,by rw[<-e3];congr 1;omega,e4⟩
theorem Opens.struct {t:TypeId}{fs:Array Field}{α:Type}{e:α->List D}{ok:α->Prop}(ht:P.underlying t=some (.struct fs))(hl:∀a,(e a).length=P.cellsOf t)(h:OpensF enc P W 0 fs.toList e ok):Opens enc P W t e ok:=fun fuel cs x hx=>by
 obtain⟨xs,n,_,_,hc,hxs,hat⟩:=DataW.trod_struct ht hx;obtain⟨a,k1,k2⟩:=h n cs fun f hf=>by
  obtain⟨i,hi,rfl⟩:=List.getElem_of_mem hf;have hi':i<fs.size:=by simpa using hi
  have:=hat i fs[i] (by simp[hi'])
  rw[List.getElem?_eq_getElem (by omega)] at this;exact⟨_,by simpa using this⟩
 exact⟨a,k1,by rw[hc,hl],fun j d hj=>by have:=k2 j d hj;simpa using this⟩
theorem Opens.map {t:TypeId}{α β:Type}{e:α->List D}{ok:α->Prop}(h:Opens enc P W t e ok)(g:α->β){e':β->List D}{ok':β->Prop}(he:∀a,e' (g a)=e a)(hok:∀a,ok a->ok' (g a)):Opens enc P W t e' ok':=fun fuel cs x hx=>by
 obtain⟨a,k1,k2,k3⟩:=h fuel cs x hx;exact⟨g a,hok a k1,by rw[he];exact k2,by rw[he];exact k3⟩
theorem Opens.agg {t:TypeId}{fs:Array Field}{α:Type}{e:α->List D}{ok:α->Prop}(h:Opens enc P W t e ok)(ht:P.underlying t=some (.struct fs)){W1:World}{b1:Nat}{v:Value}{d:DataW H}{p:List MemPlace}(hv:Value.okWide P W1 .any b1 t v)(h0:DataW.Trod enc P W 0 (fun _=>true) true t v d p):∃a,ok a/\RV1 W (All W) (.ag (e a)) v:=by
 obtain⟨cs,rfl,_⟩:=okWide_struct ht hv;obtain⟨fuel,hf⟩:=h0;obtain⟨a,k1,k2,k3⟩:=h _ _ _ hf;simp only[Value.cells] at k2 k3;refine⟨a,k1,cs,rfl,by simpa using k2,fun j d hj=> ?_⟩;obtain⟨u,e1,e2⟩:=k3 j d hj;exact⟨u,by simpa using e1,e2⟩
theorem Opens.one {t:TypeId}{α:Type}{e:α->D}{ok:α->Prop}(h:Opens enc P W t (fun a=>[e a]) ok){v:Value}(hc:v.cells= #[v]){d:DataW H}{p:List MemPlace}(h0:DataW.Trod enc P W 0 (fun _=>true) true t v d p):∃a,ok a/\RC W (All W) (e a) v:=by
 obtain⟨fuel,hf⟩:=h0;obtain⟨a,k1,_,k3⟩:=h _ _ _ hf;rw[hc] at k3;obtain⟨u,e1,e2⟩:=k3 0 (e a) rfl;cases e1;exact⟨a,k1,e2⟩
end
theorem rows_nil {W:World}:∀(j:Nat) (d:D),([]:List D)[j]? =some d->∃u,([]:List Value)[j]? =some u/\RV1 W (All W) d u:=fun j d h=>by simp at h
theorem rows_cons {W:World}{d:D}{v:Value}{ds:List D}{vs:List Value}(h:RV1 W (All W) d v)(hs:∀(j:Nat) (d:D),ds[j]? =some d->∃u,vs[j]? =some u/\RV1 W (All W) d u):∀(j:Nat) (d':D),(d::ds)[j]? =some d'->∃u,(v::vs)[j]? =some u/\RV1 W (All W) d' u:=fun j d' hj=>by
 cases j with
 |zero=>cases hj;exact⟨v,rfl,h⟩
 |succ j=>exact hs j d' (by simpa using hj)
theorem law_pure {P:Program}{f:FuncId}{fr:Bool}{ds:List D}(h:PureOK P f ds (.v (.bool true)) fr)(W:World)(vs:List Value)(hl:vs.length=ds.length)(ha:∀(j:Nat) (d:D),ds[j]? =some d->∃u,vs[j]? =some u/\RV1 W (All W) d u):Calls P f vs.toArray W fun e W'=>e= .returned (.bool true)/\Below W.heap.size W W':=by
 refine(h.2 W (fun _=>False) vs.toArray (fun _ h=>h.elim) (by simpa using hl) fun j x hj=> ?_).mono fun e W' ⟨u,he,⟨hb,_⟩,hv⟩=> ?_
 ·obtain⟨u,e1,e2⟩:=ha j x hj
  exact⟨u,by simpa using e1,e2⟩
 ·cases(show RC W' _ (.v (.bool true)) u from hv)
  exact⟨he,hb⟩
end Go.Proofs.YtnmkbmefohakmaaGreat.Ab
