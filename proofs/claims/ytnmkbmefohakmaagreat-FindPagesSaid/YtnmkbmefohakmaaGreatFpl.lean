/-
 What is listed over any schema and tuples: a page of a rising list, or an error. No program in sight.
-/
import Derived.Test.YtnmkbmefohakmaaGreatSow
namespace Go.Proofs.YtnmkbmefohakmaaGreat.Ab
open Go.RowKit
theorem gh_ {α:Type}{xs:List α}{v:Int}(k:Nat)(hv:v=(k:Int))(h:k<xs.length):∃x,idx xs v=some x/\x∈xs:=⟨_,hv▸idxS h,List.getElem_mem h⟩
theorem catB {x y:ByteArray}{k:Nat}(hx:x.size<=k)(hy:y.size<=8)(hk:k<=1000000):∃s,cat x y=some s/\s.size<=k+8:=by
 have:1000008<=maxLen:=by decide
 exact⟨_,catS (by omega),by rw[ByteArray.size_append];omega⟩
theorem ug_ {xs:List ByteArray}{x:ByteArray}(h:x∈xs)(hx:(xs.all fun y=>decide (y.size<=8))=true):x.size<=8:=of_decide_eq_true (List.all_eq_true.1 hx x h)
theorem idx7 (xs:List ByteArray)(v:Int)(h:xs.length=8):∃x,idx xs (IntKind.i64.wrap (an v 7:Int))=some x/\x∈xs:=gh_ (an v 7) (yX_ v 7 (by decide)) (by rw[h];exact Nat.lt_of_le_of_lt (h4_ v 7) (by decide))
theorem idx1 (a b:ByteArray)(v:Int):∃x,idx [a,b] (IntKind.i64.wrap (an v 1:Int))=some x/\x∈[a,b]:=gh_ (an v 1) (yX_ v 1 (by decide)) (Nat.lt_of_le_of_lt (h4_ v 1) (show 1<2 by decide))
theorem idx3 (xs:List ByteArray)(v:Int)(h:xs.length=4):∃x,idx xs (IntKind.i64.wrap (an v 3:Int))=some x/\x∈xs:=gh_ (an v 3) (yX_ v 3 (by decide)) (by rw[h];exact Nat.lt_of_le_of_lt (h4_ v 3) (by decide))
theorem idxm (xs:List ByteArray)(v:Int)(m:Nat)(h:xs.length=m)(hm:0<m):∃x,idx xs (Int.tmod (IntKind.i64.wrap (an v 255:Int)) (m:Int))=some x/\x∈xs:=gh_ (an v 255%m) (by rw[an8];exact rT_ _ _) (by rw[h];exact Nat.mod_lt _ hm)
section
variable {n:Nat}{t0:List Int}
theorem pl_ (k:Nat):∃v,jz_ n (k:Int) t0=some v:=by
 unfold jz_;by_cases h:k<t0.length
 ·rw[dlt h,if_pos rfl,idxS h]
  exact⟨_,rfl⟩
 ·rw[dnlt (by omega),if_neg (by decide)]
  exact⟨_,rfl⟩
theorem pm_ (v:Int):∃s,j3_ n v=some s/\s.size<=8:=by
 unfold j3_;obtain⟨x,h1,h2⟩:=idxm [({ data:= #[117] }:ByteArray),{ data:= #[117] },{ data:= #[97,35,114] },{ data:= #[98,35,114] },{ data:= #[97,35,115] },{ data:= #[98,35,112] },{ data:= #[97] },{ data:= #[98] },{ data:= #[117] },{ data:= #[97,35,113] }] v 10 rfl (by decide)
 refine⟨x,by rw[show(10:Int)=((10:Nat):Int) from rfl,h1];rfl,ug_ h2 (by decide)⟩
theorem ba_ (v:Int):∃s,jI_ n v=some s/\s.size<=8:=by
 unfold jI_;obtain⟨x,h1,h2⟩:=idx7 [({ data:= #[114] }:ByteArray),{ data:= #[115] },{ data:= #[114] },{ data:= #[115] },{ data:= #[115,45,62,114] },{ data:= #[115,45,62,112] },{ data:= #[112] },{ data:= #[113] }] v rfl;refine⟨x,by rw[h1];rfl,ug_ h2 (by decide)⟩
theorem pn_ {k3:Nat}(hk3:k3<=100):∀(d j c:Nat) (s:ByteArray) (k:Nat),d=2-j->j<=2->d<c->s.size<=k->k+112*d<=100000->∃r,jl_ n t0 (k3:Int) c (s,(j:Int))=some r/\r.size<=k+112*d
 |0,j,c,s,k,hd,hj,hc,hs,hk=>by
  obtain⟨c,rfl⟩:∃e,c=e+1:=⟨c-1,by omega⟩;unfold jl_;rw[show decide ((j:Int)<2)=false by simp;omega,if_neg (by decide)];exact⟨s,rfl,by omega⟩
 |d+1,j,c,s,k,hd,hj,hc,hs,hk=>by
  obtain⟨c,rfl⟩:∃e,c=e+1:=⟨c-1,by omega⟩;have ih:=fun s2 k2=>pn_ hk3 d (j+1) c s2 k2 (by omega) (by omega) (by omega);obtain⟨v,hv⟩:=pl_ (n:=n) (t0:=t0) (k3+1+j)
  have e:IntKind.i64.wrap (IntKind.i64.wrap ((k3:Int)+1)+(j:Int))=((k3+1+j:Nat):Int):=by rw[w64a (by omega),show((k3+1:Nat):Int)+(j:Int)=((k3+1+j:Nat):Int) by omega,w64 (by omega)]
  unfold jl_;rw[show decide ((j:Int)<2)=true by simp;omega,if_pos rfl,e,hv,Zo,w64a (by omega)];obtain⟨s1,h1,z1⟩:=catB (y:={ data:= #[32] }) hs (by decide) (by omega);obtain⟨x,h2,hx⟩:=gh_ (xs:=[({ data:= #[112] }:ByteArray),{ data:= #[113] }]) (v:=(j:Int)) j rfl (by simp;omega);obtain⟨s2,h3,z2⟩:=catB (y:=x) z1 (ug_ hx (by decide)) (by omega)
  obtain⟨s3,h4,z3⟩:=catB (y:={ data:= #[32,61,32] }) z2 (by decide) (by omega);obtain⟨a1,g1,y1⟩:=ba_ (n:=n) v;obtain⟨s4,h5,z4⟩:=catB z3 y1 (by omega);obtain⟨x2,h6,hx2⟩:=idx3 [({ data:= #[32,43,32] }:ByteArray),{ data:= #[32,38,32] },{ data:= #[32,45,32] },{ data:= #[32,43,32] }] (sh v 4) rfl
  obtain⟨s5,h7,z5⟩:=catB (y:=x2) z4 (ug_ hx2 (by decide)) (by omega);obtain⟨a2,g2,y2⟩:=ba_ (n:=n) (sh v 8);obtain⟨s6,h8,z6⟩:=catB z5 y2 (by omega);rw[h1,Zo,h2,Zo,h3,Zo,h4,Zo,g1,Zo,h5,Zo,h6,Zo,h7,Zo,g2,Zo,h8,Zo];split
  ·obtain⟨x3,h9,hx3⟩:=idx3 [({ data:= #[32,43,32] }:ByteArray),{ data:= #[32,38,32] },{ data:= #[32,45,32] },{ data:= #[32,45,32,40] }] (sh v 13) rfl
   obtain⟨s7,h10,z7⟩:=catB (y:=x3) z6 (ug_ hx3 (by decide)) (by omega);obtain⟨a3,g3,y3⟩:=ba_ (n:=n) (sh v 16);obtain⟨s8,h11,z8⟩:=catB z7 y3 (by omega);rw[h9,Zo,h10,Zo,g3,Zo,h11,Zo];split
   ·obtain⟨s9,h12,z9⟩:=catB (y:={ data:= #[32,38,32] }) z8 (by decide) (by omega)
    obtain⟨a4,g4,y4⟩:=ba_ (n:=n) (sh v 20);obtain⟨s10,h13,z10⟩:=catB z9 y4 (by omega);obtain⟨s11,h14,z11⟩:=catB (y:={ data:= #[41] }) z10 (by decide) (by omega);obtain⟨s12,h15,z12⟩:=catB (y:={ data:= #[59] }) z11 (by decide) (by omega);rw[h12,Zo,g4,Zo,h13,Zo,h14,Zo,h15,Zo];obtain⟨r,q1,q2⟩:=ih s12 _ z12 (by omega);exact⟨r,q1,by omega⟩
   ·obtain⟨s9,h12,z9⟩:=catB (y:={ data:= #[59] }) z8 (by decide) (by omega)
    rw[h12,Zo];obtain⟨r,q1,q2⟩:=ih s9 _ z9 (by omega);exact⟨r,q1,by omega⟩
  ·obtain⟨s9,h12,z9⟩:=catB (y:={ data:= #[59] }) z6 (by decide) (by omega)
   rw[h12,Zo];obtain⟨r,q1,q2⟩:=ih s9 _ z9 (by omega);exact⟨r,q1,by omega⟩
set_option maxRecDepth 4000 in
theorem po_ (hn:10<n):∀(d j c:Nat) (s:ByteArray) (k:Nat),d=2-j->j<=2->d<c->s.size<=k->k+400*d<=10000->∃r,jJ_ n t0 c (s,((3*j:Nat):Int),(j:Int))=some r/\r.size<=k+400*d
 |0,j,c,s,k,hd,hj,hc,hs,hk=>by
  obtain⟨c,rfl⟩:∃e,c=e+1:=⟨c-1,by omega⟩;unfold jJ_;rw[show decide ((j:Int)<2)=false by simp;omega,if_neg (by decide)];exact⟨s,rfl,by omega⟩
 |d+1,j,c,s,k,hd,hj,hc,hs,hk=>by
  obtain⟨c,rfl⟩:∃e,c=e+1:=⟨c-1,by omega⟩;have ih:=fun s2 k2=>po_ hn d (j+1) c s2 k2 (by omega) (by omega) (by omega);obtain⟨v,hv⟩:=pl_ (n:=n) (t0:=t0) (3*j);have e1:IntKind.i64.wrap (((3*j:Nat):Int)+3)=((3*(j+1):Nat):Int):=by rw[show((3*j:Nat):Int)+3=((3*(j+1):Nat):Int) by omega,w64 (by omega)]
  unfold jJ_;rw[show decide ((j:Int)<2)=true by simp;omega,if_pos rfl,hv,w64a (by omega),e1];obtain⟨s1,h1,z1⟩:=catB (y:={ data:= #[116,121,112,101,32] }) hs (by decide) (by omega);obtain⟨x,h2,hx⟩:=gh_ (xs:=[({ data:= #[97] }:ByteArray),{ data:= #[98] }]) (v:=(j:Int)) j rfl (by simp;omega)
  obtain⟨s2,h3,z2⟩:=catB (y:=x) z1 (ug_ hx (by decide)) (by omega);obtain⟨s3,h4,z3⟩:=catB (y:={ data:= #[32,123,32,114,58,32] }) z2 (by decide) (by omega);obtain⟨a1,g1,y1⟩:=pm_ (n:=n) v;obtain⟨s4,h5,z4⟩:=catB z3 y1 (by omega);rw[h1,Zo,h2,Zo,h3,Zo,h4,Zo,Zo,g1,Zo,h5,Zo,Zo]
  have hm:∃s5,(if (IntKind.i64.wrap (an (sh v 8) 1:Int))==1 then(cat s4 ({ data:= #[32,124,32] })).bind fun s43=>(some v).bind fun t412=>(j3_ n (sh t412 9)).bind fun t432=>(cat s43 t432).bind fun s44=>some s44 else some s4)=some s5/\s5.size<=k+48:=by
   split
   ·obtain⟨s5,h6,z5⟩:=catB (y:={ data:= #[32,124,32] }) z4 (by decide) (by omega)
    obtain⟨a2,g2,y2⟩:=pm_ (n:=n) (sh v 9);obtain⟨s6,h7,z6⟩:=catB z5 y2 (by omega);refine⟨s6,?_,by omega⟩;rw[h6,Zo,Zo,g2,Zo,h7];rfl
   ·exact⟨s4,rfl,by omega⟩
  obtain⟨s5,h6,z5⟩:=hm;obtain⟨s6,h7,z6⟩:=catB (y:={ data:= #[59,32,115,58,32] }) z5 (by decide) (by omega);obtain⟨x2,h8,hx2⟩:=idxm [({ data:= #[97] }:ByteArray),{ data:= #[98] },{ data:= #[97,32,124,32,98] },{ data:= #[117,32,124,32,97] }] (sh v 20) 4 rfl (by decide)
  have h8:idx [({ data:= #[97] }:ByteArray),{ data:= #[98] },{ data:= #[97,32,124,32,98] },{ data:= #[117,32,124,32,97] }] (Int.tmod (IntKind.i64.wrap (an (sh v 20) 255:Int)) 4)=some x2:=h8;obtain⟨s7,h9,z7⟩:=catB (y:=x2) z6 (ug_ hx2 (by decide)) (by omega);obtain⟨s8,h10,z8⟩:=catB (y:={ data:= #[59] }) z7 (by decide) (by omega)
  obtain⟨s9,h11,z9⟩:=pn_ (n:=n) (t0:=t0) (k3:=3*j) (by omega) 2 0 n s8 _ rfl (by omega) (by omega) z8 (by omega);have h11:jl_ n t0 ((3*j:Nat):Int) n (s8,0)=some s9:=h11;obtain⟨s10,h12,z10⟩:=catB (y:={ data:= #[32,125,10] }) z9 (by decide) (by omega);rw[h6,Zo,h7,Zo,Zo,h8,Zo,h9,Zo,h10,Zo,h11,Zo,h12,Zo];obtain⟨r,q1,q2⟩:=ih s10 _ z10 (by omega)
  exact⟨r,q1,by omega⟩
theorem pp_ (hn:10<n)(t0:List Int):∃s,vE_ n t0=some s/\s.size<=1000:=by
 obtain⟨r,h1,h2⟩:=po_ (t0:=t0) hn 2 0 n { data:= #[116,121,112,101,32,117,10] } 7 rfl (by omega) (by omega) (by decide) (by omega);have h1:jJ_ n t0 n ({ data:= #[116,121,112,101,32,117,10] },0,0)=some r:=h1;refine⟨r,?_,by omega⟩;unfold vE_;rw[h1];rfl
end
def idL:List ByteArray:=[{ data:= #[97] },{ data:= #[98] },{ data:= #[99] },{ data:= #[100] },{ data:= #[97,98] },{ data:= #[98,45,49] },{ data:= #[120,46,121] },{ data:= #[48] }]
def tyL:List ByteArray:=[{ data:= #[97] },{ data:= #[98] }]
def rlL:List ByteArray:=[{ data:= #[114] },{ data:= #[115] }]
def stL:List ByteArray:=[{ data:= #[117] },{ data:= #[97] },{ data:= #[98] }]
structure tameP (t:GTuple):Prop where
 ty:t.obj.type_∈tyL
 id:t.obj.id_∈idL
 rl:t.rel∈rlL
 st:t.sub_.type_∈stL
 si:t.sub_.id_∈idL
 sr:t.sub_.rel=ByteArray.empty\/t.sub_.rel∈rlL
theorem nm_of (n:Nat)(z:Int):∃s,kr_ n z=some s/\s∈idL:=by
 unfold kr_;obtain⟨x,h1,h2⟩:=idx7 idL z rfl;unfold idL at h1;exact⟨x,by rw[h1];rfl,h2⟩
theorem pq_ (n:Nat)(z:Int):∃t,z5_ n z=some t/\tameP t:=by
 unfold z5_;obtain⟨s1,h1,m1⟩:=nm_of n (sh z 1);obtain⟨s2,h2,m2⟩:=nm_of n (sh z 13);obtain⟨x1,e1,i1⟩:=idx1 { data:= #[97] } { data:= #[98] } z;obtain⟨x2,e2,i2⟩:=idx1 { data:= #[114] } { data:= #[115] } (sh z 4);obtain⟨x3,e3,i3⟩:=idxm stL (sh z 5) 3 rfl (by decide)
 have e3:idx [({ data:= #[117] }:ByteArray),{ data:= #[97] },{ data:= #[98] }] (Int.tmod (IntKind.i64.wrap (an (sh z 5) 255:Int)) 3)=some x3:=e3;obtain⟨x4,e4,i4⟩:=idx1 { data:= #[114] } { data:= #[115] } (sh z 18);rw[e1,Zo,h1,Zo,e2,Zo,e3,Zo,h2,Zo];split
 ·rw[e4]
  exact⟨_,rfl,i1,m1,i2,i3,m2,.inr i4⟩
 ·exact⟨_,rfl,i1,m1,i2,i3,m2,.inl rfl⟩
theorem gi_ {n:Nat}(l:List Int):∀(c:Nat) (out:List GTuple),out.length<=80->out.length<=l.length->80-out.length<c->(∀t∈out,tameP t)->∃ys,jN_ n l c (out,(out.length:Int))=some ys/\ys.length<=80/\ys.length<=l.length/\∀t∈ys,tameP t
 |0,_,_,_,h,_=>by omega
 |c+1,out,h1,h0,h2,ho=>by
  unfold jN_;by_cases h:out.length<l.length
  ·rw[dlt h,if_pos rfl,Zo]
   by_cases h3:out.length<80
   ·obtain⟨t,ht,hp⟩:=pq_ n l[out.length]
    rw[show decide ((out.length:Int)<80)=true by simp;omega,if_pos rfl,idxS h,Zo,ht,Zo,appS (by simp;omega),Zo,wr1 (by omega)];obtain⟨ys,h4,h5⟩:=gi_ (n:=n) l c (out++[t]) (by simp;omega) (by simp;omega) (by simp;omega) fun x hx=>by
     rcases List.mem_append.1 hx with hx |hx
     ·exact ho x hx
     ·rw[List.mem_singleton.1 hx]
      exact hp
    rw[List.length_append,List.length_singleton] at h4;exact⟨ys,h4,h5⟩
   ·rw[show decide ((out.length:Int)<80)=false by simp;omega,if_neg (by decide)]
    exact⟨_,rfl,h1,h0,ho⟩
  ·rw[dnlt (by omega),if_neg (by decide),Zo]
   rw[if_neg (by decide)];exact⟨_,rfl,h1,h0,ho⟩
theorem sg_ {n:Nat}(l:List Int)(hn:80<n):∃ys,z6_ n l=some ys/\ys.length<=80/\ys.length<=l.length/\∀t∈ys,tameP t:=by
 obtain⟨ys,h1,h2⟩:=gi_ (n:=n) l n [] (by simp) (by simp) (by simpa using hn) (by simp);refine⟨ys,?_,h2⟩;unfold z6_;have h3:jN_ n l n ([],0)=some ys:=h1;rw[h3];rfl
theorem sh_ (n:Nat)(z:Int):∃a:GObj × ByteArray × GSub,z7_ n z=some a/\a.1.type_∈tyL/\a.1.id_∈idL/\a.2.2.type_∈stL/\a.2.2.id_∈idL/\a.2.2.rel={ data:= #[] }:=by
 unfold z7_;obtain⟨t,h1,h2⟩:=pq_ n z;obtain⟨x,h3,_⟩:=idx7 [({ data:= #[114] }:ByteArray),{ data:= #[115] },{ data:= #[112] },{ data:= #[113] },{ data:= #[112] },{ data:= #[113] },{ data:= #[122] },{ data:= #[112] }] (sh z 24) rfl;rw[h1,Zo,h3];exact⟨_,rfl,h2.ty,h2.id,h2.st,h2.si,rfl⟩
theorem ye_ (m:Nat):∀x∈tyL++rlL++stL,vF_ (m+10) x=some true/\zt_ (m+10) x=some true:=by
 intro x hx;simp only[tyL,rlL,stL,List.cons_append,List.nil_append,List.mem_cons,List.not_mem_nil,or_false] at hx;rcases hx with rfl |rfl |rfl |rfl |rfl |rfl |rfl<;>exact⟨by kernel_rfl,by kernel_rfl⟩
theorem ta_ (m:Nat):∀x∈idL,fq_ (m+10) x=some true/\uA_ (m+10) x=some true:=by
 intro x hx;simp only[idL,List.mem_cons,List.not_mem_nil,or_false] at hx;rcases hx with rfl |rfl |rfl |rfl |rfl |rfl |rfl |rfl<;>exact⟨by kernel_rfl,by kernel_rfl⟩
theorem cL_ {n:Nat}{t:GTuple}(hn:10<=n)(h:tameP t):pk_ n t=some true/\x3_ n t=some true:=by
 obtain⟨m,rfl⟩:∃m,n=m+10:=⟨n-10,by omega⟩;have a1:=ye_ m t.obj.type_ (by simp[h.ty]);have a2:=ta_ m t.obj.id_ h.id;have a3:=ye_ m t.rel (by simp[h.rl]);have a4:=ye_ m t.sub_.type_ (by simp[h.st]);have a5:=ta_ m t.sub_.id_ h.si;unfold pk_ x3_;rw[a1.1,a1.2,a2.1,a2.2,a3.1,a3.2,a4.1,a4.2,a5.1,a5.2];simp only[Zo,if_true,beqS];rcases h.sr with e |e
 ·rw[e,decide_eq_true (show ByteArray.empty={ data:= #[] } from rfl)]
  exact⟨rfl,rfl⟩
 ·have a6:=ye_ m t.sub_.rel (by simp[e])
  rw[a6.1,a6.2];constructor<;>split<;>rfl
theorem gd_ {n:Nat}{S:WellSchema}{a:ByteArray}:∀ {l:List GRel} {ns:List WellName} {e:Int},kP_ n S a l ns=some (.inr e)->(e != 0)=true
 |[],_,_,h=>by cases h
 |g::r,ns,e,h=>by
  unfold kP_ at h;split at h
  ·obtain⟨x,_,h⟩:=zbi h
   split at h
   ·exact gd_ h
   ·rename_i hx
    cases h;simpa using hx
  ·cases h
theorem ge_ {n:Nat}{S:WellSchema}:∀ {l:List GType} {ns:List WellName} {e:Int},kQ_ n S l ns=some (.inr e)->(e != 0)=true
 |[],_,_,h=>by cases h
 |t::r,ns,e,h=>by
  unfold kQ_ at h;obtain⟨x,hx,h⟩:=zbi h;split at h
  ·exact ge_ h
  ·cases h
   exact gd_ hx
theorem dg_ {n:Nat}{l:List GType}{e:Int}(h:ke_ n l=some (.inr e)):(e != 0)=true:=by
 unfold ke_ at h;split at h
 ·split at h
  ·obtain⟨x,hx,h⟩:=zbi h
   rcases x with(_ |⟨m,r⟩) |e'
   ·cases h
   ·unfold wellR at h
    obtain⟨_,_,h⟩:=zbi h;obtain⟨_,_,h⟩:=zbi h;split at h
    ·obtain⟨y,_,h⟩:=zbi h
     rcases y with _ |K
     ·cases h
      rfl
     ·cases h
    ·cases h
   ·cases h
    exact ge_ hx
  ·rename_i hc
   cases h;simpa using hc
 ·cases h
instance (S:WellSchema) (t:GTuple):Decidable (fitP S t):=by unfold fitP;infer_instance
def fitB (S:WellSchema)(t:GTuple):Bool:=decide (fitP S t)
theorem ph_ {n:Nat}{S:WellSchema}{t:GTuple}(hS:vR_ S)(hn:1000<n)(h:x3_ n t=some true):ji_ n S t=some (fitB S t):=by
 have hb:=(dT_ hS ⟨t.obj.type_,t.rel⟩).1;unfold ji_;rw[vp_,Zo,h,Zo,if_pos rfl,vo_ (by dsimp only;omega) (by dsimp only;omega)];rfl
theorem g5_ {n:Nat}{rows:List GTuple}{S:WellSchema}(hS:vR_ S)(hn:1000<n):∀(l out:List GTuple),(∀t∈l,x3_ n t=some true)->out.length+l.length<=4294967296->xj_ (vP_ n rows (S,0)) (vQ_ n rows (S,0)) l out=some (out++l.filter (fitB S))
 |[],out,_,_=>by
  show some out=_;simp
 |t::l,out,hl,ho=>by
  simp only[List.length_cons] at ho;have hl2:∀x∈l,x3_ n x=some true:=fun x hx=>hl x (List.mem_cons_of_mem _ hx);rw[xj_];show(ji_ n S t).bind _=_;rw[ph_ hS hn (hl t (List.mem_cons_self ..)),Zo];cases hf:fitB S t with
  |true=>
   rw[if_pos rfl,appS (by simp only[List.length_singleton];omega),Zo,g5_ hS hn l _ hl2 (by rw[List.length_append,List.length_singleton];omega)];simp[hf]
  |false=>
   rw[if_neg (by decide),g5_ hS hn l _ hl2 (by omega)];simp[hf]
theorem wt_ {n:Nat}{ts:List GType}{rows:List GTuple}{S:WellSchema}(h:ke_ n ts=some (.inl S))(hS:vR_ S)(hn:1000000<n)(hr:rows.length<=1000000)(hok:∀t∈rows,x3_ n t=some true):wC_ n ts rows=some (⟨S,ixO (rows.filter (fitB S)),rows.filter (fitB S)⟩,0):=by
 have hf:(rows.filter (fitB S)).length<=rows.length:=List.length_filter_le _ _;have hL:xq_ n rows (S,0) n (([]:List GTuple),0)=_:=uD_ n rows (S,0) (by omega) n [] 0 (by omega) (by omega);rw[List.drop_zero,g5_ hS (by omega) _ _ hok (by simp only[List.length_nil];omega),List.nil_append] at hL;unfold wC_ bt_;rw[h];dsimp only
 rw[Zo,if_neg (by simp),hL,Zo,fy_ (by omega) hn,Zo];split
 ·rename_i h0
  rw[List.eq_nil_of_length_eq_zero (of_decide_eq_true h0)]
 ·rfl
theorem cI_ {α:Type}(l:List α)(k:Nat):∃m,slc l 0 (if (k:Int)<(l.length:Int) then(k:Int) else(l.length:Int))=some m/\m.length<=k:=by
 split
 ·rename_i h
  exact⟨_,slcS (a:=0) (b:=k) (Nat.zero_le _) (by omega),by rw[List.drop_zero,List.length_take];omega⟩
 ·rename_i h
  exact⟨_,slcS (a:=0) (b:=l.length) (Nat.zero_le _) (Nat.le_refl _),by rw[List.drop_zero,List.length_take];omega⟩
section
variable {K α:Type}[BEq K][LawfulBEq K]
omit [LawfulBEq K] in
theorem n3_ {k:K}{m:List (K × List α)}(h:mhas k m=false):qk_ k [] m= []:=by
 unfold mhas at h;unfold qk_;cases e:mget k m with
 |none=>rfl
 |some v=>rw[e] at h;cases h
def noE (m:List (K × List α)):Prop:=∀p∈m,p.2≠[]
omit [LawfulBEq K] in
theorem noE.has {m:List (K × List α)}(h:noE m){k:K}(hk:mhas k m=true):qk_ k [] m≠[]:=by
 induction m with
 |nil=>simp[mhas,mget] at hk
 |cons p r ih=>
  unfold qk_;unfold mhas at hk;cases e:(k==p.1) with
  |true=>
   simp only[mget,e,if_true];exact h p (List.mem_cons_self ..)
  |false=>
   simp only[mget,e] at hk⊢;exact ih (fun q hq=>h q (List.mem_cons_of_mem _ hq)) hk
omit [LawfulBEq K] in
theorem noE.add {m:List (K × List α)}(h:noE m)(k:K)(y:α):noE (madd k [y] m):=by
 induction m with
 |nil=>intro p hp;simp[madd] at hp;subst hp;simp
 |cons q r ih=>
  intro p hp;unfold madd at hp;split at hp
  ·rcases List.mem_cons.1 hp with rfl |hp
   ·simp
   ·exact h p (List.mem_cons_of_mem _ hp)
  ·rcases List.mem_cons.1 hp with rfl |hp
   ·exact h _ (List.mem_cons_self ..)
   ·exact ih (fun z hz=>h z (List.mem_cons_of_mem _ hz)) p hp
omit [LawfulBEq K] in
theorem g4_ {β:Type}(key:β->K)(val:β->α):∀(l:List β) (es:List (K × List α)),noE es->noE (l.foldl (fun es t=>madd (key t) [val t] es) es)
 |[],_,h=>h
 |t::r,_,h=>g4_ key val r _ (h.add (key t) (val t))
end
theorem ho_ {n:Nat}{m:List (ByteArray × List ByteArray)}(h:noE m)(t:ByteArray)(hl:(qk_ t [] m).length<=4294967296):zF_ n m t=some (tx.ofL (qk_ t [] m)):=by
 unfold zF_;cases hm:mhas t m with
 |false=>rw[if_neg Bool.false_ne_true,n3_ hm];rfl
 |true=>
  have hne:=h.has hm;have h0:(qk_ t [] m).length≠0:=fun e=>hne (List.eq_nil_of_length_eq_zero e);have h1:(tx.ofL (qk_ t [] m)).length≠0:=fun e=>by
   have h2:=List.eq_nil_of_length_eq_zero e;obtain⟨x,hx⟩:=List.exists_mem_of_ne_nil _ hne
   have:=tx.mem_ofL.2 hx
   rw[h2] at this;cases this
  rw[if_pos rfl,decide_eq_false h0,if_neg Bool.false_ne_true];unfold vG_;rw[if_pos hl,Zo,show onceT (qk_ t [] m)=tx.ofL (qk_ t [] m) from sf_ _,decide_eq_false h1,if_neg Bool.false_ne_true]
def upto (x a:ByteArray):Bool:=Op.bytesLess x.toList a.toList||x.toList==a.toList
def zK_ (b:ByteArray->Bool)(a x:ByteArray):Bool:=if a={ data:= #[] } then b x else !upto x a&&b x
abbrev PgR:=List ByteArray ⊕ (List ByteArray × Bool)
theorem pageK {f:List ByteArray->ByteArray->(List ByteArray->Option PgR)->Option PgR}{e:List ByteArray->Option PgR}{kp:ByteArray->Bool}{m:Nat}(hm:m<=1000)(he:∀o,e o=some (.inl o)):∀(l out:List ByteArray),(∀x∈l,∀out k,f out x k=if kp x then(if out.length=m then some (.inr (out,true)) else(app out [x]).bind k) else k out)->out.length<=m->
  xj_ f e l out=some (if out.length+(l.filter kp).length<=m then .inl (out++l.filter kp) else .inr ((out++l.filter kp).take m,true))
 |[],out,_,ho=>by
  rw[List.filter_nil,List.length_nil,Nat.add_zero,if_pos ho,List.append_nil];exact he out
 |x::l,out,st,ho=>by
  have ih:=fun out=>pageK hm he l out fun y hy=>st y (List.mem_cons_of_mem _ hy);rw[xj_,st x (List.mem_cons_self ..),List.filter_cons];cases kp x with
  |false=>
   simp only[Bool.false_eq_true,if_false];exact ih out ho
  |true=>
   rw[if_pos rfl,if_pos rfl];by_cases e1:out.length=m
   ·rw[if_pos e1,if_neg (by simp only[List.length_cons];omega),List.take_append_of_le_length (by omega),List.take_of_length_le (by omega)]
   ·rw[if_neg e1,appS (by simp only[List.length_singleton];omega),Zo,ih _ (by rw[List.length_append,List.length_singleton];omega)]
    have e2:(out.length+1+(l.filter kp).length<=m)=(out.length+((l.filter kp).length+1)<=m):=propext (by omega);simp only[List.length_append,List.length_cons,List.length_nil,Nat.zero_add,List.append_assoc,List.cons_append,List.nil_append,e2]
theorem n4_ {x a:ByteArray}{v:Bool}{m:Nat}{c:Option Bool}(hc:c=some v)(out:List ByteArray)(k:List ByteArray->Option PgR):
  (((if (Op.bytesLess x.toList a.toList||x.toList==a.toList) then(if (a.toList==({ data:= #[] }:ByteArray).toList) then c.bind fun t=>some (!t) else some true) else c.bind fun t=>some (!t)):Option Bool).bind fun t=>(if t then k out else(if ((out.length:Int)==(m:Int)) then some (.inr (out,true)) else(app out [x]).bind fun l2=>k l2)))=
   if (if a={ data:= #[] } then v else !upto x a&&v) then(if out.length=m then some (.inr (out,true)) else(app out [x]).bind k) else k out:=by
 subst hc;rw[beqS a];unfold upto;have em:((out.length:Int)==(m:Int))=decide (out.length=m):=by
  rw[Bool.eq_iff_iff,beq_iff_eq,decide_eq_true_iff];omega
 rw[em];by_cases h:a={ data:= #[] }
 ·rw[if_pos h,decide_eq_true h]
  cases(Op.bytesLess x.toList a.toList||x.toList==a.toList)<;>cases v<;>simp
 ·rw[if_neg h,decide_eq_false h]
  cases(Op.bytesLess x.toList a.toList||x.toList==a.toList)<;>cases v<;>simp
section
variable {n m:Nat}{G:SeekGraph}{a:ByteArray}{b:ByteArray->Bool}{l:List ByteArray}(hm:m<=1000)(hl:l.length<1000000)(hn:1000000<n)
theorem s5_ {L:List ByteArray}:((some (if ([]:List ByteArray).length+L.length<=m then .inl ([]++L) else .inr (([]++L).take m,true)):Option PgR).bind fun | .inl out3=>some (out3,false) | .inr r=>some r)=some (L.take m,decide (m<L.length)):=by
 rw[Zo,List.nil_append,List.length_nil,Nat.zero_add];by_cases h:L.length<=m
 ·rw[if_pos h,List.take_of_length_le h,decide_eq_false (by omega)]
 ·rw[if_neg h,decide_eq_true (by omega)]
include hm hl hn in
theorem pageO {typ rel:ByteArray}{s:GSub}(hb:∀x∈l,xA_ n G ⟨typ,x⟩ rel s=some (b x)):qr_ n l ⟨a,(m:Int)⟩ G typ rel s=some ((l.filter (zK_ b a)).take m,decide (m<(l.filter (zK_ b a)).length)):=by
 have hL:qp_ n l ⟨a,(m:Int)⟩ G typ rel s n (([]:List ByteArray),0)=_:=xr_ n l ⟨a,(m:Int)⟩ G typ rel s (by omega) n [] 0 (by omega) (by omega)
 rw[List.drop_zero,pageK (f:=q4_ n l ⟨a,(m:Int)⟩ G typ rel s) (e:=q5_ n l ⟨a,(m:Int)⟩ G typ rel s) (kp:=zK_ b a) (m:=m) hm (fun _=>rfl) l [] (fun x hx out k=>n4_ (x:=x) (a:=a) (c:=jb_ n x G typ rel s) (by unfold jb_;exact(congrArg (fun o:Option Bool=>o.bind fun t13=>some t13) (hb x hx)).trans rfl) out k) (Nat.zero_le _)] at hL;unfold qr_;rw[hL];exact s5_
include hm hl hn in
theorem pageS {o:GObj}{rel typ:ByteArray}(hb:∀x∈l,xA_ n G o rel ⟨typ,x,ByteArray.empty⟩=some (b x)):qy_ n l ⟨a,(m:Int)⟩ G o rel typ=some ((l.filter (zK_ b a)).take m,decide (m<(l.filter (zK_ b a)).length)):=by
 have hL:qo_ n l ⟨a,(m:Int)⟩ G o rel typ n (([]:List ByteArray),0)=_:=xk_ n l ⟨a,(m:Int)⟩ G o rel typ (by omega) n [] 0 (by omega) (by omega)
 rw[List.drop_zero,pageK (f:=qV_ n l ⟨a,(m:Int)⟩ G o rel typ) (e:=qW_ n l ⟨a,(m:Int)⟩ G o rel typ) (kp:=zK_ b a) (m:=m) hm (fun _=>rfl) l [] (fun x hx out k=>n4_ (x:=x) (a:=a) (c:=qU_ n x G o rel typ) (by unfold qU_;exact(congrArg (fun o:Option Bool=>o.bind fun t13=>some t13) (hb x hx)).trans rfl) out k) (Nat.zero_le _)] at hL;unfold qy_;rw[hL];exact s5_
end
theorem yc_ {n m:Nat}{a:ByteArray}(hm:1<=m)(hm2:m<=1000):j7_ n ⟨a,(m:Int)⟩=some false:=by
 unfold j7_;show(if decide ((m:Int)<1)=true then some true else some (decide (1000<(m:Int))))=some false
 rw[decide_eq_false (by omega),if_neg (by decide),decide_eq_false (by omega)]
section
variable {n:Nat}{ts:List GType}{rows:List GTuple}{S:WellSchema}(h:ke_ n ts=some (.inl S))(hW:WellP ts S)(hB:kK_ ts)(hn:2000000000<n)(hr:rows.length<=100)(hok:∀t∈rows,x3_ n t=some true)
def gr (S:WellSchema)(rows:List GTuple):SeekGraph:=⟨S,ixO (rows.filter (fitB S)),rows.filter (fitB S)⟩
def hasB (n:Nat)(S:WellSchema)(rows:List GTuple)(o:GObj)(rel:ByteArray)(s:GSub):Bool:=(xA_ n (gr S rows) o rel s).getD false
include hW hB hn hr in
theorem de_ {o:GObj}{rel:ByteArray}(s:GSub)(hk:mhas (⟨o.type_,rel⟩:WellName) S.rels=true):xA_ n (gr S rows) o rel s=some (hasB n S rows o rel s):=by
 have hf:(rows.filter (fitB S)).length<=rows.length:=List.length_filter_le _ _;obtain⟨b,hb⟩:=cH_ hW hB (r0:=rows.filter (fitB S)) (o:=o) (rel:=rel) (s:=s) (l:=rows.filter (fitB S)) (by omega) hn (fun t ht=>of_decide_eq_true (List.mem_filter.1 ht).2) hk;unfold hasB gr;rw[hb];rfl
include h hW hB hn hr hok in
theorem gc_ {typ rel a:ByteArray}{m:Nat}(hk:mhas (⟨typ,rel⟩:WellName) S.rels=true)(hm:1<=m)(hm2:m<=1000):zd_ n ts rows typ rel ⟨a,(m:Int)⟩=some (gr S rows,0):=by
 have e1:qu_ n (gr S rows) typ rel=some true:=by
  unfold qu_;rw[vp_];exact congrArg some hk
 unfold zd_;rw[yc_ hm hm2,Zo,if_neg (by decide),wt_ h (w2_ hW hB) (by omega) (by omega) hok,Zo,if_pos (by rfl)];show(qu_ n (gr S rows) typ rel).bind _=_;rw[e1];rfl
include h hW hB hn hr hok in
theorem ua_ {typ rel a:ByteArray}{m:Nat}(hk:mhas (⟨typ,rel⟩:WellName) S.rels=true)(hm:1<=m)(hm2:m<=1000):jh_ n ts rows typ rel ⟨a,(m:Int)⟩=none:=by
 have e1:qu_ n (gr S rows) typ rel=some true:=by
  unfold qu_;rw[vp_];exact congrArg some hk
 unfold jh_;rw[yc_ hm hm2];dsimp only;rw[h];dsimp only;rw[wt_ h (w2_ hW hB) (by omega) (by omega) hok];show(if ((0:Int)==0)=true then(match qu_ n (gr S rows) typ rel with |some false=>some ((),12) |_=>none) else none:Option (Unit × Int))=none
 rw[e1];rfl
include h hW hB hn hr hok in
theorem md_ {typ rel a:ByteArray}{m:Nat}(hk:mhas (⟨typ,rel⟩:WellName) S.rels=false)(hm:1<=m)(hm2:m<=1000):jh_ n ts rows typ rel ⟨a,(m:Int)⟩=some ((),12):=by
 have e1:qu_ n (gr S rows) typ rel=some false:=by
  unfold qu_;rw[vp_];exact congrArg some hk
 unfold jh_;rw[yc_ hm hm2];dsimp only;rw[h];dsimp only;rw[wt_ h (w2_ hW hB) (by omega) (by omega) hok];show(if ((0:Int)==0)=true then(match qu_ n (gr S rows) typ rel with |some false=>some ((),12) |_=>none) else none:Option (Unit × Int))=_
 rw[e1];rfl
def idsT (S:WellSchema)(rows:List GTuple)(typ:ByteArray):List ByteArray:=tx.ofL (up_ (tO.ofL (rows.filter (fitB S))) typ)
def idsU (S:WellSchema)(rows:List GTuple)(typ:ByteArray):List ByteArray:=tx.ofL (kN_ (tO.ofL (rows.filter (fitB S))) typ)
theorem hp_ {typ:ByteArray}:(idsT S rows typ).length<=rows.length:=Nat.le_trans (zL_ tx _) (Nat.le_trans (gq_ _ _) (Nat.le_trans (zL_ tO _) (List.length_filter_le _ _)))
theorem hr_ {typ:ByteArray}:(idsU S rows typ).length<=rows.length:=Nat.le_trans (zL_ tx _) (Nat.le_trans (by unfold kN_;rw[List.length_map];exact Nat.le_trans (List.length_filter_le _ _) (List.length_filter_le _ _)) (Nat.le_trans (zL_ tO _) (List.length_filter_le _ _)))
include hr in
theorem n5_ (typ:ByteArray):ze_ n (ixO (rows.filter (fitB S))) typ=some (idsT S rows typ):=by
 have hf:(rows.filter (fitB S)).length<=rows.length:=List.length_filter_le _ _;have h2:=gq_ (tO.ofL (rows.filter (fitB S))) typ;have h3:=zL_ tO (rows.filter (fitB S));have e:qk_ typ [] (ixO (rows.filter (fitB S))).left.objs=up_ (tO.ofL (rows.filter (fitB S))) typ:=pP_ _ _
 have hno:noE (ixO (rows.filter (fitB S))).left.objs:=g4_ (fun t:GTuple=>t.obj.type_) (fun t=>t.obj.id_) (tO.ofL (rows.filter (fitB S))) [] (by intro p hp;cases hp);unfold ze_ idsT;rw[ho_ hno typ (by rw[e];omega),e]
include hr in
theorem n6_ (typ:ByteArray):zf_ n (ixO (rows.filter (fitB S))) typ=some (idsU S rows typ):=by
 have hf:(rows.filter (fitB S)).length<=rows.length:=List.length_filter_le _ _;have h2:(kN_ (tO.ofL (rows.filter (fitB S))) typ).length<=(tO.ofL (rows.filter (fitB S))).length:=by unfold kN_;rw[List.length_map];exact Nat.le_trans (List.length_filter_le _ _) (List.length_filter_le _ _)
 have h3:=zL_ tO (rows.filter (fitB S));have e:qk_ typ [] (ixO (rows.filter (fitB S))).right.users=kN_ (tO.ofL (rows.filter (fitB S))) typ:=pQ_ _ _;have hno:noE (ixO (rows.filter (fitB S))).right.users:=g4_ (fun t:GTuple=>t.sub_.type_) (fun t=>t.sub_.id_) ((tO.ofL (rows.filter (fitB S))).filter bare) [] (by intro p hp;cases hp);unfold zf_ idsU
 rw[ho_ hno typ (by rw[e];omega),e]
include h hW hB hn hr hok in
theorem kF_ {typ rel a:ByteArray}{s:GSub}{m:Nat}(hk:mhas (⟨typ,rel⟩:WellName) S.rels=true)(hs:s.rel={ data:= #[] })(hm:1<=m)(hm2:m<=1000):qM_ n ts rows typ rel s ⟨a,(m:Int)⟩=some (((idsT S rows typ).filter (zK_ (fun x=>hasB n S rows ⟨typ,x⟩ rel s) a)).take m,decide (m<((idsT S rows typ).filter (zK_ (fun x=>hasB n S rows ⟨typ,x⟩ rel s) a)).length),0):=by
 have hl:=hp_ (S:=S) (rows:=rows) (typ:=typ);have hp:=fun l (hl:l.length<1000000)=>pageO (n:=n) (m:=m) (G:=gr S rows) (a:=a) (b:=fun x=>hasB n S rows ⟨typ,x⟩ rel s) (l:=l) hm2 hl (by omega) (typ:=typ) (rel:=rel) (s:=s) fun x _=>de_ hW hB hn hr s hk;unfold qM_ xv_;rw[ua_ h hW hB hn hr hok hk hm hm2];show xT_ n ts rows typ rel s ⟨a,(m:Int)⟩=_;unfold xT_
 rw[gc_ h hW hB hn hr hok hk hm hm2,Zo];dsimp only;rw[if_neg (by decide),Zo,if_neg (by decide),Zo,if_neg (by decide),beqS,decide_eq_true hs,if_pos rfl];show(ze_ n (ixO (rows.filter (fitB S))) typ).bind _=_;rw[n5_ hr,Zo];by_cases h0:(idsT S rows typ).length=0
 ·rw[decide_eq_true h0,if_pos rfl]
  show(qr_ n [] ⟨a,(m:Int)⟩ (gr S rows) typ rel s).bind _=_;rw[hp [] (by simp),List.eq_nil_of_length_eq_zero h0];rfl
 ·rw[decide_eq_false h0,if_neg (by decide)]
  show(qr_ n (idsT S rows typ) ⟨a,(m:Int)⟩ (gr S rows) typ rel s).bind _=_;rw[hp _ (by omega)];rfl
include h hW hB hn hr hok in
theorem w0_ {o:GObj}{rel typ a:ByteArray}{m:Nat}(hk:mhas (⟨o.type_,rel⟩:WellName) S.rels=true)(hm:1<=m)(hm2:m<=1000):q7_ n ts rows o rel typ ⟨a,(m:Int)⟩=some (((idsU S rows typ).filter (zK_ (fun x=>hasB n S rows o rel ⟨typ,x,ByteArray.empty⟩) a)).take m,decide (m<((idsU S rows typ).filter (zK_ (fun x=>hasB n S rows o rel ⟨typ,x,ByteArray.empty⟩) a)).length),0):=by
 have hl:=hr_ (S:=S) (rows:=rows) (typ:=typ);have hp:=fun l (hl:l.length<1000000)=>pageS (n:=n) (m:=m) (G:=gr S rows) (a:=a) (b:=fun x=>hasB n S rows o rel ⟨typ,x,ByteArray.empty⟩) (l:=l) hm2 hl (by omega) (o:=o) (rel:=rel) (typ:=typ) fun x _=>de_ hW hB hn hr _ hk;unfold q7_ xc_;rw[ua_ h hW hB hn hr hok hk hm hm2]
 show xu_ n ts rows o rel typ ⟨a,(m:Int)⟩=_;unfold xu_;rw[gc_ h hW hB hn hr hok hk hm hm2,Zo];dsimp only;rw[if_neg (by decide)];show((zf_ n (ixO (rows.filter (fitB S))) typ).bind _).bind _=_;rw[n6_ hr,Zo]
 have e:(if decide ((idsU S rows typ).length=0)=true then some [] else grd (decide ((idsU S rows typ).length<=4294967296))<|some (idsU S rows typ))=some (idsU S rows typ):=dF_ _ (by omega)
 rw[e,Zo];show(qy_ n (idsU S rows typ) ⟨a,(m:Int)⟩ (gr S rows) o rel typ).bind _=_;rw[hp _ (by omega)];rfl
end
theorem r8_ {n:Nat}{ts:List GType}{rows:List GTuple}{o:GObj}{rel typ a:ByteArray}{s:GSub}{m:Nat}{e:Int}(h:jh_ n ts rows o.type_ rel ⟨a,(m:Int)⟩=some ((),e))(he:(e != 0)=true)(hs:s.rel={ data:= #[] }):qM_ n ts rows o.type_ rel s ⟨a,(m:Int)⟩=some ([],false,e)/\q7_ n ts rows o rel typ ⟨a,(m:Int)⟩=some ([],false,e):=by
 constructor
 ·unfold qM_ xv_
  rw[h,Zo];dsimp only;rw[beqS,decide_eq_true hs];cases(e==12) with
  |true=>
   rw[if_pos rfl,Zo,Bool.not_true,if_neg (by decide),Zo,if_pos he]
  |false=>
   rw[if_neg (by decide),Zo,if_neg (by decide),Zo,if_pos he]
 ·unfold q7_ xc_
  rw[h,Zo];dsimp only;rw[if_pos he]
theorem me_ {n:Nat}{ts:List GType}{rows:List GTuple}{typ rel a:ByteArray}{m:Nat}{e:Int}(hw:ke_ n ts=some (.inr e))(hm:1<=m)(hm2:m<=1000):jh_ n ts rows typ rel ⟨a,(m:Int)⟩=some ((),e):=by
 unfold jh_;rw[yc_ hm hm2];dsimp only;rw[hw];dsimp only;rw[if_pos (dg_ hw)]
end Go.Proofs.YtnmkbmefohakmaaGreat.Ab
