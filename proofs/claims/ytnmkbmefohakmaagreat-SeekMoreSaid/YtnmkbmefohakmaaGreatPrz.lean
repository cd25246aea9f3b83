/-
 A schema that is read without an error: each relation has subjects, or is a whole expression. No program in sight.
-/
import Derived.Test.YtnmkbmefohakmaaGreatSow
set_option linter.all false
namespace Go.Proofs.YtnmkbmefohakmaaGreat.Ab
open Go.RowKit IntKind
theorem Sl {α:Type}{xs:List α}{v:Int}(k:Nat)(hv:v=(k:Int))(h:k<xs.length):∃x,C4 xs v=some x/\x∈xs:=⟨_,hv▸Jz h,NV h⟩
theorem DG {x y:ByteArray}{k:Nat}(hx:x.size<=k)(hy:y.size<=8)(hk:k<=1000000):∃s,EH x y=some s/\s.size<=k+8:=by
 grind [maxLen,bI,ByteArray.size_append]
theorem QZ {xs:List ByteArray}{x:ByteArray}(h:x∈xs)(hx:(xs.all fun y=>decide (y.size<=8))=true):x.size<=8:=of_decide_eq_true (LL.1 hx x h)
theorem Qa (xs:List ByteArray)(v:Int)(h:xs.length=8):∃x,C4 xs (i64.wrap (an v 7:Int))=some x/\x∈xs:=Sl (an v 7) (SP v 7 (by decide)) (by rw[h];exact BG (UD v 7) (by decide))
theorem Qb (a b:ByteArray)(v:Int):∃x,C4 [a,b] (i64.wrap (an v 1:Int))=some x/\x∈[a,b]:=Sl (an v 1) (SP v 1 (by decide)) (BG (UD v 1) (show 1<2 by decide))
theorem U0 (xs:List ByteArray)(v:Int)(h:xs.length=4):∃x,C4 xs (i64.wrap (an v 3:Int))=some x/\x∈xs:=Sl (an v 3) (SP v 3 (by decide)) (by rw[h];exact BG (UD v 3) (by decide))
theorem Qc (xs:List ByteArray)(v:Int)(m:Nat)(h:xs.length=m)(hm:0<m):∃x,C4 xs (Int.tmod (i64.wrap (an v 255:Int)) (m:Int))=some x/\x∈xs:=Sl (an v 255%m) (by rw[tg];exact qm _ _) (by rw[h];exact Og _ hm)
section
variable {n:Nat}{t0:List Int}
theorem jH (k:Nat):∃v,MG n (k:Int) t0=some v:=by
 unfold MG;by_cases h:k<t0.length
 ·rw[Xk h,if_pos rfl,Jz h];exact⟨_,rfl⟩
 rw[Ql,if_neg (by decide)];exact⟨_,rfl⟩
theorem jI (v:Int):∃s,MH n v=some s/\s.size<=8:=by
 unfold MH;obtain⟨x,h1,h2⟩:=Qc [({ data:= #[117] }:ByteArray),{ data:= #[117] },{ data:= #[97,35,114] },{ data:= #[98,35,114] },{ data:= #[97,35,115] },{ data:= #[98,35,112] },{ data:= #[97] },{ data:= #[98] },{ data:= #[117] },{ data:= #[97,35,113] }] v 10 rfl (by decide);refine⟨x,by grind,QZ h2 (by decide)⟩
theorem XZ (v:Int):∃s,KS n v=some s/\s.size<=8:=by
 unfold KS;obtain⟨x,h1,h2⟩:=Qa [({ data:= #[114] }:ByteArray),{ data:= #[115] },{ data:= #[114] },{ data:= #[115] },{ data:= #[115,45,62,114] },{ data:= #[115,45,62,112] },{ data:= #[112] },{ data:= #[113] }] v rfl;refine⟨x,by rw[h1];rfl,QZ h2 (by decide)⟩
theorem jJ {k3:Nat}(hk3:k3<=100):∀(d j c:Nat) (s:ByteArray) (k:Nat),d=2-j->j<=2->d<c->s.size<=k->k+112*d<=100000->∃r,IL n t0 (k3:Int) c (s,(j:Int))=some r/\r.size<=k+112*d
 |0,j,c,s,k,hd,hj,hc,hs,hk=>by
  obtain⟨c,rfl⟩:=sx c;unfold IL;grind
 |d+1,j,c,s,k,hd,hj,hc,hs,hk=>by
  obtain⟨c,rfl⟩:=sx c;have ih:=fun s2 k2=>jJ hk3 d (j+1) c s2 k2 (by omega) (by omega) (by omega);obtain⟨v,hv⟩:=jH (n:=n) (t0:=t0) (k3+1+j);have e:i64.wrap (i64.wrap ((k3:Int)+1)+(j:Int))=((k3+1+j:Nat):Int):=by rw[As,show((k3+1:Nat):Int)+(j:Int)=((k3+1+j:Nat):Int) by omega,Iv]
  unfold IL;rw[show decide ((j:Int)<2)=true by simp;omega,if_pos rfl,e,hv,Zo,As];obtain⟨s1,h1,z1⟩:=DG (y:={ data:= #[32] }) hs (by decide) (by omega);obtain⟨x,h2,hx⟩:=Sl (xs:=[({ data:= #[112] }:ByteArray),{ data:= #[113] }]) (v:=(j:Int)) j rfl (by simp;omega);obtain⟨s2,h3,z2⟩:=DG (y:=x) z1 (QZ hx (by decide)) (by omega);obtain⟨s3,h4,z3⟩:=DG (y:={ data:= #[32,61,32] }) z2 (by decide) (by omega);obtain⟨a1,g1,y1⟩:=XZ (n:=n) v;obtain⟨s4,h5,z4⟩:=DG z3 y1 (by omega);obtain⟨x2,h6,hx2⟩:=U0 [({ data:= #[32,43,32] }:ByteArray),{ data:= #[32,38,32] },{ data:= #[32,45,32] },{ data:= #[32,43,32] }] (sh v 4) rfl;obtain⟨s5,h7,z5⟩:=DG (y:=x2) z4 (QZ hx2 (by decide)) (by omega);obtain⟨a2,g2,y2⟩:=XZ (n:=n) (sh v 8);obtain⟨s6,h8,z6⟩:=DG z5 y2 (by omega);rw[h1,Zo,h2,Zo,h3,Zo,h4,Zo,g1,Zo,h5,Zo,h6,Zo,h7,Zo,g2,Zo,h8,Zo];split
  ·obtain⟨x3,h9,hx3⟩:=U0 [({ data:= #[32,43,32] }:ByteArray),{ data:= #[32,38,32] },{ data:= #[32,45,32] },{ data:= #[32,45,32,40] }] (sh v 13) rfl;obtain⟨s7,h10,z7⟩:=DG (y:=x3) z6 (QZ hx3 (by decide)) (by omega);obtain⟨a3,g3,y3⟩:=XZ (n:=n) (sh v 16);obtain⟨s8,h11,z8⟩:=DG z7 y3 (by omega);rw[h9,Zo,h10,Zo,g3,Zo,h11,Zo];split
   ·obtain⟨s9,h12,z9⟩:=DG (y:={ data:= #[32,38,32] }) z8 (by decide) (by omega);obtain⟨a4,g4,y4⟩:=XZ (n:=n) (sh v 20);obtain⟨s10,h13,z10⟩:=DG z9 y4 (by omega);obtain⟨s11,h14,z11⟩:=DG (y:={ data:= #[41] }) z10 (by decide) (by omega);obtain⟨s12,h15,z12⟩:=DG (y:={ data:= #[59] }) z11 (by decide) (by omega);rw[h12,Zo,g4,Zo,h13,Zo,h14,Zo,h15,Zo];obtain⟨r,q1,q2⟩:=ih s12 _ z12 (by omega);exact⟨r,q1,by omega⟩
   obtain⟨s9,h12,z9⟩:=DG (y:={ data:= #[59] }) z8 (by decide) (by omega);rw[h12,Zo];obtain⟨r,q1,q2⟩:=ih s9 _ z9 (by omega);exact⟨r,q1,by omega⟩
  obtain⟨s9,h12,z9⟩:=DG (y:={ data:= #[59] }) z6 (by decide) (by omega);grind
set_option maxRecDepth 4000 in
theorem jK (hn:10<n):∀(d j c:Nat) (s:ByteArray) (k:Nat),d=2-j->j<=2->d<c->s.size<=k->k+400*d<=10000->∃r,KT n t0 c (s,((3*j:Nat):Int),(j:Int))=some r/\r.size<=k+400*d
 |0,j,c,s,k,hd,hj,hc,hs,hk=>by
  obtain⟨c,rfl⟩:=sx c;unfold KT;grind
 |d+1,j,c,s,k,hd,hj,hc,hs,hk=>by
  obtain⟨c,rfl⟩:=sx c;have ih:=fun s2 k2=>jK hn d (j+1) c s2 k2 (by omega) (by omega) (by omega);obtain⟨v,hv⟩:=jH (n:=n) (t0:=t0) (3*j);have e1:i64.wrap (((3*j:Nat):Int)+3)=((3*(j+1):Nat):Int):=by rw[show((3*j:Nat):Int)+3=((3*(j+1):Nat):Int) by omega,Iv]
  unfold KT;rw[show decide ((j:Int)<2)=true by simp;omega,if_pos rfl,hv,As,e1];obtain⟨s1,h1,z1⟩:=DG (y:={ data:= #[116,121,112,101,32] }) hs (by decide) (by omega);obtain⟨x,h2,hx⟩:=Sl (xs:=[({ data:= #[97] }:ByteArray),{ data:= #[98] }]) (v:=(j:Int)) j rfl (by simp;omega);obtain⟨s2,h3,z2⟩:=DG (y:=x) z1 (QZ hx (by decide)) (by omega);obtain⟨s3,h4,z3⟩:=DG (y:={ data:= #[32,123,32,114,58,32] }) z2 (by decide) (by omega);obtain⟨a1,g1,y1⟩:=jI (n:=n) v;obtain⟨s4,h5,z4⟩:=DG z3 y1 (by omega);rw[h1,Zo,h2,Zo,h3,Zo,h4,Zo,Zo,g1,Zo,h5,Zo,Zo];have hm:∃s5,(if (i64.wrap (an (sh v 8) 1:Int))==1 then(EH s4 ({ data:= #[32,124,32] })).bind fun s43=>(some v).bind fun t412=>(MH n (sh t412 9)).bind fun t432=>(EH s43 t432).bind fun s44=>some s44 else some s4)=some s5/\s5.size<=k+48:=by
   split
   ·obtain⟨s5,h6,z5⟩:=DG (y:={ data:= #[32,124,32] }) z4 (by decide) (by omega);obtain⟨a2,g2,y2⟩:=jI (n:=n) (sh v 9);obtain⟨s6,h7,z6⟩:=DG z5 y2 (by omega);grind
   exact⟨s4,rfl,by omega⟩
  obtain⟨s5,h6,z5⟩:=hm;obtain⟨s6,h7,z6⟩:=DG (y:={ data:= #[59,32,115,58,32] }) z5 (by decide) (by omega);obtain⟨x2,h8,hx2⟩:=Qc [({ data:= #[97] }:ByteArray),{ data:= #[98] },{ data:= #[97,32,124,32,98] },{ data:= #[117,32,124,32,97] }] (sh v 20) 4 rfl (by decide);have h8:C4 [({ data:= #[97] }:ByteArray),{ data:= #[98] },{ data:= #[97,32,124,32,98] },{ data:= #[117,32,124,32,97] }] (Int.tmod (i64.wrap (an (sh v 20) 255:Int)) 4)=some x2:=h8;obtain⟨s7,h9,z7⟩:=DG (y:=x2) z6 (QZ hx2 (by decide)) (by omega);obtain⟨s8,h10,z8⟩:=DG (y:={ data:= #[59] }) z7 (by decide) (by omega);obtain⟨s9,h11,z9⟩:=jJ (n:=n) (t0:=t0) (k3:=3*j) (by omega) 2 0 n s8 _ rfl (by omega) (by omega) z8 (by omega);have h11:IL n t0 ((3*j:Nat):Int) n (s8,0)=some s9:=h11;obtain⟨s10,h12,z10⟩:=DG (y:={ data:= #[32,125,10] }) z9 (by decide) (by omega);rw[h6,Zo,h7,Zo,Zo,h8,Zo,h9,Zo,h10,Zo,h11,Zo,h12,Zo];grind
theorem tQ (hn:10<n)(t0:List Int):∃s,M6 n t0=some s/\s.size<=1000:=by
 obtain⟨r,h1,h2⟩:=jK (t0:=t0) hn 2 0 n { data:= #[116,121,112,101,32,117,10] } 7 rfl (by omega) (by omega) (by decide) (by omega);grind [KT,M6]
end
def MI:List ByteArray:=[{ data:= #[97] },{ data:= #[98] },{ data:= #[99] },{ data:= #[100] },{ data:= #[97,98] },{ data:= #[98,45,49] },{ data:= #[120,46,121] },{ data:= #[48] }]
def Xa:List ByteArray:=[{ data:= #[97] },{ data:= #[98] }]
def Xb:List ByteArray:=[{ data:= #[114] },{ data:= #[115] }]
def U1:List ByteArray:=[{ data:= #[117] },{ data:= #[97] },{ data:= #[98] }]
structure Gf (t:AE):Prop where
 ty:t.obj.type_∈Xa
 id:t.obj.id_∈MI
 rl:t.rel∈Xb
 st:t.sub_.type_∈U1
 si:t.sub_.id_∈MI
 sr:t.sub_.rel=ByteArray.empty\/t.sub_.rel∈Xb
theorem M8 (n:Nat)(z:Int):∃s,Si n z=some s/\s∈MI:=by
 unfold Si;obtain⟨x,h1,h2⟩:=Qa MI z rfl;unfold MI at h1;exact⟨x,by rw[h1];rfl,h2⟩
theorem jL (n:Nat)(z:Int):∃t,Sj n z=some t/\Gf t:=by
 unfold Sj;obtain⟨s1,h1,m1⟩:=M8 n (sh z 1);obtain⟨s2,h2,m2⟩:=M8 n (sh z 13);obtain⟨x1,e1,i1⟩:=Qb { data:= #[97] } { data:= #[98] } z;obtain⟨x2,e2,i2⟩:=Qb { data:= #[114] } { data:= #[115] } (sh z 4);obtain⟨x3,e3,i3⟩:=Qc U1 (sh z 5) 3 rfl (by decide);have e3:C4 [({ data:= #[117] }:ByteArray),{ data:= #[97] },{ data:= #[98] }] (Int.tmod (i64.wrap (an (sh z 5) 255:Int)) 3)=some x3:=e3;obtain⟨x4,e4,i4⟩:=Qb { data:= #[114] } { data:= #[115] } (sh z 18);rw[e1,Zo,h1,Zo,e2,Zo,e3,Zo,h2,Zo];split
 ·rw[e4];exact⟨_,rfl,i1,m1,i2,i3,m2,.inr i4⟩
 exact⟨_,rfl,i1,m1,i2,i3,m2,.inl rfl⟩
theorem jM {n:Nat}(l:List Int):∀(c:Nat) (out:List AE),out.length<=80->out.length<=l.length->80-out.length<c->(∀t∈out,Gf t)->∃ys,Uw n l c (out,(out.length:Int))=some ys/\ys.length<=80/\ys.length<=l.length/\∀t∈ys,Gf t
 |0,_,_,_,h,_=>by omega
 |c+1,out,h1,h0,h2,ho=>by
  unfold Uw;by_cases h:out.length<l.length
  ·rw[Xk h,if_pos rfl,Zo];by_cases h3:out.length<80
   ·obtain⟨t,ht,hp⟩:=jL n l[out.length];rw[show decide ((out.length:Int)<80)=true by simp;omega,if_pos rfl,Jz h,Zo,ht,Zo,Ef (by simp;omega),Zo,Xj];obtain⟨ys,h4,h5⟩:=jM (n:=n) l c (out++[t]) (by simp;omega) (by simp;omega) (by simp;omega) fun x hx=>by
     grind
    grind
   grind
  grind
theorem jN {n:Nat}(l:List Int)(hn:80<n):∃ys,Sk n l=some ys/\ys.length<=80/\ys.length<=l.length/\∀t∈ys,Gf t:=by
 obtain⟨ys,h1,h2⟩:=jM (n:=n) l n [] (by simp) (by simp) (by simpa using hn) (by simp);grind [Sk,Uw]
theorem tR (n:Nat)(z:Int):∃a:Ao × ByteArray × AL,Ux n z=some a/\a.1.type_∈Xa/\a.1.id_∈MI/\a.2.2.type_∈U1/\a.2.2.id_∈MI/\a.2.2.rel={ data:= #[] }:=by
 unfold Ux;obtain⟨t,h1,h2⟩:=jL n z;obtain⟨x,h3,_⟩:=Qa [({ data:= #[114] }:ByteArray),{ data:= #[115] },{ data:= #[112] },{ data:= #[113] },{ data:= #[112] },{ data:= #[113] },{ data:= #[122] },{ data:= #[112] }] (sh z 24) rfl;rw[h1,Zo,h3];exact⟨_,rfl,h2.ty,h2.id,h2.st,h2.si,rfl⟩
theorem Xc (m:Nat):∀x∈Xa++Xb++U1,Uz (m+10) x=some true/\RN (m+10) x=some true:=by
 intro x hx;simp only[Xa,Xb,U1,LJ,LE,Lm,LT,or_false] at hx;rcases hx with rfl |rfl |rfl |rfl |rfl |rfl |rfl<;>exact⟨by kernel_rfl,by kernel_rfl⟩
theorem jO (m:Nat):∀x∈MI,ay (m+10) x=some true/\Vk (m+10) x=some true:=by
 intro x hx;simp only[MI,Lm,LT,or_false] at hx;rcases hx with rfl |rfl |rfl |rfl |rfl |rfl |rfl |rfl<;>exact⟨by kernel_rfl,by kernel_rfl⟩
theorem jP {n:Nat}{t:AE}(hn:10<=n)(h:Gf t):jG n t=some true/\I4 n t=some true:=by
 obtain⟨m,rfl⟩:∃m,n=m+10:=⟨n-10,by omega⟩;have a1:=Xc m t.obj.type_ (by simp[h.ty]);have a2:=jO m t.obj.id_ h.id;have a3:=Xc m t.rel (by simp[h.rl]);have a4:=Xc m t.sub_.type_ (by simp[h.st]);have a5:=jO m t.sub_.id_ h.si;unfold jG I4;rw[a1.1,a1.2,a2.1,a2.2,a3.1,a3.2,a4.1,a4.2,a5.1,a5.2];simp only[Zo,if_true,Ge];rcases h.sr with e |e
 ·rw[e,decide_eq_true (show ByteArray.empty={ data:= #[] } from rfl)];exact⟨rfl,rfl⟩
 have a6:=Xc m t.sub_.rel (by simp[e]);rw[a6.1,a6.2];constructor<;>split<;>rfl
theorem ij {n:Nat}{S:AC}{a:ByteArray}:∀ {l:List Ac} {ns:List AA} {e:Int},PY n S a l ns=some (.inr e)->(e != 0)=true
 |[],_,_,h=>by cases h
 |g::r,ns,e,h=>by
  unfold PY at h;split at h
  ·obtain⟨x,_,h⟩:=AJ h;split at h
   ·exact ij h
   grind
  cases h
theorem il {n:Nat}{S:AC}:∀ {l:List AT} {ns:List AA} {e:Int},PZ n S l ns=some (.inr e)->(e != 0)=true
 |[],_,_,h=>by cases h
 |t::r,ns,e,h=>by
  unfold PZ at h;obtain⟨x,hx,h⟩:=AJ h;split at h
  ·exact il h
  cases h;exact ij hx
theorem tH {n:Nat}{l:List AT}{e:Int}(h:I6 n l=some (.inr e)):(e != 0)=true:=by
 unfold I6 at h;split at h
 ·split at h
  ·obtain⟨x,hx,h⟩:=AJ h;rcases x with(_ |⟨m,r⟩) |e'
   ·cases h
   ·unfold Hy at h;obtain⟨_,_,h⟩:=AJ h;obtain⟨_,_,h⟩:=AJ h;split at h
    ·obtain⟨y,_,h⟩:=AJ h;grind
    cases h
   cases h;exact il hx
  grind
 cases h
instance (S:AC) (t:AE):Decidable (Ez S t):=by unfold Ez;infer_instance
def Dq (S:AC)(t:AE):Bool:=decide (Ez S t)
theorem tI {n:Nat}{S:AC}{t:AE}(hS:Fw S)(hn:1000<n)(h:I4 n t=some true):RO n S t=some (Dq S t):=by
 have hb:=(Kl hS ⟨t.obj.type_,t.rel⟩).1;unfold RO;rw[JM,Zo,h,Zo,if_pos rfl,aS (by dsimp only;omega) (by dsimp only;omega)];rfl
theorem ac {n:Nat}{rows:List AE}{S:AC}(hS:Fw S)(hn:1000<n):∀(l out:List AE),(∀t∈l,I4 n t=some true)->out.length+l.length<=4294967296->Eb (dH n rows (S,0)) (dI n rows (S,0)) l out=some (out++l.filter (Dq S))
 |[],out,_,_=>by
  show some out=_;simp
 |t::l,out,hl,ho=>by
  simp only[Lg] at ho;have hl2:∀x∈l,I4 n x=some true:=fun x hx=>hl x (Lh _ hx);rw[Eb];show(RO n S t).bind _=_;rw[tI hS hn (hl t (Lo ..)),Zo];cases hf:Dq S t with
  |true=>
   rw[if_pos rfl,Ef (by simp only[Lr];omega),Zo,ac hS hn l _ hl2 (by rw[Lf,Lr];omega)];simp[hf]
  |false=>
   rw[if_neg (by decide),ac hS hn l _ hl2 (by omega)];simp[hf]
theorem tJ {n:Nat}{ts:List AT}{rows:List AE}{S:AC}(h:I6 n ts=some (.inl S))(hS:Fw S)(hn:1000000<n)(hr:rows.length<=1000000)(hok:∀t∈rows,I4 n t=some true):Vo n ts rows=some (⟨S,EE (rows.filter (Dq S)),rows.filter (Dq S)⟩,0):=by
 have hf:(rows.filter (Dq S)).length<=rows.length:=NP _ _;have hL:PX n rows (S,0) n (([]:List AE),0)=_:=wB n rows (S,0) (by omega) n [] 0 (by omega) (by omega);rw[Nt,ac hS (by omega) _ _ hok (by simp only[LB];omega),LE] at hL;unfold Vo YI;rw[h];dsimp only;rw[Zo,if_neg (by simp),hL,Zo,vB (by omega) hn,Zo];split
 ·rename_i h0;rw[LW (of_decide_eq_true h0)]
 rfl
def ae (n:Nat)(S:AC)(rows:List AE)(o:Ao)(rel:ByteArray)(s:AL):Option (Bool × Int):=if s.rel={ data:= #[] } then(if Ar (⟨o.type_,rel⟩:AA) S.rels then(Hw n ⟨S,EE (rows.filter (Dq S)),[]⟩ o rel s).map fun b=>(b,0) else some (false,12)) else some (false,13)
theorem io {α:Type}(l:List α)(k:Nat):∃m,G6 l 0 (if (k:Int)<(l.length:Int) then(k:Int) else(l.length:Int))=some m/\m.length<=k:=by
 split
 ·rename_i h;exact⟨_,VD (a:=0) (b:=k) (Ll _) (by omega),by grind⟩
 rename_i h;exact⟨_,VD (a:=0) (b:=l.length) (Ll _) (Lc _),by grind⟩
theorem vK {n:Nat}{G:AM}{o:Ao}{rel:ByteArray}{s:AL}{U:List AB}{D:AB->List AB}{rk:AB->Int}{nwB:(AB->Bool)->AB->Bool}(hU:U.Nodup)(hl:U.length<=1000000)(hr:(⟨o,rel⟩:AB)∈U)(hnd:∀r∈U,Ir n G r=some (rk r,D r))(hD:∀r∈U,∀d∈D r,d∈U)(ht:total D U<=1000000000)(hn:2000000000<n)
  (hN:FA U D rk nwB) (hrk:∀r∈U,0<=rk r) (hnw:∀(K:List AB) (S:AB->Bool) (N:List PN),(∀r∈K,r∈U)->N.map (·.k)=K->(∀p∈N,p.deps=D p.k/\p.is=S p.k)->(∀r∈K,∀d∈D r,d∈K)->∀r∈K,Ek n G s N r=some (nwB S r)):
  ∃(K:List AB) (S:AB->Bool),Hw n G o rel s=some (S ⟨o,rel⟩)/\(⟨o,rel⟩:AB)∈K/\(∀r∈K,r∈U)/\(∀r∈K,∀d∈D r,d∈K)/\DP K rk nwB S:=by
 have hun:MS D U []<=total D U:=by
  unfold MS total;rw[show(U.filter fun r=>decide (r∉([]:List PN).map (·.k)))=U from BY.2 fun _ _=>by simp];exact Lc _
 obtain⟨K,k1,k2,k3,_,k5,k6,_⟩:=X6 (nd:=Ir n G) hU (by omega) hnd hD n [] [⟨o,rel⟩] NZ (fun _ h=>nomatch h) (fun r h=>by rw[Ln.1 h];exact hr) (by simp only[Lr,LD];omega) (by simp only[Lr,LD];omega);have k6:=k6 fun _ h=>nomatch h;have k5:=k5 _ (Ln.2 rfl)
 have hkk:(K.map (mkP rk D)).map (·.k)=K:=by simp[mkP,NM]
 have htK:=Lp (cF (D:=D) k2 k3) ht;have e2:E9 K (K.map (mkP rk D))=some (addL (zy_ D K) (K.map (mkP rk D))):=cE D K _ (by rw[hkk];exact fun _ h=>h) (fun p hp=>by
  obtain⟨r,hr,rfl⟩:=LQ.1 hp;rw[hkk];exact⟨rfl,k6 r hr⟩) fun p hp=>by
  obtain⟨r,hr,rfl⟩:=LQ.1 hp;simp only[mkP,LB];omega
 obtain⟨P,eP⟩:∃P,P=addL (zy_ D K) (K.map (mkP rk D)):=⟨_,rfl⟩;have hPk:P.map (·.k)=K:=by rw[eP,X7,hkk]
 have hPm:∀p∈P,p.k∈K/\p=⟨p.k,rk p.k,D p.k,zy_ D K p.k,false⟩:=fun p hp=>by
  rw[eP] at hp;obtain⟨q,hq,rfl⟩:=LQ.1 hp;obtain⟨r,hr,rfl⟩:=LQ.1 hq;exact⟨hr,rfl⟩
 have hPis:P=Er (fun _=>false) P:=by
  unfold Er;refine((Ni fun p hp=> ?_).trans (Ii _)).symm
  have:=(hPm p hp).2;rw[this];rfl
 have hKl:K.length<=1000000:=Lp (X5 k2 k3) hl;have hrkP:∀r∈K,PR P r=rk r:=fun r hr=>by
  obtain⟨p,hp⟩:=JJ (N:=P) (r:=r) (by rw[hPk];exact hr);obtain⟨h1,h2⟩:=Iw hp;unfold PR;rw[hp]
  have:=(hPm p h1).2;rw[this];exact congrArg rk h2
 obtain⟨ord,o1,o2,o3⟩:=mB (F:=n) (lY (PR P)) K (by omega) (by omega);have oK:∀r∈ord,r∈K:=fun r hr=>o2.mem_iff.1 hr;have o4:ord.Pairwise fun a b=>rk a<=rk b:=List.Pairwise.imp_of_mem (fun{a b} ha hb h=>by rw[hrkP a (oK a ha),hrkP b (oK b hb)] at h;exact h) o3;have hNK:FA (P.map (·.k)) D rk nwB:=by
  rw[hPk];exact⟨fun S T r hr=>hN.loc S T r (k3 r hr),fun S T r hr=>hN.mono S T r (k3 r hr),fun r hr=>hN.rkD r (k3 r hr),k6⟩
 have how:Ds P (fun _=>false)<=1000000000:=by
  unfold Ds;rw[show(P.filter fun p=> !(fun _=>false) p.k)=P from BY.2 fun p _=>rfl];have h1:(P.map fun p=>p.above.length)=K.map fun x=>(zy_ D K x).length:=by
   rw[<-hPk,N8];refine Ni fun p hp=> ?_
   have:=(hPm p hp).2;simp only[Function.comp];rw[hPk];exact congrArg (fun q:PN=>q.above.length) this
  rw[h1];exact Lp (cG k2) htK
 obtain⟨S,k,r1,r2⟩:=lX (f:=n) hNK (by rw[hPk];exact k2) (fun p hp=>by
  obtain⟨h1,h2⟩:=hPm p hp;refine⟨by rw[h2],fun x=> ?_⟩;rw[h2,hPk];exact lU) (fun S r hr=>by
  rw[hPk] at hr;refine hnw K S _ k3 (by rw[Er,N8];exact hPk) (fun p hp=> ?_) k6 r hr;obtain⟨q,hq,rfl⟩:=LQ.1 hp;refine⟨?_,rfl⟩
  have:=(hPm q hq).2;exact congrArg PN.deps this) ord (fun _=>false) [] 0 (fun r hr=>by rw[hPk];exact⟨oK r hr,hrk r (k3 r (oK r hr))⟩) o4 (by omega) (by omega) ⟨fun _ _ h=>(by cases h),fun _ h=>(nomatch h),fun _ _ h=>(by cases h),fun _ _ _ _ _ _ _ h=>(by cases h),fun _ h=>(nomatch h)⟩
 rw[hPk,LE] at r2;refine⟨K,S,?_,k5,k3,k6,?_⟩
 ·unfold Hw;rw[show([]:List PN)=([]:List AB).map (mkP rk D) from rfl,k1,Zo,hkk,e2,Zo,<-eP];unfold Hv;rw[LC,ifp,hkk,o1,Zo];rw[hPis,r1,Zo,if_neg (by
   cases K with |nil=>cases k5 |cons _ _=>simp),RD]
  obtain⟨p,hp⟩:=JJ (N:=P) (r:=⟨o,rel⟩) (by rw[hPk];exact k5);rw[hp];show some (S p.k)=_;rw[(Iw hp).2]
 refine⟨fun r hr=> ?_,r2.d⟩;have h1:=r2.a r hr;have h2:=r2.b r (o2.mem_iff.2 hr);cases hs:S r with
 |true=>rw[h1 hs]
 |false=>
  cases hb:nwB S r with
  |false=>rfl
  |true=>
   rcases h2 hb with h |⟨h,_⟩
   ·rw[hs] at h;cases h
   cases h
def Us (k:Int)(a b:Bool):Bool:=if k==3 then a||b else if k==5 then a&&b else a&& !b
def GD (T:AB->Bool)(l:List AE)(o:Ao):List AY->List Bool->Bool
 |[],st=>st.length==1&&st.getD 0 false
 |x::ex,st=>if x.kind==1||x.kind==2 then GD T l o ex (st++[(EX l o x).any T]) else if st.length<2 then false else GD T l o ex (st.take (st.length-2)++[Us x.kind (st.getD (st.length-2) false) (st.getD (st.length-1) false)])
def nwB (sc:AC)(l:List AE)(s:AL)(T:AB->Bool)(r:AB):Bool:=if (qg_ (⟨r.obj.type_,r.rel⟩:AA) DX sc.rels).expr= [] then decide (s∈GM (tO.ofL l) r.obj r.rel)||(D1 sc l r).any T else GD T l r.obj (qg_ (⟨r.obj.type_,r.rel⟩:AA) DX sc.rels).expr []
theorem iw {N:List PN}{D:AB->List AB}{S:AB->Bool}(hN:∀p∈N,p.deps=D p.k/\p.is=S p.k){l:List AB}(hl:∀d∈l,(Cp d N).isSome=true):(l.any fun d=>((Cp d N).map (·.is)).getD false)=l.any S:=by
 rw[NF,Nm,Nm];grind [Cp,Option.isSome_iff_exists,Iw]
section
variable {n:Nat}{sc:AC}{l r0:List AE}(hl:l.length<=10000)(hn:1000000<n)
include hl hn in
theorem ai {o:Ao}{N:List PN}{D:AB->List AB}{S:AB->Bool}(hN:∀p∈N,p.deps=D p.k/\p.is=S p.k):∀(ex:List AY) (st:List Bool),(∀d∈Gb l o ex,(Cp d N).isSome=true)->st.length+ex.length<=1000->Hu n ⟨sc,EE l,r0⟩ o N ex st=some (GD S l o ex st)
 |[],st,_,_=>rfl
 |x::ex,st,hd,hs=>by
  simp only[Lg] at hs;have hd1:∀d∈EX l o x,(Cp d N).isSome=true:=fun d h=>hd d (LS _ h);have hd2:∀d∈Gb l o ex,(Cp d N).isSome=true:=fun d h=>hd d (LZ _ h);unfold Hu Sz GD;by_cases hk:(x.kind==1||x.kind==2)=true
  ·rw[if_pos hk,if_pos hk,iY hl hn o x hk,Zo,if_pos]
   ·rw[Zo,iw hN hd1];exact ai hN ex _ hd2 (by grind)
   have hll:(EX l o x).length<=10001:=by
    have:=XW l o x;unfold EX;split
    ·simp
    split
    ·omega
    simp
   grind
  rw[if_neg hk,if_neg hk];by_cases h2:st.length<2
  ·rw[if_pos h2,if_pos h2];rfl
  rw[if_neg h2,if_neg h2,Zo];exact ai hN ex _ hd2 (by grind)
include hl hn in
theorem QX (hS:Fw sc){s:AL}{N:List PN}{r:AB}{S:AB->Bool}(hN:∀p∈N,p.deps=D1 sc l p.k/\p.is=S p.k)(hf:(Cp r N).isSome=true)(hd:∀d∈D1 sc l r,(Cp d N).isSome=true):Ek n ⟨sc,EE l,r0⟩ s N r=some (nwB sc l s S r):=by
 have hb:=(Kl hS ⟨r.obj.type_,r.rel⟩).2.1;have hsl:=Uq l r.obj r.rel;obtain⟨x,hx⟩:=NH.1 hf;obtain⟨x1,x2⟩:=Iw hx;have hxd:x.deps=D1 sc l r:=by rw[(hN x x1).1,x2]
 unfold Ek nwB;rw[JM,Zo];dsimp only;cases he:(qg_ (⟨r.obj.type_,r.rel⟩:AA) DX sc.rels).expr.isEmpty with
 |true=>
  have he2:=Od.1 he;have hdl:(D1 sc l r).length<=10000:=by
   unfold D1;rw[if_pos he2];unfold Ju;rw[LC];exact Lp (NP _ _) (by omega)
  rw[if_pos rfl,if_pos he2];unfold KF;rw[JM,Zo];dsimp only;rw[he,if_pos rfl,XU (by omega),Zo,aS (by omega) (by omega),Zo,hx,Zo,hxd,if_pos]
  ·exact congrArg (fun b=>some (_||b)) (iw hN hd)
  grind
 |false=>
  have he2:(qg_ (⟨r.obj.type_,r.rel⟩:AA) DX sc.rels).expr≠[]:=fun h=>by rw[h] at he;cases he
  rw[if_neg (by decide),ifp,if_neg he2];refine ai hl hn hN _ [] (fun d h=>hd d ?_) (by simp only[LB];omega);unfold D1;rw[if_neg he2];exact h
end
section
variable {sc:AC}{l:List AE}{o:Ao}{rk:AA->Int}{R:Int}
def D4 (d:AB):AA:=⟨d.obj.type_,d.rel⟩
def QW (rk:AA->Int)(R:Int)(ws:List AG):Prop:=∀w∈ws,rk w.to1+w.taken<=R
def Q1 (rk:AA->Int)(R:Int)(ws:List AG):Prop:=∀w∈ws,rk w.to1<R
inductive Sg (rk:AA->Int) (R:Int):List (List AG)->List Bool->List Bool->Prop
 |nil:Sg rk R [] [] []
 |snoc {W a b w x y}:Sg rk R W a b->(∀v∈w,v.taken=0\/v.taken=1)->(QW rk R w->x=true->y=true)->(Q1 rk R w->x=y)->Sg rk R (W++[w]) (a++[x]) (b++[y])
theorem Sg.len {W:List (List AG)}{a b:List Bool}(h:Sg rk R W a b):W.length=a.length/\a.length=b.length:=by
 induction h with
 |nil=>exact⟨rfl,rfl⟩
 |snoc _ _ _ _ ih=>grind
theorem Gx {α:Type}(A:List α)(x y d:α):(A++[x]++[y]).take ((A++[x]++[y]).length-2)=A/\(A++[x]++[y]).getD ((A++[x]++[y]).length-2) d=x/\(A++[x]++[y]).getD ((A++[x]++[y]).length-1) d=y:=by
 simp
theorem Ut {x:AY}{w:List AG}(h0:∀v∈w,v.taken=0\/v.taken=1)(h:QW rk R (w.map (Dc x))):QW rk R w/\(x.kind=4->Q1 rk R w):=by
 constructor
 ·intro v hv
  have:=h _ (LH hv);grind [Dc]
 intro hk v hv
 have:=h _ (LH hv);unfold Dc at this;grind
theorem Uu {x:AY}{w:List AG}(h:Q1 rk R (w.map (Dc x))):Q1 rk R w:=fun v hv=>by
 have:=h _ (LH hv);unfold Dc at this;split at this<;>exact this
def aj (sc:AC)(l:List AE)(o:Ao)(x:AY):Prop:=∀d∈EX l o x,∃w∈Gu sc o.type_ x,w.to1=D4 d
theorem al {S T:AB->Bool}:∀(ex:List AY) {W:List (List AG)} {a b:List Bool},MN ex->(∀x∈ex,aj sc l o x)->Sg rk R W a b->QW rk R (ex.foldl (Dd sc o.type_) W).flatten->
  (∀d∈Gb l o ex,(rk (D4 d)<R->S d=T d)/\(rk (D4 d)<=R->S d=true->T d=true))->GD S l o ex a=true->GD T l o ex b=true
 |[],W,a,b,_,_,hs,hq,_,h=>by
  obtain⟨h1,h2⟩:=hs.len;unfold GD at h⊢;rw[Li,beq_iff_eq] at h⊢;obtain⟨h3,h4⟩:=h;refine⟨by omega,?_⟩;cases hs with
  |nil=>simp at h3
  | @snoc W' a' b' w x y hs _ hm he=>
   simp_all
 |x::ex,W,a,b,hk,hl,hs,hq,hd,h=>by
  have hk2:MN ex:=fun y hy=>hk y (Lh _ hy);have hl2:∀y∈ex,aj sc l o y:=fun y hy=>hl y (Lh _ hy);have hd2:∀d∈Gb l o ex,(rk (D4 d)<R->S d=T d)/\(rk (D4 d)<=R->S d=true->T d=true):=fun d h=>hd d (LZ _ h)
  have hd1:∀d∈EX l o x,(rk (D4 d)<R->S d=T d)/\(rk (D4 d)<=R->S d=true->T d=true):=fun d h=>hd d (LS _ h);obtain⟨l1,l2⟩:=hs.len;rw[Ba] at hq;unfold GD at h⊢;unfold Dd at hq;by_cases hx:(x.kind==1||x.kind==2)=true
  ·rw[if_pos hx] at h hq⊢;have hlf:=hl x (Lo ..);refine al ex hk2 hl2 (hs.snoc (fun v hv=>.inl ?_) (fun q1 h1=> ?_) fun q1=> ?_) hq hd2 h
   ·unfold Gu at hv;grind
   ·rw[Nm] at h1⊢;obtain⟨d,e1,e2⟩:=h1;obtain⟨w,w1,w2⟩:=hlf d e1;refine⟨d,e1,(hd1 d e1).2 ?_ e2⟩;have h3:=q1 w w1;have h4:w.taken=0:=by
     unfold Gu at w1;split at w1
     ·rw[Ln.1 w1]
     grind
    rw[w2,h4] at h3;omega
   rw[NF,Nm,Nm];have key:∀d∈EX l o x,S d=T d:=fun d e1=>by
    obtain⟨w,w1,w2⟩:=hlf d e1;exact(hd1 d e1).1 (by rw[<-w2];exact q1 w w1)
   grind
  rw[if_neg hx] at h hq⊢;by_cases h2:a.length<2
  ·rw[if_pos h2] at h;cases h
  rw[if_neg h2] at h;rw[ifn];rw[ifp] at hq;cases hs with
  |nil=>simp at h2
  | @snoc _ _ _ w2 x2 y2 hs k2 m2 e2=>
   cases hs with
   |nil=>simp at h2
   | @snoc W0 a0 b0 w1 x1 y1 hs k1 m1 e1=>
    rw[(Gx W0 w1 w2 []).1,(Gx W0 w1 w2 []).2.1,(Gx W0 w1 w2 []).2.2] at hq;rw[(Gx a0 x1 x2 false).1,(Gx a0 x1 x2 false).2.1,(Gx a0 x1 x2 false).2.2] at h;rw[(Gx b0 y1 y2 false).1,(Gx b0 y1 y2 false).2.1,(Gx b0 y1 y2 false).2.2];refine al ex hk2 hl2 (hs.snoc (fun v hv=> ?_) (fun q1 h1=> ?_) fun q1=> ?_) hq hd2 h
    ·rcases Ls.1 hv with hv |hv
     ·exact k1 v hv
     obtain⟨u,hu,rfl⟩:=LQ.1 hv;unfold Dc;grind
    ·have qa:QW rk R w1:=fun v hv=>q1 v (LS _ hv)
     obtain⟨qb,qc⟩:=Ut k2 fun v hv=>q1 v (LZ _ hv);have i1:=m1 qa;have i2:=m2 qb;unfold Us at h1⊢;rcases hk x (Lo ..) with e |e |e |e |e
     ·rw[e] at hx;simp at hx
     ·rw[e] at hx;simp at hx
     ·grind
     ·grind
     grind
    rw[e1 fun v hv=>q1 v (LS _ hv),e2 (Uu fun v hv=>q1 v (LZ _ hv))]
end
theorem af {sc:AC}{a:ByteArray}:∀(ex:List AY) (W:List (List AG)) (w:AG),w∈W.flatten\/(∃x∈ex,(x.kind==1||x.kind==2)=true/\w∈Gu sc a x)->∃v∈(ex.foldl (Dd sc a) W).flatten,v.to1=w.to1
 |[],W,w,h=>by
  grind
 |x::ex,W,w,h=>by
  rw[Ba];have key:(∃v∈(Dd sc a W x).flatten,v.to1=w.to1)\/∃y∈ex,(y.kind==1||y.kind==2)=true/\w∈Gu sc a y:=by
   rcases h with h |⟨y,hy,h1,h2⟩
   ·refine .inl ?_;unfold Dd;split
    ·grind
    split
    ·rename_i hl;obtain⟨A,q1,q2,rfl⟩:∃A q1 q2,W=A++[q1]++[q2]:=by
      obtain⟨B,q2,rfl⟩:∃B q2,W=B++[q2]:=⟨W.dropLast,W.getLast (by intro e;rw[e] at hl;simp at hl),(Bi _).symm⟩;rw[Lf,Lr] at hl;exact⟨B.dropLast,B.getLast (by intro e;rw[e] at hl;simp at hl),q2,by rw[Bi]⟩
     rw[(Gx A q1 q2 []).1,(Gx A q1 q2 []).2.1,(Gx A q1 q2 []).2.2];simp only[BX,List.flatten_cons,List.flatten_nil,LY,Ls] at h⊢;rcases h with(h |h) |h
     ·exact⟨w,.inl h,rfl⟩
     ·exact⟨w,.inr (.inl h),rfl⟩
     grind [Dc,List.mem_map_of_mem]
    exact⟨w,h,rfl⟩
   rcases Lm.1 hy with rfl |hy
   ·refine .inl ⟨w,?_,rfl⟩;simp_all [Dd,if_pos,BX,LZ]
   exact .inr ⟨y,hy,h1,h2⟩
  rcases key with⟨v,h1,h2⟩ |h1
  ·obtain⟨u,u1,u2⟩:=af ex _ v (.inl h1);exact⟨u,u1,u2.trans h2⟩
  exact af ex _ w (.inr h1)
theorem ip {S T:AB->Bool}{l:List AE}{o:Ao}:∀(ex:List AY) (st:List Bool),(∀d∈Gb l o ex,S d=T d)->GD S l o ex st=GD T l o ex st
 |[],_,_=>rfl
 |x::ex,st,h=>by
  have h1:(EX l o x).any S=(EX l o x).any T:=by
   rw[NF,Nm,Nm];have key:∀d∈EX l o x,S d=T d:=fun d hd=>h d (LS _ hd);exact⟨fun⟨d,e1,e2⟩=>⟨d,e1,by rw[<-key d e1];exact e2⟩,fun⟨d,e1,e2⟩=>⟨d,e1,by rw[key d e1];exact e2⟩⟩
  have ih:=fun st=>ip ex st fun d hd=>h d (LZ _ hd);unfold GD;rw[h1,ih,ih]
section
variable {ts:List AT}{S:AC}(hW:Es ts S)(hB:JG ts){l:List AE}(hfit:∀t∈l,Ez S t)
def GP (S:AC)(r:AB):Int:=Ca S.ranks (D4 r)
include hfit in
theorem iq (o:Ao)(x:AY):aj S l o x:=by
 intro d hd;unfold EX at hd;unfold Gu;split at hd
 ·rename_i hk;rw[Ln.1 hd,if_pos hk];exact⟨_,Ln.2 rfl,rfl⟩
 rename_i hk;split at hd
 ·unfold QU at hd;obtain⟨s,hs,rfl⟩:=LQ.1 hd;obtain⟨u,hu,q1,q2,q3⟩:=ME.1 hs;have hf:=hfit u hu;unfold Ez at hf;rw[q1,q2,q3] at hf;rw[if_neg hk];exact⟨_,LH hf,rfl⟩
 cases hd
include hW in
theorem ir {r:AB}(hr:Ar (D4 r) S.rels=true):QW (Ca S.ranks) (GP S r) (FW S (D4 r)):=by
 rw[Pb,hW.rels,Vv] at hr;exact fun w hw=>hW.rk _ hr w hw
include hW hfit in
theorem iu {r d:AB}(hr:Ar (D4 r) S.rels=true)(hd:d∈D1 S l r):GP S d<=GP S r:=by
 have hq:=ir hW hr;have key:∃v∈FW S (D4 r),v.to1=D4 d:=by
  unfold FW D1 at *;show ∃v∈(if (qg_ (D4 r) DX S.rels).expr= [] then _ else _),_;by_cases he:(qg_ (D4 r) DX S.rels).expr= []
  ·have he':(qg_ (⟨r.obj.type_,r.rel⟩:AA) DX S.rels).expr= []:=he;rw[if_pos he'] at hd;rw[if_pos he];obtain⟨s,hs,hne,rfl⟩:=XV.1 hd;obtain⟨u,hu,q1,q2,q3⟩:=ME.1 hs;have hf:=hfit u hu;unfold Ez at hf;rw[q1,q2,q3] at hf;have sub:∀(ss:List AL) (g:AL),g∈ss->g.rel≠{ data:= #[] }->(⟨⟨g.type_,g.rel⟩,0⟩:AG)∈FI ss:=fun ss=>by
    induction ss with
    |nil=>intro g h _;cases h
    |cons y ys ih=>
     intro g h hg;rw[RU];rcases Lm.1 h with rfl |h
     ·rw[Ge,decide_eq_false (show ¬g.rel=ByteArray.empty from hg),if_neg (by decide)];exact Lo ..
     split
     ·exact ih g h hg
     exact Lh _ (ih g h hg)
   exact⟨_,sub _ _ hf hne,rfl⟩
  have he':¬(qg_ (⟨r.obj.type_,r.rel⟩:AA) DX S.rels).expr= []:=he;rw[if_neg he'] at hd;rw[if_neg he];unfold Gb at hd;obtain⟨x,hx,hd⟩:=Ob.1 hd;obtain⟨w,w1,w2⟩:=iq hfit r.obj x d hd;have hk:(x.kind==1||x.kind==2)=true:=by
   unfold EX at hd;split at hd
   ·rename_i h;rw[h];rfl
   split at hd
   ·rename_i h;rw[h,O6]
   cases hd
  obtain⟨v,v1,v2⟩:=af (sc:=S) (a:=r.obj.type_) _ [] w (.inr ⟨x,hx,hk,w1⟩);exact⟨v,v1,v2.trans w2⟩
 obtain⟨v,h1,h2⟩:=key;have h3:=hq v h1;rw[h2] at h3;rcases nE S (D4 r) v h1 with e |e<;>unfold GP at * <;>omega
include hW hB hfit in
theorem QV {U:List AB}(s:AL)(hU:∀r∈U,Ar (D4 r) S.rels=true)(hc:∀r∈U,∀d∈D1 S l r,d∈U):FA U (D1 S l) (GP S) (nwB S l s):=by
 refine⟨fun A B r _ h=> ?_,fun A B r hr h1 h2 h3=> ?_,fun r hr d hd=>iu hW hfit (hU r hr) hd,hc⟩
 ·unfold nwB;split
  ·grind
  rename_i he;refine ip _ _ fun d hd=>h d ?_;unfold D1;rw[if_neg he];exact hd
 have hle:∀d∈D1 S l r,GP S d<=GP S r:=fun d hd=>iu hW hfit (hU r hr) hd
 have hi:∀d∈D1 S l r,(GP S d<GP S r->A d=B d)/\(GP S d<=GP S r->A d=true->B d=true):=fun d hd=>⟨h1 d hd,fun _ ha=>by
  grind⟩
 unfold nwB at h3⊢;by_cases he:(qg_ (⟨r.obj.type_,r.rel⟩:AA) DX S.rels).expr= []
 ·rw[if_pos he] at h3⊢;rw[LP] at h3⊢;grind
 rw[if_neg he] at h3⊢;have hq:=ir hW (hU r hr);unfold FW at hq;rw[if_neg (show ¬(qg_ (D4 r) DX S.rels).expr= [] from he)] at hq;refine al (sc:=S) (rk:=Ca S.ranks) (R:=GP S r) _ (Kl (Ur hW hB) ⟨r.obj.type_,r.rel⟩).2.2.2.2 (fun x _=>iq hfit r.obj x) .nil hq (fun d hd=>hi d ?_) h3;unfold D1;rw[if_neg he];exact hd
theorem ah (hl:l.length<=100)(hfit':∀t∈l,Ez S t)(hW':Es ts S)(hB':JG ts){o:Ao}{rel:ByteArray}(hk:Ar (⟨o.type_,rel⟩:AA) S.rels=true):∃U:List AB,U.Nodup/\U.length<=20200/\(⟨o,rel⟩:AB)∈U/\(∀r∈U,Ar (D4 r) S.rels=true)/\(∀r∈U,∀d∈D1 S l r,d∈U)/\total (D1 S l) U<=1000000000:=by
 obtain⟨U,u1,u2,u3⟩:=aX (MF ts l o);have hUl:U.length<=20200:=by
  refine Lp u3 (Lp (aY _ 200 fun p _=> ?_) ?_)
  ·rw[LC];exact(aW p.type_ hW'.tys fun t ht=>(hB'.2 t ht).1).1
  grind [Sf,List.length_cons,List.length_map,Nat.le_trans,Nat.mul_le_mul_right]
 have mU:∀r,r∈U↔r.obj∈Sf l o/\Ar (⟨r.obj.type_,r.rel⟩:AA) S.rels=true:=fun r=>by
  rw[u2,ic,Pb,hW'.rels,Vv]
 refine⟨U,u1,hUl,(mU _).2 ⟨Lo ..,hk⟩,fun r hr=>((mU r).1 hr).2,fun r hr d hd=> ?_,?_⟩
 ·obtain⟨h1,h2⟩:=(mU r).1 hr;obtain⟨c1,c2⟩:=aV hW' hfit' h2 hd;refine(mU d).2 ⟨?_,c1⟩;rcases c2 with c2 |⟨t,ht,c2⟩
  ·rw[c2];exact h1
  rw[c2];exact Lh _ (LH ht)
 unfold total;exact Lp (aZ _ 20200 fun r _=>ii hW' hB' hl r) (Lp (LR _ hUl) (by decide))
include hW hB hfit in
theorem iv {n:Nat}{r0:List AE}{o:Ao}{rel:ByteArray}(s:AL)(hl:l.length<=100)(hn:2000000000<n)(hk:Ar (⟨o.type_,rel⟩:AA) S.rels=true):∃(K:List AB) (A:AB->Bool),Hw n ⟨S,EE l,r0⟩ o rel s=some (A ⟨o,rel⟩)/\(⟨o,rel⟩:AB)∈K/\(∀r∈K,Ar (D4 r) S.rels=true)/\(∀r∈K,∀d∈D1 S l r,d∈K)/\DP K (GP S) (nwB S l s) A:=by
 have hS:=Ur hW hB;obtain⟨U,u1,u2,u3,u4,u5,u6⟩:=ah hl hfit hW hB hk;obtain⟨K,A,a1,a2,a3,a4,a5⟩:=vK (n:=n) (G:=⟨S,EE l,r0⟩) (s:=s) (D:=D1 S l) (rk:=GP S) (nwB:=nwB S l s) u1 (by omega) u3 (fun r _=>kd_ (by omega) (by omega) hS r) u5 u6 hn (QV hW hB hfit s u4 u5) (fun r _=>hW.rk0 _) fun K St N k1 k2 k3 k4 r hr=>QX (by omega) (by omega) hS k3 (by rw[VT,k2];exact hr) fun d hd=>by
  rw[VT,k2];exact k4 r hr d hd
 grind
end
theorem DP.sub {K K':List AB}{D:AB->List AB}{rk:AB->Int}{nw:(AB->Bool)->AB->Bool}{A:AB->Bool}(h:DP K rk nw A)(hN:FA K D rk nw)(hs:∀r∈K',r∈K)(hc:∀r∈K',∀d∈D r,d∈K'):DP K' rk nw A:=by
 refine⟨fun r hr=>h.fix r (hs r hr),fun j T h1 h2 r hr hj ha=> ?_⟩
 have:=h.low j (fun x=>if x∈K'/\rk x=j then T x&&A x else A x) (fun x _ hx=>if_neg fun e=>by omega) (fun x hx hxj hn=> ?_) r (hs r hr) hj ha
 ·grind
 have hA:A x=true:=by
  rw[h.fix x hx];refine hN.mono _ A x hx (fun d _ hd=>if_neg fun e=>by omega) (fun d _ _ hd=> ?_) hn;split at hd
  ·exact(Li _ _▸hd).2
  exact hd
 by_cases hx':x∈K'
 ·rw[if_pos ⟨hx',hxj⟩,hA,Ov];refine h2 x hx' hxj (hN.mono _ T x hx (fun d hd hlt=> ?_) (fun d hd he hv=> ?_) hn)
  ·grind
  grind
 grind
theorem DP.one {K:List AB}{rk:AB->Int}{nw:(AB->Bool)->AB->Bool}{A A':AB->Bool}(h:DP K rk nw A)(h':DP K rk nw A')(h0:∀r∈K,0<=rk r):∀r∈K,A r=A' r:=by
 have main:∀(j:Nat) (r:AB),r∈K->rk r<(j:Int)->A r=A' r:=by
  intro j;induction j with
  |zero=>intro r hr hj;have:=h0 r hr;omega
  |succ j ih=>
   intro r hr hj;by_cases hlt:rk r<(j:Int)
   ·exact ih r hr hlt
   rw[NF];exact⟨h.low j A' (fun x hx hxj=>(ih x hx hxj).symm) (fun x hx _ hn=>(h'.fix x hx).trans hn) r hr (by omega),h'.low j A (fun x hx hxj=>ih x hx hxj) (fun x hx _ hn=>(h.fix x hx).trans hn) r hr (by omega)⟩
 exact fun r hr=>main ((rk r).toNat+1) r hr (by have:=h0 r hr;omega)
theorem DP.uniq {K K':List AB}{D:AB->List AB}{rk:AB->Int}{nw:(AB->Bool)->AB->Bool}{A A':AB->Bool}(h:DP K rk nw A)(h':DP K' rk nw A')(hN:FA K D rk nw)(hN':FA K' D rk nw)(h0:∀r∈K,0<=rk r){r:AB}(hr:r∈K)(hr':r∈K'):A r=A' r:=by
 have hc:∀x∈K.filter (· ∈K'),∀d∈D x,d∈K.filter (· ∈K'):=fun x hx d hd=>by
  obtain⟨h1,h2⟩:=Nh.1 hx;exact Nh.2 ⟨hN.DK x h1 d hd,decide_eq_true (hN'.DK x (of_decide_eq_true h2) d hd)⟩
 exact(h.sub hN (fun x hx=>(Nh.1 hx).1) hc).one (h'.sub hN' (fun x hx=>of_decide_eq_true (Nh.1 hx).2) hc) (fun x hx=>h0 x (Nh.1 hx).1) r (Nh.2 ⟨hr,decide_eq_true hr'⟩)
inductive IV
 |leaf (x:AY)
 |op (x:AY) (a b:IV)
def post:IV->List AY
 | .leaf x=>[x]
 | .op x a b=>post a++post b++[x]
def IW:IV->Prop
 | .leaf x=>x.kind=1\/x.kind=2
 | .op x a b=>(x.kind=3\/x.kind=4\/x.kind=5)/\IW a/\IW b
theorem kO {x:Ae}{c:Int}(hc:(c==0)=false):((jw_ x c).e==0)=false:=by
 unfold jw_;grind
theorem Xq {x:Ae}{t:ByteArray}(h:((DV x t).e==0)=true):(x.e==0)=true:=by
 unfold DV at h;split at h
 ·assumption
 exact h
theorem VM {n:Nat}{x:Ae}{r:Ae × ByteArray}(h:xL_ n x=some r)(he:(r.1.e==0)=true):(x.e==0)=true:=by
 cases hx:x.e==0 with
 |true=>rfl
 |false=>
  unfold xL_ at h;grind
theorem Xr {x:Ae}{s:AY}{a:Int}(h:((C5 x s a).e==0)=true):(x.e==0)=true/\(C5 x s a).out=x.out++[s]:=by
 unfold C5 at h⊢;grind
def Sq (g:Ae->Option Ae):Prop:=∀x y,g x=some y->(y.e==0)=true->(x.e==0)=true/\∃t,IW t/\y.out=x.out++post t
theorem PL {n:Nat}{ex:Ae->Option Ae}(hex:Sq ex):Sq (EB n ex):=by
 intro x y h hy;unfold EB at h;split at h;rotate_left
 ·cases h
 split at h
 ·split at h
  ·cases h;rw[kO rfl] at hy;cases hy
  obtain⟨z,h1,h⟩:=AJ h;split at h
  ·cases h;obtain⟨a,t,b,c⟩:=hex _ _ h1 (Xq hy);exact⟨a,t,b,by show(DV z Gz).out=_;rw[jy];exact c⟩
  cases h
 obtain⟨r,h1,h⟩:=AJ h;have e1:=Xn h1;split at h
 ·obtain⟨s,h2,h⟩:=AJ h;have e2:=Xn h2;cases h;obtain⟨p1,p2⟩:=Xr hy;exact⟨VM h1 (show(r.1.e==0)=true from VM (x:={ r.1 with p:=r.1.p+1 }) h2 p1),.leaf ⟨2,r.2,s.2⟩,.inr rfl,by rw[p2,e2];show r.1.out++_=_;rw[e1];rfl⟩
 cases h;obtain⟨p1,p2⟩:=Xr hy;exact⟨VM h1 p1,.leaf ⟨1,r.2,{ data:= #[] }⟩,.inl rfl,by rw[p2,e1];rfl⟩
theorem kP {n:Nat}{ex:Ae->Option Ae}(hex:Sq ex):∀(c:Nat) (x y:Ae),GQ n ex c x=some y->(y.e==0)=true->(x.e==0)=true/\∀(B:List AY) (t:IV),IW t->x.out=B++post t->∃t',IW t'/\y.out=B++post t'
 |0,_,_,h,_=>by cases h
 |c+1,x,y,h,hy=>by
  unfold GQ at h;split at h
  ·split at h
   ·obtain⟨z,h1,h⟩:=AJ h;split at h
    ·obtain⟨i1,i2⟩:=kP hex c _ _ h hy;obtain⟨p1,p2⟩:=Xr i1;obtain⟨f1,t2,f2,f3⟩:=PL hex _ _ h1 p1;exact⟨f1,fun B t ht hx=>i2 B (.op ⟨5,ByteArray.empty,ByteArray.empty⟩ t t2) ⟨.inr (.inr rfl),ht,f2⟩ (by rw[p2,f3];show x.out++post t2++_=B++(post t++post t2++_);rw[hx];simp)⟩
    cases h
   grind
  cases h
theorem kQ {trm:Ae->Option Ae}(htm:Sq trm):∀(c:Nat) (x y:Ae),Fd trm c x=some y->(y.e==0)=true->(x.e==0)=true/\∀(B:List AY) (t:IV),IW t->x.out=B++post t->∃t',IW t'/\y.out=B++post t'
 |0,_,_,h,_=>by cases h
 |c+1,x,y,h,hy=>by
  unfold Fd at h;split at h
  ·split at h
   ·obtain⟨z,h1,h⟩:=AJ h;split at h
    ·obtain⟨i1,i2⟩:=kQ htm c _ _ h hy;obtain⟨p1,p2⟩:=Xr i1;obtain⟨f1,t2,f2,f3⟩:=htm _ _ h1 p1;exact⟨f1,fun B t ht hx=>i2 B (.op ⟨if isM x C9 then 4 else 3,ByteArray.empty,ByteArray.empty⟩ t t2) ⟨by dsimp only;split<;>simp,ht,f2⟩ (by rw[p2,f3];show x.out++post t2++_=B++(post t++post t2++_);rw[hx];simp)⟩
    cases h
   grind
  cases h
theorem bT {n c:Nat}:∀f,Sq (EZ n c f)
 |0,_,_,h,_=>by cases h
 |f+1,x,y,h,hy=>by
  have htm:Sq (FQ n (EZ n c f) c):=fun a b e hb=>by
   unfold FQ at e;obtain⟨z,e1,e⟩:=AJ e;obtain⟨i1,i2⟩:=kP (bT f) c _ _ e hb;obtain⟨f1,t,f2,f3⟩:=PL (bT f) _ _ e1 i1;exact⟨f1,i2 a.out t f2 f3⟩
  unfold EZ at h;obtain⟨z,h1,h⟩:=AJ h;obtain⟨i1,i2⟩:=kQ htm c _ _ h hy;obtain⟨f1,t,f2,f3⟩:=htm _ _ h1 i1;exact⟨f1,i2 x.out t f2 f3⟩
def Gl (g:Ac):Prop:=(g.expr= []/\g.subs≠[])\/(g.subs= []/\∃t,IW t/\g.expr=post t)
theorem kS {n:Nat}:∀(c:Nat) {x:Ae} {ss:List AL} {y:Ae × List AL},GR n c x ss=some y->(y.1.e==0)=true->(x.e==0)=true/\y.2≠[]
 |0,_,_,_,h,_=>by cases h
 |c+1,x,ss,y,h,hy=>by
  unfold GR at h;split at h
  ·split at h
   ·rename_i hx;obtain⟨r1,_,h⟩:=AJ h;obtain⟨r2,_,h⟩:=AJ h;refine⟨hx,?_⟩;split at h
    ·exact(kS c h hy).2
    cases h;simp
   grind
  cases h
theorem kT {n c f:Nat}{x:Ae}{y:Ae × Ac}(h:EJ n c f x=some y)(hy:(y.1.e==0)=true):(x.e==0)=true/\Gl y.2:=by
 unfold EJ at h;split at h
 ·obtain⟨r,h1,h⟩:=AJ h;split at h
  ·obtain⟨z,h2,h⟩:=AJ h;split at h
   ·cases h;obtain⟨a,t,b,d⟩:=bT f _ _ h2 (Xq hy);exact⟨VM h1 a,.inr ⟨rfl,t,b,d⟩⟩
   cases h
  obtain⟨p,h2,rfl⟩:=La.1 h;obtain⟨a,b⟩:=kS c h2 hy;exact⟨VM h1 (Xq a),.inl ⟨rfl,b⟩⟩
 cases h
theorem bU {n c f:Nat}:∀(k:Nat) {x:Ae} {rs:List Ac} {y:Ae × List Ac},(∀g∈rs,Gl g)->G0 n c f k x rs=some y->(y.1.e==0)=true->(x.e==0)=true/\∀g∈y.2,Gl g
 |0,_,_,_,_,h,_=>by cases h
 |k+1,x,rs,y,hr,h,hy=>by
  unfold G0 at h;split at h;rotate_left
  ·cases h
  split at h
  ·split at h
   ·obtain⟨a,_⟩:=bU k hr h hy;rw[kO rfl] at a;cases a
   obtain⟨p,h1,h⟩:=AJ h;have he:(p.1.e==0)=true/\∀g∈y.2,Gl g:=by
    cases hp:p.1.e==0 with
    |true=>
     refine⟨rfl,(bU k (fun g hg=> ?_) h hy).2⟩;grind [List.mem_singleton,kT]
    |false=>
     exfalso;cases k with
     |zero=>cases h
     |succ k=>
      unfold G0 at h;grind
   exact⟨(kT h1 he.1).1,he.2⟩
  cases h;exact⟨hy,hr⟩
theorem uH {n c f:Nat}{x:Ae}{y:Ae × AT}(h:J7 n c f x=some y)(hy:(y.1.e==0)=true):∀g∈y.2.rels,Gl g:=by
 unfold J7 at h;obtain⟨r,h1,h⟩:=AJ h;obtain⟨q,h2,h⟩:=AJ h;cases h;split at h2
 ·obtain⟨p,h3,rfl⟩:=La.1 h2;exact(bU c (by intro _ h;cases h) h3 (Xq hy)).2
 cases h2;intro _ h;cases h
theorem kU {n c f:Nat}:∀(k:Nat) {x:Ae} {ts:List AT} {y:Ae × List AT},(∀t∈ts,∀g∈t.rels,Gl g)->Hi n c f k x ts=some y->(y.1.e==0)=true->∀t∈y.2,∀g∈t.rels,Gl g
 |0,_,_,_,_,h,_=>by cases h
 |k+1,x,ts,y,hr,h,hy=>by
  unfold Hi at h;split at h
  ·split at h
   ·obtain⟨r,h1,h⟩:=AJ h;cases hp:r.1.e==0 with
    |true=>
     refine kU k (fun t ht=> ?_) h hy;grind [List.mem_singleton,uH]
    |false=>
     exfalso;cases k with
     |zero=>cases h
     |succ k=>
      unfold Hi at h;grind
   cases h;exact hr
  cases h
def bV (l:List AT):Prop:=∀t∈l,∀g∈t.rels,Gl g
theorem uI {n:Nat}{s:ByteArray}{l:List AT}(h:MO n s=some l):bV l:=by
 unfold MO at h;obtain⟨y,h1,rfl⟩:=La.1 h;unfold J8 at h1;obtain⟨t,_,h1⟩:=AJ h1;split at h1
 ·obtain⟨r,h2,h1⟩:=AJ h1;split at h1
  ·rename_i he;cases h1;exact kU n (by intro _ h;cases h) h2 he
  cases h1;intro _ h;cases h
 cases h1;intro _ h;cases h
end Go.Proofs.YtnmkbmefohakmaaGreat.Ab
