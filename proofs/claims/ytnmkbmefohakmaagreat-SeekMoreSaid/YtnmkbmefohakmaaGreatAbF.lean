/-
 Open orders: the order of the text is enough.
-/
import Derived.Test.YtnmkbmefohakmaaGreatAbE
set_option linter.all false
namespace Go.Proofs.YtnmkbmefohakmaaGreat.Ab
open Go.RowKit
section
variable {P:Program}{tab:Nat->TI}
theorem ZJ {xs ys:List Nat}{x:Nat}(h1:x∈xs)(h2:x∈ys):DM xs ys=true:=Nm.2 ⟨x,h1,by simpa using h2⟩
theorem fd {ops:Array Oper}(h:JW ops=true){i:Nat}{o:Oper}(ho:ops[i]? =some o):∀k∈F6 o,k<i:=by
 intro k hk;have hm:(o,i)∈ops.toList.zipIdx:=by
  rw[NU];exact⟨i,by simp[OU,ho]⟩
 have:=LL.1 (LL.1 h _ hm) k hk;simpa using this
theorem pK {o:Oper}{e:Edge}(he:e∈o.after.toList)(hb:Region.binds .any e=true):e.on∈F6 o:=by
 unfold F6;exact Om.2 ⟨e,he,by simp[hb]⟩
theorem WP {ops:Array Oper}{rs:List Cd}(h:Rh ops (Ku ops) rs=true){i j:Nat}(hij:i<j)(hj:j<ops.size){a b:Oper}(ha:ops[i]? =some a)(hb:ops[j]? =some b){ra rb:Cd}(h1:rs[i]? =some ra)(h2:rs[j]? =some rb)(hc:Me ops a b=true\/FL ra rb=true):i∈(Ku ops).getD j []:=by
 have:=LL.1 (LL.1 h j (NY.2 hj)) i (NY.2 hij);rw[ha,hb,h1,h2] at this;simp only[LP,Li,NJ] at this;rcases this with h3 |⟨h3,h4⟩
 ·simpa using h3
 rcases hc with hc |hc
 ·rw[hc] at h3;cases h3
 rw[hc] at h4;cases h4
theorem pL {l:List Bool}(h:l.count false=0):∀(i:Nat),i<l.length->l[i]? =some true:=by
 intro i hi
 have:=List.count_eq_zero.1 h;rw[Ld hi];cases hb:l[i] with
 |true=>rfl
 |false=>exact absurd (hb▸NV hi) this
theorem Pw {id:Nat}{ops:Array Oper}{Q:Ex->St->Prop}{s:St}(h:WD P tab ops s.nx (Q .normal) (s.nx+ops.size) 0 ops.toList [] s.fr s.hp):W P tab (.region id ops true) Q s:=by
 obtain⟨v,δ,rc,m,_,hsat,hok,hK⟩:=fc (nxb:=s.nx+ops.size) (fr0:=s.fr) (hp0:=s.hp) ops.toList 0 [] (fun _=>.un) (fun _=>[]) (fun _=>⟨[],[],false⟩) (fun _=>none) (by simp) (fun k o h=>by simpa using h) rfl h;simp only[Gv,Li] at hok;obtain⟨hearly,hpairs⟩:=hok;have hrc:∀k,k<ops.size->((List.range ops.size).map rc)[k]? =some (rc k):=fun k hk=>by rw[Lj,Bg hk];rfl
 let Cl (S:Nat->Bool):Prop:=∀(i:Nat) (o:Oper),ops[i]? =some o->S i=true->∀k∈F6 o,S k=true;have hpre:∀i j,j∈(Ku ops).getD i []->j<i/\∀S,Cl S->S i=true->S j=true:=
  pA (fun k i=>k<i/\∀S,Cl S->S i=true->S k=true) (fun i j k h1 h2=>⟨by omega,fun S hS hk=>h1.2 S hS (h2.2 S hS hk)⟩) fun i o ho k hk=>⟨fd hearly ho k hk,fun S hS hi=>hS i o ho hi k hk⟩
 have main:∀(fuel t:Nat) (listed:Array Bool),listed.size=ops.size->listed.toList.count false=fuel->Cl (fun k=>listed.getD k false)->
   WL P tab ops s.nx (Q .normal) (Region.linearise.go .any ops fuel t listed []) ⟨CU ops v s.fr (fun k=>listed.getD k false) ops.size,CJ δ s.hp (fun k=>listed.getD k false) ops.size,CY m (s.nx+ops.size) (fun k=>listed.getD k false) ops.size⟩:=by
  intro fuel;induction fuel with
  |zero=>
   intro t listed hs hc _;have hall:∀j,j<ops.size->(fun k=>listed.getD k false) j=(fun _=>true) j:=fun j hj=>by
    have:=pL hc j (by simpa [hs] using hj);simp only[NN] at this;simp[LG,this]
   simp only[Region.linearise.go,Nk,WL];rw[ZG ops.size hall,WO ops.size hall,ZC ops.size hall];exact hK
  |succ fuel ih=>
   intro t listed hs hc hcl;simp only[Region.linearise.go];split;rotate_left
   ·rename_i hnone;exfalso;have hex:∃i,i<ops.size/\listed.getD i false=false:=by
     have hpos:0<listed.toList.count false:=by omega
     have:=List.count_pos_iff.1 hpos;obtain⟨i,hi⟩:=NU.1 this;have hlt:=(Lb.1 hi).1;refine⟨i,by simp[hs] at hlt;exact hlt,?_⟩;rw[NN] at hi;rw[LG,hi];rfl
    have hmin:∀n,∀i,i<=n->i<ops.size->listed.getD i false=false->∃k,k<ops.size/\listed.getD k false=false/\∀j,j<k->listed.getD j false=true:=by
     intro n;induction n with
     |zero=>
      intro i hi h1 h2;exact⟨i,h1,h2,fun j hj=>by omega⟩
     |succ n ihn=>
      intro i hi h1 h2;by_cases hall:∀j,j<i->listed.getD j false=true
      ·exact⟨i,h1,h2,hall⟩
      have:∃j,j<i/\listed.getD j false=false:=by
       refine Bp fun hno=>hall fun j hj=> ?_;cases hb:listed.getD j false with |true=>rfl |false=>exact absurd ⟨j,hj,hb⟩ hno
      obtain⟨j,h3,h4⟩:=this;exact ihn j (by omega) (by omega) h4
    obtain⟨i,h1,h2⟩:=hex;obtain⟨k,h3,h4,h5⟩:=hmin i i (Lc _) h1 h2;have hk:ops[k]? =some ops[k]:=LA h3;generalize ops[k]=ok at hk;have hready:k∈List.filter (fun i=> !listed.getD i true&&((ops[i]?).map (·.after.all fun e=> !Region.binds .any e||listed.getD e.on false)).getD false) (List.range ops.size):=by
     simp only[Nh,NY,Li,NJ];refine⟨h3,?_,?_⟩
     ·rw[LG] at h4⊢;rw[LA (by omega)] at h4⊢;simpa using h4
     rw[hk];simp only[LO,Nw,Oc];intro e he;cases hb:Region.binds .any e with
     |false=>rfl
     |true=>
      have:=fd hearly hk e.on (pK (by simpa using he) hb);simp[h5 _ this]
    generalize List.filter (fun i=> !listed.getD i true&&((ops[i]?).map (·.after.all fun e=> !Region.binds .any e||listed.getD e.on false)).getD false) (List.range ops.size)=rs at hnone hready;have hpos:0<rs.length:=List.length_pos_of_mem hready;rw[Ld (Og _ hpos)] at hnone;cases hnone
   rename_i i hi;rw[linearise_go_acc,OH,OM];have hmem:=Lt hi;simp only[Nh,NY,Li,NJ] at hmem;obtain⟨hlt,hni,hdeps⟩:=hmem;have hli:listed[i]? =some false:=by
    rw[LG] at hni;rw[LA (by omega)] at hni⊢;simpa using hni
   have hSi:listed.getD i false=false:=(by rw[LG,hli];rfl);have ho:ops[i]? =some ops[i]:=LA hlt;generalize ops[i]=o at ho;rw[ho] at hdeps;simp only[LO,Nw,Oc] at hdeps;have hdirs:∀k∈F6 o,listed.getD k false=true:=fun k hk=>by
    obtain⟨e,he,hk2⟩:=Om.1 hk;split at hk2
    ·rename_i hb;cases hk2
     have:=hdeps e (by simpa using he);simpa [hb] using this
    cases hk2
   have hS':∀j,(listed.setIfInBounds i true).getD j false=(listed.getD j false||j==i):=fun j=>by
    simp only[LG];by_cases e:i=j
    ·subst e;rw[BS (by omega)];simp
    rw[By e]
    have:(j==i)=false:=(by simpa using fun h:j=i=>e h.symm);simp[this]
   have hcl':Cl (fun k=>(listed.setIfInBounds i true).getD k false):=by
    intro j oj hoj hj k hk;simp only[hS',LP,beq_iff_eq] at hj⊢;rcases hj with hj |rfl
    ·exact .inl (hcl j oj hoj hj k hk)
    rw[ho] at hoj;cases hoj;exact .inl (hdirs k hk)
   have hfore:∀j,j∈(Ku ops).getD i []->listed.getD j false=true:=fun j hj=>by
    obtain⟨h1,h2⟩:=hpre i j hj
    have:=h2 _ hcl' (by simp[hS']);simp only[hS',LP,beq_iff_eq] at this;rcases this with h3 |h3
    ·exact h3
    omega
   have hafter:∀j,i∈(Ku ops).getD j []->listed.getD j false=false:=fun j hj=>by
    obtain⟨h1,h2⟩:=hpre j i hj;cases hb:listed.getD j false with
    |false=>rfl
    |true=>
     have:=h2 _ hcl hb;simp only[hSi] at this;cases this
   have agree:∀j,j<ops.size->∀oj,ops[j]? =some oj->(Me ops oj o=true/\j<i\/Me ops o oj=true/\i<j\/FL (rc j) (rc i)=true/\j<i\/FL (rc i) (rc j)=true/\i<j\/j=i)->listed.getD j false=decide (j<i):=by
    intro j hj oj hoj hcase;rcases hcase with⟨h1,h2⟩ |⟨h1,h2⟩ |⟨h1,h2⟩ |⟨h1,h2⟩ |rfl
    ·rw[hfore j (WP hpairs h2 hlt hoj ho (hrc j hj) (hrc i hlt) (.inl h1))];simp[h2]
    ·rw[hafter j (WP hpairs h2 hj ho hoj (hrc i hlt) (hrc j hj) (.inl h1))];simp;omega
    ·rw[hfore j (WP hpairs h2 hlt hoj ho (hrc j hj) (hrc i hlt) (.inr h1))];simp[h2]
    ·rw[hafter j (WP hpairs h2 hj ho hoj (hrc i hlt) (hrc j hj) (.inr h1))];simp;omega
    rw[hSi];simp
   have hops:∀j,j<ops.size->∃oj,ops[j]? =some oj:=fun j hj=>⟨_,LA hj⟩;have hks:∀j,j<ops.size->(rc j).ks=(δ j).map (·.1):=fun j hj=>by
    obtain⟨oj,hoj⟩:=hops j hj;exact(hsat j oj (Ll _) hoj).ks.1
   have hgs:∀j,j<ops.size->(rc j).g=(m j).isSome:=fun j hj=>by
    obtain⟨oj,hoj⟩:=hops j hj;exact(hsat j oj (Ll _) hoj).ks.2
   have hfr:∀t∈Pu ops o,CU ops v s.fr (fun _=>true) i t=CU ops v s.fr (fun k=>listed.getD k false) ops.size t:=by
    intro t ht;have e1:CU ops v s.fr (fun k=>listed.getD k false) ops.size t=CU ops v s.fr (fun k=>decide (k<i)) ops.size t:=by
     refine vV_ ops.size fun j hj hd=> ?_;obtain⟨oj,hoj⟩:=hops j hj;rw[hoj] at hd;simp only[NR] at hd;refine agree j hj oj hoj ?_;rcases Oa j i with h1 |h1 |h1
     ·exact .inl ⟨by simp[Me,hd];exact .inl (.inl ht),h1⟩
     ·exact .inr (.inr (.inr (.inr h1)))
     exact .inr (.inl ⟨by simp[Me,hd];exact .inr ht,h1⟩)
    have e2:CU ops v s.fr (fun k=>decide (k<i)) ops.size=CU ops v s.fr (fun k=>decide (k<i)) i:=by
     have:=fY (ops:=ops) (v:=v) (fr0:=s.fr) i (ops.size-i);rwa [show i+(ops.size-i)=ops.size by omega] at this
    rw[e1,e2];exact congrFun (ZG i fun j hj=>by simp[hj]) t
   have hsi:=hsat i o (Ll _) ho;have hhp:∀x∈(rc i).ids,CJ δ s.hp (fun _=>true) i x=CJ δ s.hp (fun k=>listed.getD k false) ops.size x:=by
    intro x hx;have e1:CJ δ s.hp (fun k=>listed.getD k false) ops.size x=CJ δ s.hp (fun k=>decide (k<i)) ops.size x:=by
     refine zI_ ops.size fun j hj hd=> ?_;obtain⟨oj,hoj⟩:=hops j hj;rw[<-hks j hj] at hd;refine agree j hj oj hoj ?_;rcases Oa j i with h1 |h1 |h1
     ·exact .inr (.inr (.inl ⟨Pt (by simp only[IF,LP];exact .inl (.inl (ZJ hd (Ls.2 (.inl hx))))),h1⟩))
     ·exact .inr (.inr (.inr (.inr h1)))
     exact .inr (.inr (.inr (.inl ⟨Pt (by simp only[IF,LP];exact .inl (.inr (ZJ hd hx))),h1⟩)))
    have e2:CJ δ s.hp (fun k=>decide (k<i)) ops.size=CJ δ s.hp (fun k=>decide (k<i)) i:=by
     have:=ZE (δ:=δ) (hp0:=s.hp) i (ops.size-i);rwa [show i+(ops.size-i)=ops.size by omega] at this
    rw[e1,e2];exact congrFun (WO i fun j hj=>by simp[hj]) x
   have hhw:(m i).isSome=true->DN∈(rc i).ids->CJ δ s.hp (fun _=>true) i=CJ δ s.hp (fun k=>listed.getD k false) ops.size:=by
    intro hmi hw;have hwi:Eu (rc i)=true:=by
     rw[<-hgs i hlt] at hmi;simpa [Eu,hmi] using hw
    have e1:∀j,j<ops.size->∀x,x∈(δ j).map (·.1)->listed.getD j false=decide (j<i):=fun j hj x hd=>by
     obtain⟨oj,hoj⟩:=hops j hj;refine agree j hj oj hoj ?_;rw[<-hks j hj] at hd;have hne:(rc j).ks.isEmpty=false:=by
      cases e:(rc j).ks with |nil=>rw[e] at hd;cases hd |cons _ _=>rfl
     rcases Oa j i with h1 |h1 |h1
     ·exact .inr (.inr (.inl ⟨by simp[FL,hwi,hne],h1⟩))
     ·exact .inr (.inr (.inr (.inr h1)))
     exact .inr (.inr (.inr (.inl ⟨by simp[FL,hwi,hne],h1⟩)))
    have e2:CJ δ s.hp (fun k=>listed.getD k false) ops.size=CJ δ s.hp (fun k=>decide (k<i)) ops.size:=by
     funext x;exact zI_ ops.size fun j hj hd=>e1 j hj x hd
    have e3:CJ δ s.hp (fun k=>decide (k<i)) ops.size=CJ δ s.hp (fun k=>decide (k<i)) i:=by
     have:=ZE (δ:=δ) (hp0:=s.hp) i (ops.size-i);rwa [show i+(ops.size-i)=ops.size by omega] at this
    rw[e2,e3];exact WO i fun j hj=>by simp[hj]
   have hnx:(m i).isSome=true->CY m (s.nx+ops.size) (fun _=>true) i=CY m (s.nx+ops.size) (fun k=>listed.getD k false) ops.size:=by
    intro hmi;have e1:CY m (s.nx+ops.size) (fun k=>listed.getD k false) ops.size=CY m (s.nx+ops.size) (fun k=>decide (k<i)) ops.size:=by
     refine WN ops.size fun j hj hd=> ?_;obtain⟨oj,hoj⟩:=hops j hj;refine agree j hj oj hoj ?_;rw[<-hgs j hj] at hd;rw[<-hgs i hlt] at hmi;rcases Oa j i with h1 |h1 |h1
     ·exact .inr (.inr (.inl ⟨Pt (by simp only[IF,LP,Li];exact .inr ⟨hd,hmi⟩),h1⟩))
     ·exact .inr (.inr (.inr (.inr h1)))
     exact .inr (.inr (.inr (.inl ⟨Pt (by simp only[IF,LP,Li];exact .inr ⟨hmi,hd⟩),h1⟩)))
    have e2:CY m (s.nx+ops.size) (fun k=>decide (k<i)) ops.size=CY m (s.nx+ops.size) (fun k=>decide (k<i)) i:=by
     have:=fX (m:=m) (nx:=s.nx+ops.size) i (ops.size-i);rwa [show i+(ops.size-i)=ops.size by omega] at this
    rw[e1,e2];exact ZC i fun j hj=>by simp[hj]
   have efr:CU ops v s.fr (fun k=>(listed.setIfInBounds i true).getD k false) ops.size=A7 o.dst (v i) (CU ops v s.fr (fun k=>listed.getD k false) ops.size):=by
    have:=pC (ops:=ops) (v:=v) (fr0:=s.fr) (S:=fun k=>listed.getD k false) (S':=fun k=>(listed.setIfInBounds i true).getD k false) (i:=i) hS' ops.size hlt fun j h1 h2 h3 d hd hd2=>by
     obtain⟨oj,hoj⟩:=hops j h2;rw[ho] at hd;rw[hoj] at hd2;simp only[NR] at hd hd2
     have:=agree j h2 oj hoj (.inr (.inl ⟨by simp[Me,hd,hd2],h1⟩));rw[this] at h3;simp at h3;omega
    rw[this,ho];rfl
   have ehp:CJ δ s.hp (fun k=>(listed.setIfInBounds i true).getD k false) ops.size=Av (δ i) (CJ δ s.hp (fun k=>listed.getD k false) ops.size):=by
    refine pD hS' ops.size hlt fun j h1 h2 h3 x hx hx2=> ?_;obtain⟨oj,hoj⟩:=hops j h2;rw[<-hks i hlt] at hx;rw[<-hks j h2] at hx2
    have:=agree j h2 oj hoj (.inr (.inr (.inr (.inl ⟨Pt (by simp only[IF,LP];exact .inl (.inl (ZJ hx (Ls.2 (.inr hx2))))),h1⟩))));rw[this] at h3;simp at h3;omega
   have enx:CY m (s.nx+ops.size) (fun k=>(listed.setIfInBounds i true).getD k false) ops.size=(m i).getD (CY m (s.nx+ops.size) (fun k=>listed.getD k false) ops.size):=by
    refine pB hS' ops.size hlt fun j h1 h2 h3 hmi=> ?_;obtain⟨oj,hoj⟩:=hops j h2;cases hmj:(m j).isSome with
    |false=>rfl
    |true=>
     rw[<-hgs i hlt] at hmi;rw[<-hgs j h2] at hmj
     have:=agree j h2 oj hoj (.inr (.inr (.inr (.inl ⟨Pt (by simp only[IF,LP,Li];exact .inr ⟨hmi,hmj⟩),h1⟩))));rw[this] at h3;simp at h3;omega
   have hrest:=ih (t / (List.filter (fun i=> !listed.getD i true&&((ops[i]?).map (·.after.all fun e=> !Region.binds .any e||listed.getD e.on false)).getD false) (List.range ops.size)).length) (listed.setIfInBounds i true) (by simpa using hs) (by
    rw[Ou];have hlt2:i<listed.toList.length:=(by simp;omega);have hget:listed.toList[i]=false:=by
     rw[LA (by omega)] at hli;simpa using hli
    rw[List.count_set hlt2,hget,hc];simp) hcl'
   rw[efr,ehp,enx] at hrest;unfold WL;rw[ho];refine pF ?_;simp only;rcases hsi with⟨h1,h2,h3,h4⟩ |⟨h1,h2,h3,h4,h5⟩
   ·left;refine⟨by rw[<-fZ hfr];exact h1,?_⟩;refine pI (v:=v i) (δ:=δ i) (pJ h2 (pG hfr) (fun x hx=>hhp x hx) hhw hnx) ?_;exact hrest
   right;refine⟨by rw[<-fZ hfr];exact h1,?_⟩;rw[h2,h3,h4] at hrest;exact hrest
 intro t
 have:=main ops.size t (Array.replicate ops.size false) (by simp) (by simp[]) (fun i o _ hi=>by
  simp only[LG,Array.getElem?_replicate] at hi;split at hi<;>cases hi)
 have hno:∀j,j<ops.size->(Array.replicate ops.size false).getD j false=(fun _=>false) j:=fun j hj=>by simp[LG,hj]
 have z1:∀n,CU ops v s.fr (fun _=>false) n=s.fr:=fun n=>by
  induction n with |zero=>rfl |succ n ih=>simp[CU,ih]
 have z2:∀n,CJ δ s.hp (fun _=>false) n=s.hp:=fun n=>by
  induction n with |zero=>rfl |succ n ih=>simp[CJ,ih]
 have z3:∀n,CY m (s.nx+ops.size) (fun _=>false) n=s.nx+ops.size:=fun n=>by
  induction n with |zero=>rfl |succ n ih=>simp[CY,ih]
 rw[ZG ops.size hno,WO ops.size hno,ZC ops.size hno,z1,z2,z3] at this;exact this
end
end Go.Proofs.YtnmkbmefohakmaaGreat.Ab
