/-
 Open orders: the order of the text is enough.
-/
import Derived.Test.YtnmkbmefohakmaaGreatAbE
set_option linter.all false
namespace Go.Proofs.YtnmkbmefohakmaaGreat.Ab
open Go.RowKit
variable {ops:Array Oper}
section
variable {P:Program}{tab:Nat->TI}
theorem bv {xs a:List Nat}{x:Nat}(b:x∈xs)(c:x∈a):De xs a=true:=Nh.2 ⟨x,b,by simpa using c⟩
theorem jq (h:KS ops=true){i:Nat}{o:Oper}(a:ops[i]? =some o):∀k∈Gk o,k<i:=by
 intro k b;have c:(o,i)∈ops.toList.zipIdx:=by
  rw[N3];exact⟨i,by simp[O3,a]⟩
 have:=LP.1 (LP.1 h _ c) k b;simpa using this
theorem tM {o:Oper}{e:Edge}(a:e∈o.after.toList)(b:Region.binds .any e=true):e.on∈Gk o:=by
 unfold Gk;exact OA.2 ⟨e,a,by simp[b]⟩
theorem YN {rs:List Cx}(h:TN ops (Mr ops) rs=true){i j:Nat}(k:i<j)(l:j<ops.size){a b:Oper}(m:ops[i]? =some a)(n:ops[j]? =some b){e f:Cx}(o:rs[i]? =some e)(p:rs[j]? =some f)(c:Ph ops a b=true\/F1 e f=true):i∈(Mr ops).getD j []:=by
 have:=LP.1 (LP.1 h j (N9.2 l)) i (N9.2 k);rw[m,n,o,p] at this;simp only[LR,Ln,NF] at this;rcases this with d |⟨d,g⟩
 ·simpa using d
 rcases c with c |c
 ·rw[c] at d;cases d
 rw[c] at g;cases g
theorem tN {l:List Bool}(h:l.count false=0):∀(i:Nat),i<l.length->l[i]? =some true:=by
 intro i a
 have:=List.count_eq_zero.1 h;rw[Le a];cases b:l[i] with
 |true=>rfl
 |false=>exact absurd (b▸LZ a) this
theorem RM {id:Nat}{Q:Ex->St->Prop}{s:St}(h:WD P tab ops s.nx (Q .normal) (s.nx+ops.size) 0 ops.toList [] s.fr s.hp):W P tab (.region id ops true) Q s:=by
 obtain⟨v,δ,rc,m,_,hsat,hok,hK⟩:=jp (nxb:=s.nx+ops.size) (fr0:=s.fr) (hp0:=s.hp) ops.toList 0 [] (fun _=>.un) (fun _=>[]) (fun _=>⟨[],[],false⟩) (fun _=>none) (by simp) (fun k o h=>by simpa using h) rfl h;simp only[HT,Ln] at hok;obtain⟨hearly,hpairs⟩:=hok;have hrc:∀k,k<ops.size->((List.range ops.size).map rc)[k]? =some (rc k):=fun k hk=>by rw[Lp,Bk hk];rfl
 let Cl (S:Nat->Bool):Prop:=∀(i:Nat) (o:Oper),ops[i]? =some o->S i=true->∀k∈Gk o,S k=true;have hpre:∀i j,j∈(Mr ops).getD i []->j<i/\∀S,Cl S->S i=true->S j=true:=
  tC (fun k i=>k<i/\∀S,Cl S->S i=true->S k=true) (fun i j k h1 h2=>⟨by omega,fun S hS hk=>h1.2 S hS (h2.2 S hS hk)⟩) fun i o ho k hk=>⟨jq hearly ho k hk,fun S hS hi=>hS i o ho hi k hk⟩
 have main:∀(fuel t:Nat) (listed:Array Bool),listed.size=ops.size->listed.toList.count false=fuel->Cl (fun k=>listed.getD k false)->
   WL P tab ops s.nx (Q .normal) (Region.linearise.go .any ops fuel t listed []) ⟨Ch ops v s.fr (fun k=>listed.getD k false) ops.size,CV δ s.hp (fun k=>listed.getD k false) ops.size,Co m (s.nx+ops.size) (fun k=>listed.getD k false) ops.size⟩:=by
  intro fuel;induction fuel with
  |zero=>
   intro t listed hs hc _;have hall:∀j,j<ops.size->(fun k=>listed.getD k false) j=(fun _=>true) j:=fun j hj=>by
    have:=tN hc j (by simpa [hs] using hj);simp only[NT] at this;simp[LI,this]
   simp only[Region.linearise.go,Np,WL];rw[bp ops.size hall,YM ops.size hall,bk ops.size hall];exact hK
  |succ fuel ih=>
   intro t listed hs hc hcl;simp only[Region.linearise.go];split;rotate_left
   ·rename_i hnone;exfalso;have hex:∃i,i<ops.size/\listed.getD i false=false:=by
     have hpos:0<listed.toList.count false:=by omega
     have:=List.count_pos_iff.1 hpos;obtain⟨i,hi⟩:=N3.1 this;have hlt:=(Lb.1 hi).1;refine⟨i,by simp[hs] at hlt;exact hlt,?_⟩;rw[NT] at hi;rw[LI,hi];rfl
    have hmin:∀n,∀i,i<=n->i<ops.size->listed.getD i false=false->∃k,k<ops.size/\listed.getD k false=false/\∀j,j<k->listed.getD j false=true:=by
     intro n;induction n with
     |zero=>
      intro i hi h1 h2;exact⟨i,h1,h2,fun j hj=>by omega⟩
     |succ n ihn=>
      intro i hi h1 h2;by_cases hall:∀j,j<i->listed.getD j false=true
      ·exact⟨i,h1,h2,hall⟩
      have:∃j,j<i/\listed.getD j false=false:=by
       refine Bx fun hno=>hall fun j hj=> ?_;cases hb:listed.getD j false with |true=>rfl |false=>exact absurd ⟨j,hj,hb⟩ hno
      obtain⟨j,h3,h4⟩:=this;exact ihn j (by omega) (by omega) h4
    obtain⟨i,h1,h2⟩:=hex;obtain⟨k,h3,h4,h5⟩:=hmin i i (Lc _) h1 h2;have hk:ops[k]? =some ops[k]:=LD h3;generalize ops[k]=ok at hk;have hready:k∈List.filter (fun i=> !listed.getD i true&&((ops[i]?).map (·.after.all fun e=> !Region.binds .any e||listed.getD e.on false)).getD false) (List.range ops.size):=by
     simp only[Nb,N9,Ln,NF];refine⟨h3,?_,?_⟩
     ·rw[LI] at h4⊢;rw[LD (by omega)] at h4⊢;simpa using h4
     rw[hk];simp only[LQ,Nw,Oi];intro e he;cases hb:Region.binds .any e with
     |false=>rfl
     |true=>
      have:=jq hearly hk e.on (tM (by simpa using he) hb);simp[h5 _ this]
    generalize List.filter (fun i=> !listed.getD i true&&((ops[i]?).map (·.after.all fun e=> !Region.binds .any e||listed.getD e.on false)).getD false) (List.range ops.size)=rs at hnone hready;have hpos:0<rs.length:=List.length_pos_of_mem hready;rw[Le (On _ hpos)] at hnone;cases hnone
   rename_i i hi;rw[linearise_go_acc,OS,OV];have hmem:=Lz hi;simp only[Nb,N9,Ln,NF] at hmem;obtain⟨hlt,hni,hdeps⟩:=hmem;have hli:listed[i]? =some false:=by
    rw[LI] at hni;rw[LD (by omega)] at hni⊢;simpa using hni
   have hSi:listed.getD i false=false:=(by rw[LI,hli];rfl);have ho:ops[i]? =some ops[i]:=LD hlt;generalize ops[i]=o at ho;rw[ho] at hdeps;simp only[LQ,Nw,Oi] at hdeps;have hdirs:∀k∈Gk o,listed.getD k false=true:=fun k hk=>by
    obtain⟨e,he,hk2⟩:=OA.1 hk;split at hk2
    ·rename_i hb;cases hk2
     have:=hdeps e (by simpa using he);simpa [hb] using this
    cases hk2
   have hS':∀j,(listed.setIfInBounds i true).getD j false=(listed.getD j false||j==i):=fun j=>by
    simp only[LI];by_cases e:i=j
    ·subst e;rw[BY (by omega)];simp
    rw[BE e]
    have:(j==i)=false:=(by simpa using fun h:j=i=>e h.symm);simp[this]
   have hcl':Cl (fun k=>(listed.setIfInBounds i true).getD k false):=by
    intro j oj hoj hj k hk;simp only[hS',LR,beq_iff_eq] at hj⊢;rcases hj with hj |rfl
    ·exact .inl (hcl j oj hoj hj k hk)
    rw[ho] at hoj;cases hoj;exact .inl (hdirs k hk)
   have hfore:∀j,j∈(Mr ops).getD i []->listed.getD j false=true:=fun j hj=>by
    obtain⟨h1,h2⟩:=hpre i j hj
    have:=h2 _ hcl' (by simp[hS']);simp only[hS',LR,beq_iff_eq] at this;rcases this with h3 |h3
    ·exact h3
    omega
   have hafter:∀j,i∈(Mr ops).getD j []->listed.getD j false=false:=fun j hj=>by
    obtain⟨h1,h2⟩:=hpre j i hj;cases hb:listed.getD j false with
    |false=>rfl
    |true=>
     have:=h2 _ hcl hb;simp only[hSi] at this;cases this
   have agree:∀j,j<ops.size->∀oj,ops[j]? =some oj->(Ph ops oj o=true/\j<i\/Ph ops o oj=true/\i<j\/F1 (rc j) (rc i)=true/\j<i\/F1 (rc i) (rc j)=true/\i<j\/j=i)->listed.getD j false=decide (j<i):=by
    intro j hj oj hoj hcase;rcases hcase with⟨h1,h2⟩ |⟨h1,h2⟩ |⟨h1,h2⟩ |⟨h1,h2⟩ |rfl
    ·rw[hfore j (YN hpairs h2 hlt hoj ho (hrc j hj) (hrc i hlt) (.inl h1))];simp[h2]
    ·rw[hafter j (YN hpairs h2 hj ho hoj (hrc i hlt) (hrc j hj) (.inl h1))];simp;omega
    ·rw[hfore j (YN hpairs h2 hlt hoj ho (hrc j hj) (hrc i hlt) (.inr h1))];simp[h2]
    ·rw[hafter j (YN hpairs h2 hj ho hoj (hrc i hlt) (hrc j hj) (.inr h1))];simp;omega
    rw[hSi];simp
   have hops:∀j,j<ops.size->∃oj,ops[j]? =some oj:=fun j hj=>⟨_,LD hj⟩;have hks:∀j,j<ops.size->(rc j).ks=(δ j).map (·.1):=fun j hj=>by
    obtain⟨oj,hoj⟩:=hops j hj;exact(hsat j oj (Lg _) hoj).ks.1
   have hgs:∀j,j<ops.size->(rc j).g=(m j).isSome:=fun j hj=>by
    obtain⟨oj,hoj⟩:=hops j hj;exact(hsat j oj (Lg _) hoj).ks.2
   have hfr:∀t∈RK ops o,Ch ops v s.fr (fun _=>true) i t=Ch ops v s.fr (fun k=>listed.getD k false) ops.size t:=by
    intro t ht;have e1:Ch ops v s.fr (fun k=>listed.getD k false) ops.size t=Ch ops v s.fr (fun k=>decide (k<i)) ops.size t:=by
     refine wV_ ops.size fun j hj hd=> ?_;obtain⟨oj,hoj⟩:=hops j hj;rw[hoj] at hd;simp only[LU] at hd;refine agree j hj oj hoj ?_;rcases Og j i with h1 |h1 |h1
     ·exact .inl ⟨by simp[Ph,hd];exact .inl (.inl ht),h1⟩
     ·exact .inr (.inr (.inr (.inr h1)))
     exact .inr (.inl ⟨by simp[Ph,hd];exact .inr ht,h1⟩)
    have e2:Ch ops v s.fr (fun k=>decide (k<i)) ops.size=Ch ops v s.fr (fun k=>decide (k<i)) i:=by
     have:=jn (ops:=ops) (v:=v) (fr0:=s.fr) i (ops.size-i);rwa [show i+(ops.size-i)=ops.size by omega] at this
    rw[e1,e2];exact congrFun (bp i fun j hj=>by simp[hj]) t
   have hsi:=hsat i o (Lg _) ho;have hhp:∀x∈(rc i).ids,CV δ s.hp (fun _=>true) i x=CV δ s.hp (fun k=>listed.getD k false) ops.size x:=by
    intro x hx;have e1:CV δ s.hp (fun k=>listed.getD k false) ops.size x=CV δ s.hp (fun k=>decide (k<i)) ops.size x:=by
     refine vE_ ops.size fun j hj hd=> ?_;obtain⟨oj,hoj⟩:=hops j hj;rw[<-hks j hj] at hd;refine agree j hj oj hoj ?_;rcases Og j i with h1 |h1 |h1
     ·exact .inr (.inr (.inl ⟨RJ (by simp only[Jb,LR];exact .inl (.inl (bv hd (Ly.2 (.inl hx))))),h1⟩))
     ·exact .inr (.inr (.inr (.inr h1)))
     exact .inr (.inr (.inr (.inl ⟨RJ (by simp only[Jb,LR];exact .inl (.inr (bv hd hx))),h1⟩)))
    have e2:CV δ s.hp (fun k=>decide (k<i)) ops.size=CV δ s.hp (fun k=>decide (k<i)) i:=by
     have:=bn (δ:=δ) (hp0:=s.hp) i (ops.size-i);rwa [show i+(ops.size-i)=ops.size by omega] at this
    rw[e1,e2];exact congrFun (YM i fun j hj=>by simp[hj]) x
   have hhw:(m i).isSome=true->Df∈(rc i).ids->CV δ s.hp (fun _=>true) i=CV δ s.hp (fun k=>listed.getD k false) ops.size:=by
    intro hmi hw;have hwi:Ff (rc i)=true:=by
     rw[<-hgs i hlt] at hmi;simpa [Ff,hmi] using hw
    have e1:∀j,j<ops.size->∀x,x∈(δ j).map (·.1)->listed.getD j false=decide (j<i):=fun j hj x hd=>by
     obtain⟨oj,hoj⟩:=hops j hj;refine agree j hj oj hoj ?_;rw[<-hks j hj] at hd;have hne:(rc j).ks.isEmpty=false:=by
      cases e:(rc j).ks with |nil=>rw[e] at hd;cases hd |cons _ _=>rfl
     rcases Og j i with h1 |h1 |h1
     ·exact .inr (.inr (.inl ⟨by simp[F1,hwi,hne],h1⟩))
     ·exact .inr (.inr (.inr (.inr h1)))
     exact .inr (.inr (.inr (.inl ⟨by simp[F1,hwi,hne],h1⟩)))
    have e2:CV δ s.hp (fun k=>listed.getD k false) ops.size=CV δ s.hp (fun k=>decide (k<i)) ops.size:=by
     funext x;exact vE_ ops.size fun j hj hd=>e1 j hj x hd
    have e3:CV δ s.hp (fun k=>decide (k<i)) ops.size=CV δ s.hp (fun k=>decide (k<i)) i:=by
     have:=bn (δ:=δ) (hp0:=s.hp) i (ops.size-i);rwa [show i+(ops.size-i)=ops.size by omega] at this
    rw[e2,e3];exact YM i fun j hj=>by simp[hj]
   have hnx:(m i).isSome=true->Co m (s.nx+ops.size) (fun _=>true) i=Co m (s.nx+ops.size) (fun k=>listed.getD k false) ops.size:=by
    intro hmi;have e1:Co m (s.nx+ops.size) (fun k=>listed.getD k false) ops.size=Co m (s.nx+ops.size) (fun k=>decide (k<i)) ops.size:=by
     refine YL ops.size fun j hj hd=> ?_;obtain⟨oj,hoj⟩:=hops j hj;refine agree j hj oj hoj ?_;rw[<-hgs j hj] at hd;rw[<-hgs i hlt] at hmi;rcases Og j i with h1 |h1 |h1
     ·exact .inr (.inr (.inl ⟨RJ (by simp only[Jb,LR,Ln];exact .inr ⟨hd,hmi⟩),h1⟩))
     ·exact .inr (.inr (.inr (.inr h1)))
     exact .inr (.inr (.inr (.inl ⟨RJ (by simp only[Jb,LR,Ln];exact .inr ⟨hmi,hd⟩),h1⟩)))
    have e2:Co m (s.nx+ops.size) (fun k=>decide (k<i)) ops.size=Co m (s.nx+ops.size) (fun k=>decide (k<i)) i:=by
     have:=jm (m:=m) (nx:=s.nx+ops.size) i (ops.size-i);rwa [show i+(ops.size-i)=ops.size by omega] at this
    rw[e1,e2];exact bk i fun j hj=>by simp[hj]
   have efr:Ch ops v s.fr (fun k=>(listed.setIfInBounds i true).getD k false) ops.size=CJ o.dst (v i) (Ch ops v s.fr (fun k=>listed.getD k false) ops.size):=by
    have:=tE (ops:=ops) (v:=v) (fr0:=s.fr) (S:=fun k=>listed.getD k false) (S':=fun k=>(listed.setIfInBounds i true).getD k false) (i:=i) hS' ops.size hlt fun j h1 h2 h3 d hd hd2=>by
     obtain⟨oj,hoj⟩:=hops j h2;rw[ho] at hd;rw[hoj] at hd2;simp only[LU] at hd hd2
     have:=agree j h2 oj hoj (.inr (.inl ⟨by simp[Ph,hd,hd2],h1⟩));rw[this] at h3;simp at h3;omega
    rw[this,ho];rfl
   have ehp:CV δ s.hp (fun k=>(listed.setIfInBounds i true).getD k false) ops.size=CC (δ i) (CV δ s.hp (fun k=>listed.getD k false) ops.size):=by
    refine tF hS' ops.size hlt fun j h1 h2 h3 x hx hx2=> ?_;obtain⟨oj,hoj⟩:=hops j h2;rw[<-hks i hlt] at hx;rw[<-hks j h2] at hx2
    have:=agree j h2 oj hoj (.inr (.inr (.inr (.inl ⟨RJ (by simp only[Jb,LR];exact .inl (.inl (bv hx (Ly.2 (.inr hx2))))),h1⟩))));rw[this] at h3;simp at h3;omega
   have enx:Co m (s.nx+ops.size) (fun k=>(listed.setIfInBounds i true).getD k false) ops.size=(m i).getD (Co m (s.nx+ops.size) (fun k=>listed.getD k false) ops.size):=by
    refine tD hS' ops.size hlt fun j h1 h2 h3 hmi=> ?_;obtain⟨oj,hoj⟩:=hops j h2;cases hmj:(m j).isSome with
    |false=>rfl
    |true=>
     rw[<-hgs i hlt] at hmi;rw[<-hgs j h2] at hmj
     have:=agree j h2 oj hoj (.inr (.inr (.inr (.inl ⟨RJ (by simp only[Jb,LR,Ln];exact .inr ⟨hmi,hmj⟩),h1⟩))));rw[this] at h3;simp at h3;omega
   have hrest:=ih (t / (List.filter (fun i=> !listed.getD i true&&((ops[i]?).map (·.after.all fun e=> !Region.binds .any e||listed.getD e.on false)).getD false) (List.range ops.size)).length) (listed.setIfInBounds i true) (by simpa using hs) (by
    rw[OE];have hlt2:i<listed.toList.length:=(by simp;omega);have hget:listed.toList[i]=false:=by
     rw[LD (by omega)] at hli;simpa using hli
    rw[List.count_set hlt2,hget,hc];simp) hcl'
   rw[efr,ehp,enx] at hrest;unfold WL;rw[ho];refine tH ?_;simp only;rcases hsi with⟨h1,h2,h3,h4⟩ |⟨h1,h2,h3,h4,h5⟩
   ·left;refine⟨by rw[<-jo hfr];exact h1,?_⟩;refine tK (v:=v i) (δ:=δ i) (tL h2 (tI hfr) (fun x hx=>hhp x hx) hhw hnx) ?_;exact hrest
   right;refine⟨by rw[<-jo hfr];exact h1,?_⟩;rw[h2,h3,h4] at hrest;exact hrest
 intro t
 have:=main ops.size t (Array.replicate ops.size false) (by simp) (by simp[]) (fun i o _ hi=>by
  simp only[LI,Array.getElem?_replicate] at hi;split at hi<;>cases hi)
 have hno:∀j,j<ops.size->(Array.replicate ops.size false).getD j false=(fun _=>false) j:=fun j hj=>by simp[LI,hj]
 have z1:∀n,Ch ops v s.fr (fun _=>false) n=s.fr:=fun n=>by
  induction n with |zero=>rfl |succ n ih=>simp[Ch,ih]
 have z2:∀n,CV δ s.hp (fun _=>false) n=s.hp:=fun n=>by
  induction n with |zero=>rfl |succ n ih=>simp[CV,ih]
 have z3:∀n,Co m (s.nx+ops.size) (fun _=>false) n=s.nx+ops.size:=fun n=>by
  induction n with |zero=>rfl |succ n ih=>simp[Co,ih]
 rw[bp ops.size hno,YM ops.size hno,bk ops.size hno,z1,z2,z3] at this;exact this
end
end Go.Proofs.YtnmkbmefohakmaaGreat.Ab
