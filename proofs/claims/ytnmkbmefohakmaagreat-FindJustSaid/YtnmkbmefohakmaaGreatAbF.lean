/-
 Open orders: the order of the text is enough.
-/
import Derived.Test.YtnmkbmefohakmaaGreatAbE
set_option linter.all false
namespace Go.Proofs.YtnmkbmefohakmaaGreat.Ab
open Go.RowKit
variable {ops:Array Oper}
section
variable {P:Program}{tab:Nat->TI}
theorem aP {xs a:List Nat}{x:Nat}(b:x∈xs)(c:x∈a):De xs a=true:=Nq.2 ⟨x,b,by simpa using c⟩
theorem iM (h:Jh ops=true){i:Nat}{o:Oper}(a:ops[i]? =some o):∀k∈GL o,k<i:=by
 intro k b;have c:(o,i)∈ops.toList.zipIdx:=by
  rw[NX];exact⟨i,by simp[O1,a]⟩
 have:=LP.1 (LP.1 h _ c) k b;simpa using this
theorem r9 {o:Oper}{e:Edge}(a:e∈o.after.toList)(b:Region.binds .any e=true):e.on∈GL o:=by
 unfold GL;exact Ov.2 ⟨e,a,by simp[b]⟩
theorem XK {rs:List C7}(h:SJ ops (Kx ops) rs=true){i j:Nat}(k:i<j)(l:j<ops.size){a b:Oper}(m:ops[i]? =some a)(n:ops[j]? =some b){e f:C7}(o:rs[i]? =some e)(p:rs[j]? =some f)(c:Mn ops a b=true\/Fl e f=true):i∈(Kx ops).getD j []:=by
 have:=LP.1 (LP.1 h j (N3.2 l)) i (N3.2 k);rw[m,n,o,p] at this;simp only[LQ,Lm,NN] at this;rcases this with d |⟨d,g⟩
 ·simpa using d
 rcases c with c |c
 ·rw[c] at d;cases d
 rw[c] at g;cases g
theorem sA {l:List Bool}(h:l.count false=0):∀(i:Nat),i<l.length->l[i]? =some true:=by
 intro i a
 have:=List.count_eq_zero.1 h;rw[Le a];cases b:l[i] with
 |true=>rfl
 |false=>exact absurd (b▸LN a) this
theorem QF {id:Nat}{Q:Ex->St->Prop}{s:St}(h:WD P tab ops s.nx (Q .normal) (s.nx+ops.size) 0 ops.toList [] s.fr s.hp):W P tab (.region id ops true) Q s:=by
 obtain⟨v,δ,rc,m,_,hsat,hok,hK⟩:=iL (nxb:=s.nx+ops.size) (fr0:=s.fr) (hp0:=s.hp) ops.toList 0 [] (fun _=>.un) (fun _=>[]) (fun _=>⟨[],[],false⟩) (fun _=>none) (by simp) (fun k o h=>by simpa using h) rfl h;simp only[Gz,Lm] at hok;obtain⟨hearly,hpairs⟩:=hok;have hrc:∀k,k<ops.size->((List.range ops.size).map rc)[k]? =some (rc k):=fun k hk=>by rw[Ln,Bd hk];rfl
 let Cl (S:Nat->Bool):Prop:=∀(i:Nat) (o:Oper),ops[i]? =some o->S i=true->∀k∈GL o,S k=true;have hpre:∀i j,j∈(Kx ops).getD i []->j<i/\∀S,Cl S->S i=true->S j=true:=
  rj (fun k i=>k<i/\∀S,Cl S->S i=true->S k=true) (fun i j k h1 h2=>⟨by omega,fun S hS hk=>h1.2 S hS (h2.2 S hS hk)⟩) fun i o ho k hk=>⟨iM hearly ho k hk,fun S hS hi=>hS i o ho hi k hk⟩
 have main:∀(fuel t:Nat) (listed:Array Bool),listed.size=ops.size->listed.toList.count false=fuel->Cl (fun k=>listed.getD k false)->
   WL P tab ops s.nx (Q .normal) (Region.linearise.go .any ops fuel t listed []) ⟨Co ops v s.fr (fun k=>listed.getD k false) ops.size,CY δ s.hp (fun k=>listed.getD k false) ops.size,Cv m (s.nx+ops.size) (fun k=>listed.getD k false) ops.size⟩:=by
  intro fuel;induction fuel with
  |zero=>
   intro t listed hs hc _;have hall:∀j,j<ops.size->(fun k=>listed.getD k false) j=(fun _=>true) j:=fun j hj=>by
    have:=sA hc j (by simpa [hs] using hj);simp only[NQ] at this;simp[LJ,this]
   simp only[Region.linearise.go,Nr,WL];rw[aM ops.size hall,XJ ops.size hall,aJ ops.size hall];exact hK
  |succ fuel ih=>
   intro t listed hs hc hcl;simp only[Region.linearise.go];split;rotate_left
   ·rename_i hnone;exfalso;have hex:∃i,i<ops.size/\listed.getD i false=false:=by
     have hpos:0<listed.toList.count false:=by omega
     have:=List.count_pos_iff.1 hpos;obtain⟨i,hi⟩:=NX.1 this;have hlt:=(Lb.1 hi).1;refine⟨i,by simp[hs] at hlt;exact hlt,?_⟩;rw[NQ] at hi;rw[LJ,hi];rfl
    have hmin:∀n,∀i,i<=n->i<ops.size->listed.getD i false=false->∃k,k<ops.size/\listed.getD k false=false/\∀j,j<k->listed.getD j false=true:=by
     intro n;induction n with
     |zero=>
      intro i hi h1 h2;exact⟨i,h1,h2,fun j hj=>by omega⟩
     |succ n ihn=>
      intro i hi h1 h2;by_cases hall:∀j,j<i->listed.getD j false=true
      ·exact⟨i,h1,h2,hall⟩
      have:∃j,j<i/\listed.getD j false=false:=by
       refine B6 fun hno=>hall fun j hj=> ?_;cases hb:listed.getD j false with |true=>rfl |false=>exact absurd ⟨j,hj,hb⟩ hno
      obtain⟨j,h3,h4⟩:=this;exact ihn j (by omega) (by omega) h4
    obtain⟨i,h1,h2⟩:=hex;obtain⟨k,h3,h4,h5⟩:=hmin i i (Lc _) h1 h2;have hk:ops[k]? =some ops[k]:=LC h3;generalize ops[k]=ok at hk;have hready:k∈List.filter (fun i=> !listed.getD i true&&((ops[i]?).map (·.after.all fun e=> !Region.binds .any e||listed.getD e.on false)).getD false) (List.range ops.size):=by
     simp only[LO,N3,Lm,NN];refine⟨h3,?_,?_⟩
     ·rw[LJ] at h4⊢;rw[LC (by omega)] at h4⊢;simpa using h4
     rw[hk];simp only[LT,Nw,Oi];intro e he;cases hb:Region.binds .any e with
     |false=>rfl
     |true=>
      have:=iM hearly hk e.on (r9 (by simpa using he) hb);simp[h5 _ this]
    generalize List.filter (fun i=> !listed.getD i true&&((ops[i]?).map (·.after.all fun e=> !Region.binds .any e||listed.getD e.on false)).getD false) (List.range ops.size)=rs at hnone hready;have hpos:0<rs.length:=OR hready;rw[Le (Om _ hpos)] at hnone;cases hnone
   rename_i i hi;rw[linearise_go_acc,OQ,OT];have hmem:=Ly hi;simp only[LO,N3,Lm,NN] at hmem;obtain⟨hlt,hni,hdeps⟩:=hmem;have hli:listed[i]? =some false:=by
    rw[LJ] at hni;rw[LC (by omega)] at hni⊢;simpa using hni
   have hSi:listed.getD i false=false:=(by rw[LJ,hli];rfl);have ho:ops[i]? =some ops[i]:=LC hlt;generalize ops[i]=o at ho;rw[ho] at hdeps;simp only[LT,Nw,Oi] at hdeps;have hdirs:∀k∈GL o,listed.getD k false=true:=fun k hk=>by
    obtain⟨e,he,hk2⟩:=Ov.1 hk;split at hk2
    ·rename_i hb;cases hk2
     have:=hdeps e (by simpa using he);simpa [hb] using this
    cases hk2
   have hS':∀j,(listed.setIfInBounds i true).getD j false=(listed.getD j false||j==i):=fun j=>by
    simp only[LJ];by_cases e:i=j
    ·subst e;rw[BU (by omega)];simp
    rw[By e]
    have:(j==i)=false:=(by simpa using fun h:j=i=>e h.symm);simp[this]
   have hcl':Cl (fun k=>(listed.setIfInBounds i true).getD k false):=by
    intro j oj hoj hj k hk;simp only[hS',LQ,beq_iff_eq] at hj⊢;rcases hj with hj |rfl
    ·exact .inl (hcl j oj hoj hj k hk)
    rw[ho] at hoj;cases hoj;exact .inl (hdirs k hk)
   have hfore:∀j,j∈(Kx ops).getD i []->listed.getD j false=true:=fun j hj=>by
    obtain⟨h1,h2⟩:=hpre i j hj
    have:=h2 _ hcl' (by simp[hS']);simp only[hS',LQ,beq_iff_eq] at this;rcases this with h3 |h3
    ·exact h3
    omega
   have hafter:∀j,i∈(Kx ops).getD j []->listed.getD j false=false:=fun j hj=>by
    obtain⟨h1,h2⟩:=hpre j i hj;cases hb:listed.getD j false with
    |false=>rfl
    |true=>
     have:=h2 _ hcl hb;simp only[hSi] at this;cases this
   have agree:∀j,j<ops.size->∀oj,ops[j]? =some oj->(Mn ops oj o=true/\j<i\/Mn ops o oj=true/\i<j\/Fl (rc j) (rc i)=true/\j<i\/Fl (rc i) (rc j)=true/\i<j\/j=i)->listed.getD j false=decide (j<i):=by
    intro j hj oj hoj hcase;rcases hcase with⟨h1,h2⟩ |⟨h1,h2⟩ |⟨h1,h2⟩ |⟨h1,h2⟩ |rfl
    ·rw[hfore j (XK hpairs h2 hlt hoj ho (hrc j hj) (hrc i hlt) (.inl h1))];simp[h2]
    ·rw[hafter j (XK hpairs h2 hj ho hoj (hrc i hlt) (hrc j hj) (.inl h1))];simp;omega
    ·rw[hfore j (XK hpairs h2 hlt hoj ho (hrc j hj) (hrc i hlt) (.inr h1))];simp[h2]
    ·rw[hafter j (XK hpairs h2 hj ho hoj (hrc i hlt) (hrc j hj) (.inr h1))];simp;omega
    rw[hSi];simp
   have hops:∀j,j<ops.size->∃oj,ops[j]? =some oj:=fun j hj=>⟨_,LC hj⟩;have hks:∀j,j<ops.size->(rc j).ks=(δ j).map (·.1):=fun j hj=>by
    obtain⟨oj,hoj⟩:=hops j hj;exact(hsat j oj (Lf _) hoj).ks.1
   have hgs:∀j,j<ops.size->(rc j).g=(m j).isSome:=fun j hj=>by
    obtain⟨oj,hoj⟩:=hops j hj;exact(hsat j oj (Lf _) hoj).ks.2
   have hfr:∀t∈QE ops o,Co ops v s.fr (fun _=>true) i t=Co ops v s.fr (fun k=>listed.getD k false) ops.size t:=by
    intro t ht;have e1:Co ops v s.fr (fun k=>listed.getD k false) ops.size t=Co ops v s.fr (fun k=>decide (k<i)) ops.size t:=by
     refine kU_ ops.size fun j hj hd=> ?_;obtain⟨oj,hoj⟩:=hops j hj;rw[hoj] at hd;simp only[LR] at hd;refine agree j hj oj hoj ?_;rcases Od j i with h1 |h1 |h1
     ·exact .inl ⟨by simp[Mn,hd];exact .inl (.inl ht),h1⟩
     ·exact .inr (.inr (.inr (.inr h1)))
     exact .inr (.inl ⟨by simp[Mn,hd];exact .inr ht,h1⟩)
    have e2:Co ops v s.fr (fun k=>decide (k<i)) ops.size=Co ops v s.fr (fun k=>decide (k<i)) i:=by
     have:=iJ (ops:=ops) (v:=v) (fr0:=s.fr) i (ops.size-i);rwa [show i+(ops.size-i)=ops.size by omega] at this
    rw[e1,e2];exact congrFun (aM i fun j hj=>by simp[hj]) t
   have hsi:=hsat i o (Lf _) ho;have hhp:∀x∈(rc i).ids,CY δ s.hp (fun _=>true) i x=CY δ s.hp (fun k=>listed.getD k false) ops.size x:=by
    intro x hx;have e1:CY δ s.hp (fun k=>listed.getD k false) ops.size x=CY δ s.hp (fun k=>decide (k<i)) ops.size x:=by
     refine wr_ ops.size fun j hj hd=> ?_;obtain⟨oj,hoj⟩:=hops j hj;rw[<-hks j hj] at hd;refine agree j hj oj hoj ?_;rcases Od j i with h1 |h1 |h1
     ·exact .inr (.inr (.inl ⟨QD (by simp only[IN,LQ];exact .inl (.inl (aP hd (Lw.2 (.inl hx))))),h1⟩))
     ·exact .inr (.inr (.inr (.inr h1)))
     exact .inr (.inr (.inr (.inl ⟨QD (by simp only[IN,LQ];exact .inl (.inr (aP hd hx))),h1⟩)))
    have e2:CY δ s.hp (fun k=>decide (k<i)) ops.size=CY δ s.hp (fun k=>decide (k<i)) i:=by
     have:=aL (δ:=δ) (hp0:=s.hp) i (ops.size-i);rwa [show i+(ops.size-i)=ops.size by omega] at this
    rw[e1,e2];exact congrFun (XJ i fun j hj=>by simp[hj]) x
   have hhw:(m i).isSome=true->Df∈(rc i).ids->CY δ s.hp (fun _=>true) i=CY δ s.hp (fun k=>listed.getD k false) ops.size:=by
    intro hmi hw;have hwi:FQ (rc i)=true:=by
     rw[<-hgs i hlt] at hmi;simpa [FQ,hmi] using hw
    have e1:∀j,j<ops.size->∀x,x∈(δ j).map (·.1)->listed.getD j false=decide (j<i):=fun j hj x hd=>by
     obtain⟨oj,hoj⟩:=hops j hj;refine agree j hj oj hoj ?_;rw[<-hks j hj] at hd;have hne:(rc j).ks.isEmpty=false:=by
      cases e:(rc j).ks with |nil=>rw[e] at hd;cases hd |cons _ _=>rfl
     rcases Od j i with h1 |h1 |h1
     ·exact .inr (.inr (.inl ⟨by simp[Fl,hwi,hne],h1⟩))
     ·exact .inr (.inr (.inr (.inr h1)))
     exact .inr (.inr (.inr (.inl ⟨by simp[Fl,hwi,hne],h1⟩)))
    have e2:CY δ s.hp (fun k=>listed.getD k false) ops.size=CY δ s.hp (fun k=>decide (k<i)) ops.size:=by
     funext x;exact wr_ ops.size fun j hj hd=>e1 j hj x hd
    have e3:CY δ s.hp (fun k=>decide (k<i)) ops.size=CY δ s.hp (fun k=>decide (k<i)) i:=by
     have:=aL (δ:=δ) (hp0:=s.hp) i (ops.size-i);rwa [show i+(ops.size-i)=ops.size by omega] at this
    rw[e2,e3];exact XJ i fun j hj=>by simp[hj]
   have hnx:(m i).isSome=true->Cv m (s.nx+ops.size) (fun _=>true) i=Cv m (s.nx+ops.size) (fun k=>listed.getD k false) ops.size:=by
    intro hmi;have e1:Cv m (s.nx+ops.size) (fun k=>listed.getD k false) ops.size=Cv m (s.nx+ops.size) (fun k=>decide (k<i)) ops.size:=by
     refine XI ops.size fun j hj hd=> ?_;obtain⟨oj,hoj⟩:=hops j hj;refine agree j hj oj hoj ?_;rw[<-hgs j hj] at hd;rw[<-hgs i hlt] at hmi;rcases Od j i with h1 |h1 |h1
     ·exact .inr (.inr (.inl ⟨QD (by simp only[IN,LQ,Lm];exact .inr ⟨hd,hmi⟩),h1⟩))
     ·exact .inr (.inr (.inr (.inr h1)))
     exact .inr (.inr (.inr (.inl ⟨QD (by simp only[IN,LQ,Lm];exact .inr ⟨hmi,hd⟩),h1⟩)))
    have e2:Cv m (s.nx+ops.size) (fun k=>decide (k<i)) ops.size=Cv m (s.nx+ops.size) (fun k=>decide (k<i)) i:=by
     have:=iI (m:=m) (nx:=s.nx+ops.size) i (ops.size-i);rwa [show i+(ops.size-i)=ops.size by omega] at this
    rw[e1,e2];exact aJ i fun j hj=>by simp[hj]
   have efr:Co ops v s.fr (fun k=>(listed.setIfInBounds i true).getD k false) ops.size=CM o.dst (v i) (Co ops v s.fr (fun k=>listed.getD k false) ops.size):=by
    have:=rp (ops:=ops) (v:=v) (fr0:=s.fr) (S:=fun k=>listed.getD k false) (S':=fun k=>(listed.setIfInBounds i true).getD k false) (i:=i) hS' ops.size hlt fun j h1 h2 h3 d hd hd2=>by
     obtain⟨oj,hoj⟩:=hops j h2;rw[ho] at hd;rw[hoj] at hd2;simp only[LR] at hd hd2
     have:=agree j h2 oj hoj (.inr (.inl ⟨by simp[Mn,hd,hd2],h1⟩));rw[this] at h3;simp at h3;omega
    rw[this,ho];rfl
   have ehp:CY δ s.hp (fun k=>(listed.setIfInBounds i true).getD k false) ops.size=CL (δ i) (CY δ s.hp (fun k=>listed.getD k false) ops.size):=by
    refine rq hS' ops.size hlt fun j h1 h2 h3 x hx hx2=> ?_;obtain⟨oj,hoj⟩:=hops j h2;rw[<-hks i hlt] at hx;rw[<-hks j h2] at hx2
    have:=agree j h2 oj hoj (.inr (.inr (.inr (.inl ⟨QD (by simp only[IN,LQ];exact .inl (.inl (aP hx (Lw.2 (.inr hx2))))),h1⟩))));rw[this] at h3;simp at h3;omega
   have enx:Cv m (s.nx+ops.size) (fun k=>(listed.setIfInBounds i true).getD k false) ops.size=(m i).getD (Cv m (s.nx+ops.size) (fun k=>listed.getD k false) ops.size):=by
    refine rm hS' ops.size hlt fun j h1 h2 h3 hmi=> ?_;obtain⟨oj,hoj⟩:=hops j h2;cases hmj:(m j).isSome with
    |false=>rfl
    |true=>
     rw[<-hgs i hlt] at hmi;rw[<-hgs j h2] at hmj
     have:=agree j h2 oj hoj (.inr (.inr (.inr (.inl ⟨QD (by simp only[IN,LQ,Lm];exact .inr ⟨hmi,hmj⟩),h1⟩))));rw[this] at h3;simp at h3;omega
   have hrest:=ih (t / (List.filter (fun i=> !listed.getD i true&&((ops[i]?).map (·.after.all fun e=> !Region.binds .any e||listed.getD e.on false)).getD false) (List.range ops.size)).length) (listed.setIfInBounds i true) (by simpa using hs) (by
    rw[Oz];have hlt2:i<listed.toList.length:=(by simp;omega);have hget:listed.toList[i]=false:=by
     rw[LC (by omega)] at hli;simpa using hli
    rw[List.count_set hlt2,hget,hc];simp) hcl'
   rw[efr,ehp,enx] at hrest;unfold WL;rw[ho];refine ru ?_;simp only;rcases hsi with⟨h1,h2,h3,h4⟩ |⟨h1,h2,h3,h4,h5⟩
   ·left;refine⟨by rw[<-iK hfr];exact h1,?_⟩;refine r7 (v:=v i) (δ:=δ i) (r8 h2 (rv hfr) (fun x hx=>hhp x hx) hhw hnx) ?_;exact hrest
   right;refine⟨by rw[<-iK hfr];exact h1,?_⟩;rw[h2,h3,h4] at hrest;exact hrest
 intro t
 have:=main ops.size t (Array.replicate ops.size false) (by simp) (by simp[]) (fun i o _ hi=>by
  simp only[LJ,Array.getElem?_replicate] at hi;split at hi<;>cases hi)
 have hno:∀j,j<ops.size->(Array.replicate ops.size false).getD j false=(fun _=>false) j:=fun j hj=>by simp[LJ,hj]
 have z1:∀n,Co ops v s.fr (fun _=>false) n=s.fr:=fun n=>by
  induction n with |zero=>rfl |succ n ih=>simp[Co,ih]
 have z2:∀n,CY δ s.hp (fun _=>false) n=s.hp:=fun n=>by
  induction n with |zero=>rfl |succ n ih=>simp[CY,ih]
 have z3:∀n,Cv m (s.nx+ops.size) (fun _=>false) n=s.nx+ops.size:=fun n=>by
  induction n with |zero=>rfl |succ n ih=>simp[Cv,ih]
 rw[aM ops.size hno,XJ ops.size hno,aJ ops.size hno,z1,z2,z3] at this;exact this
end
end Go.Proofs.YtnmkbmefohakmaaGreat.Ab
