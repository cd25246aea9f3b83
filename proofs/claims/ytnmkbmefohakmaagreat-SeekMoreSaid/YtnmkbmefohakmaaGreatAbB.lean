/-
 Each operation of the machine is the true one.
-/
import Derived.Laws.BytesString
import Derived.MapKept
import Derived.Lib.AppendZeros
import Derived.Laws.MakeOwn
import Derived.Test.YtnmkbmefohakmaaGreatAbA
set_option linter.all false
namespace Go.Proofs.YtnmkbmefohakmaaGreat.Ab
section
theorem Dk {g:Gh}{c:Cf}{ρ:Operand->AV}{a:Act}{x:Operand}{v:AV}(e:ρ x=v)(h:∀x,Am g c (ρ x) (a.eval x)):Am g c v (a.eval x):=e▸h x
theorem V5 {u:Value}(h:u.oneCell'=true):u.cells= #[u]:=by
 cases u<;>first |rfl |(simp[Value.oneCell'] at h)
theorem IB {α:Type}(i:Nat)(xs ys:List α)(h:i+xs.length<=ys.length):(Ct i xs ys).length=ys.length:=by
 simp[Ct];omega
theorem IC {α:Type}(i:Nat)(xs ys:List α)(h:i+xs.length<=ys.length)(j:Nat):(Ct i xs ys)[j]? =if j<i then ys[j]? else if j<i+xs.length then xs[j-i]? else ys[j]? :=by
 have ht:(ys.take i).length=i:=by rw[Lw];omega
 unfold Ct;rw[Lq];by_cases h1:j<i
 ·rw[if_pos h1,Nq (by omega),Nn,if_pos h1]
 rw[if_neg h1,L8 (by omega),ht];by_cases h2:j<i+xs.length
 ·rw[if_pos h2,Nq (by omega)]
 rw[if_neg h2,L8 (by omega),NQ];congr 1;omega
section
variable {P:Program}{tab:Nat->TI}{o:Oper}{a:Act}{g:Gh}{c:Cf}{id:Nat}
theorem TE {x:AV}{cs:List AV}{u:Value}(hc:De x=some cs)(h:Am g c x u):u.cells.size=cs.length/\∀(j:Nat) (y:AV),cs[j]? =some y->∃z,u.cells[j]? =some z/\RA g c y z:=by
 have single:∀ {x:AV} {u:Value},RA g c x u->u.cells.size= [x].length/\∀(j:Nat) (y:AV),[x][j]? =some y->∃z,u.cells[j]? =some z/\RA g c y z:=by
  intro x u h;rw[V5 h.one];refine⟨rfl,fun j y hy=> ?_⟩;cases j with |zero=>simp at hy;subst hy;exact⟨u,rfl,h⟩ |succ j=>simp at hy
 cases x with
 |ag xs=>
  simp only[De,Le] at hc;subst hc;obtain⟨vs,rfl,h1,h2⟩:=h;exact⟨h1,h2⟩
 |tu xs=>simp[De] at hc
 |un=>simp[De] at hc
 |d x b=>cases x with
  |ag xs=>
   simp only[De,Le] at hc;subst hc;obtain⟨vs,rfl,h1,h2⟩:=h;refine⟨by rw[LC];exact h1,fun j y hy=> ?_⟩;rw[Lj,La] at hy;obtain⟨d,h3,rfl⟩:=hy;obtain⟨z,h4,h5⟩:=h2 j d h3;exact⟨z,h4,h5.toRA⟩
  |tu xs=>simp[De] at hc
  |_=>simp only[De,Le] at hc;subst hc;exact single h
 |_=>simp only[De,Le] at hc;subst hc;exact single h
theorem G1.val {w w':World}{u:Value}(h:(execOp a.eval o).run P w= .ok (.value u) w'):G1 P o a w u w':=.inl h
theorem G1.skip {w w':World}(h:(execOp a.eval o).run P w= .ok .skip w'):G1 P o a w undef w':=.inr ⟨h,rfl⟩
theorem V6 (hr:HR g c){ob:Obj}{ao:AO}{v:AV}{u:Value}(hid:¬c.kn id)(h:(execOp a.eval o).run P c.w= .ok (.value u) (c.w.alloc ob))
  (ho:∀c',CF c c'->c'.φ id=c.w.heap.size->c'.w=c.w.alloc ob->OK g c' id ao)
  (hv:∀c',CF c c'->c'.φ id=c.w.heap.size->c'.w=c.w.alloc ob->c'.hp id=some ao->c'.kn id->Am g c' v u):CI P o a g c id v [(id,ao)]:=by
 have hbl:∀k,k<c.w.heap.size->(c.w.alloc ob).heap[k]? =c.w.heap[k]? :=fun k hk=>(heap_alloc_old c.w ob hk);have he:=CF.new (ao:=ao) (kn:=fun k=>c.kn k\/k=id) hr hid (w':=c.w.alloc ob) (b:=c.w.heap.size) rfl rfl rfl (by simp) hbl (Lc _) (fun _ h=>.inl h);refine⟨upd id c.w.heap.size c.φ,u,c.w.alloc ob,.val h,he,HR.new hr he hid (Lc _) (by simp) (.inr rfl) hbl (ho _ he (Ah _ _ _) rfl),hv _ he (Ah _ _ _) rfl (Ah _ _ _) (.inr rfl)⟩
theorem dj {cs:List AV}{vs:Array Value}{T:Nat}(hn:vs.size=cs.length)(h:∀(j:Nat) (y:AV),cs[j]? =some y->∃z,vs[j]? =some z/\RA g c y z):
  ∀c',CF c c'->c'.φ id=c.w.heap.size->c'.w=c.w.alloc (.cells vs T)->OK g c' id (.bx cs):=by
 intro c' he hφ hw;refine⟨T,vs,?_,hn,fun j y hy=> ?_⟩
 ·rw[hφ,hw];exact heap_alloc_new _ _
 obtain⟨z,h1,h2⟩:=h j y hy;exact⟨z,h1,h2.ext he⟩
theorem du {cs:List AV}{w':World}:∀c',CF c c'->c'.φ id=c.w.heap.size->c'.w=w'->c'.hp id=some (.bx cs)->c'.kn id->Am g c' (.pt id 0) (.pointer (some ⟨c.w.heap.size,0,none⟩)):=by
 intro c' _ hφ _ hh hk;rw[<-hφ];exact RA.pt id 0 hk fun o ho=>by rw[hh] at ho;cases ho;rfl
theorem nf (hr:HR g c)(ht:AU P tab){T:Nat}(ho:o.op= .alloc T)(hok:(tab T).ok=true)(hid:¬c.kn id):CI P o a g c id (.pt id 0) [(id,.bx ((tab T).zero.map AV.v))]:=by
 obtain⟨i,z,h1,h2,h3,h4,h5,h6,h7⟩:=ht.info T hok;have hrun:(execOp a.eval o).run P c.w= .ok (.value (.pointer (some ⟨c.w.heap.size,0,none⟩))) (c.w.alloc (.cells (tab T).zero.toArray T)):=by
  unfold execOp;simp[ho,Instr.alloc,zeroValue,typeInfo,h1,h4,newVar,newRow,h5]
 refine V6 hr hid hrun (dj (by simp) fun j y hy=> ?_) du;rw[Lj,La] at hy;obtain⟨x,h8,rfl⟩:=hy;exact⟨x,by simpa using h8,RA.v x (h7.1 x (Lt h8))⟩
theorem Pg (hr:HR g c){T:Nat}{x:Operand}(ho:o.op= .box T x){y:AV}{cs:List AV}(hx:Am g c y (a.eval x))(hc:De y=some cs)(hid:¬c.kn id):CI P o a g c id (.pt id 0) [(id,.bx cs)]:=by
 obtain⟨h1,h2⟩:=TE hc hx;have hrun:(execOp a.eval o).run P c.w= .ok (.value (.pointer (some ⟨c.w.heap.size,0,none⟩))) (c.w.alloc (.cells (a.eval x).cells T)):=by
  unfold execOp;simp[ho,Instr.box,newVar,newRow]
 exact V6 hr hid hrun (dj h1 h2) du
theorem dv (ht:AU P tab){T:Nat}(hok:(tab T).ok=true)(w:World)(gb off:Nat)(t:TypeId)(cur:Array Value)(u:Value)(hg:w.heap[gb]? =some (.cells cur t (0,0)))(hs:u.cells.size=(tab T).size)(hf:off+u.cells.size<=cur.size)
  (h1:∀v∈u.cells.toList,v.oneCell'=true):(storeVar T ⟨gb,off,none⟩ u).run P w= .ok () (w.setRow gb (Ct off u.cells.toList cur.toList).toArray):=by
 have hst:=run_storeCells_at P gb off t u.cells.toList 0 cur w hg (by simpa using hf) h1;simp only[NS] at hst;simp[storeVar,ht.sizeOf hok,hs,hst,Ct]
theorem dx (hr:HR g c){i:Nat}{ao ao':AO}{cur cur':Array Value}{T:TypeId}(hi:c.hp i=some ao)(hf:ao.fz=false)(hcur:c.w.heap[c.φ i]? =some (.cells cur T (0,0)))(hsz:cur'.size=cur.size)
  (h:(execOp a.eval o).run P c.w= .ok .skip (c.w.setRow (c.φ i) cur')) (hrw:ao.isRw=false->ao'.isRw=false)
  (hrs:∀es' sz v' br' fz',ao'= .rw es' sz v' br' fz'->∃es v br fz,ao= .rw es sz v br fz/\v<=v'/\(v=v'->es.length=es'.length))
  (ho:∀c',CF c c'->c'.φ i=c.φ i->c'.w.heap[c.φ i]? =some (.cells cur' T (0,0))->OK g c' i ao'):CI P o a g c id .un [(i,ao')]:=by
 have hnew:(c.w.setRow (c.φ i) cur').heap[c.φ i]? =some (.cells cur' T (0,0)):=setRow_heap c.w (c.φ i) cur _ T _ hcur;have hbl:∀k,k<c.w.heap.size->k≠c.φ i->(c.w.setRow (c.φ i) cur').heap[k]? =c.w.heap[k]? :=fun k _ hk=>setRow_other c.w (c.φ i) k _ hk;have he:CF c ⟨upd i (some ao') c.hp,upd i (c.φ i) c.φ,c.w.setRow (c.φ i) cur',fun k=>c.kn k\/k=id⟩:=by
  refine CF.chg hr hi hf rfl rfl rfl (by simp) hbl (.inl rfl) (fun _ h=>.inl h) (fun h=>⟨rfl,hrw h⟩) fun es' sz v' br' fz' e=> ?_;obtain⟨es,v,br,fz,h1,h2,h3⟩:=hrs es' sz v' br' fz' e;refine⟨es,v,br,fz,h1,h2,fun e=>⟨rfl,h3 e,fun cur0 T0 e0=> ?_⟩⟩;rw[hcur] at e0;cases e0;exact⟨cur',hnew,hsz⟩
 refine⟨_,undef,_,.skip h,he,HR.chg hr hi he hbl (.inl rfl) (by simpa using(hr.dom i _ hi).2.2) (ho _ he (Ah _ _ _) hnew),trivial⟩
theorem ng (hr:HR g c)(ht:AU P tab){T:Nat}{x y:Operand}(ho:o.op= .store T x y)(hok:(tab T).ok=true){i off:Nat}{cs xs:List AV}{vy:AV}(hx:Am g c (.pt i off) (a.eval x))(hi:c.hp i=some (.bx cs))
  (hy:Am g c vy (a.eval y)) (hxs:De vy=some xs) (hn:xs.length=(tab T).size) (hf:off+xs.length<=cs.length):CI P o a g c id .un [(i,.bx (Ct off xs cs))]:=by
 obtain⟨e,_,_⟩:=hx.pt;obtain⟨T',vs,h1,h2,h3⟩:=hr.obj i _ hi;obtain⟨h4,h5⟩:=TE hxs hy;have hone:∀v∈(a.eval y).cells.toList,v.oneCell'=true:=fun v hv=>by
  obtain⟨j,hj⟩:=NU.1 hv;have hlt:=(Lb.1 hj).1;simp only[Nr] at hlt;obtain⟨z,h6,h7⟩:=h5 j _ (Ld (show j<xs.length by omega));rw[NN,h6] at hj;cases hj;exact h7.one
 have hst:=dv ht hok c.w (c.φ i) off T' vs (a.eval y) h1 (by omega) (by omega) hone;have hrun:(execOp a.eval o).run P c.w= .ok .skip (c.w.setRow (c.φ i) (Ct off (a.eval y).cells.toList vs.toList).toArray):=by
  unfold execOp;simp only[ho,e,Instr.storeAt,Instr.sureAddr,Sem.run_bind,Sem.run_pure,Result.andThen_ok,hst]
 have hl:off+(a.eval y).cells.toList.length<=vs.toList.length:=by simp;omega
 refine dx hr hi rfl h1 (by rw[LU,IB _ _ _ hl];simp) hrun (fun _=>rfl) (fun _ _ _ _ _ e=>by cases e) fun c' he hφ hw=>⟨T',_,by rw[hφ];exact hw,?_,fun j z hz=> ?_⟩
 ·rw[LU,IB _ _ _ hl,IB _ _ _ hf];simpa using h2
 rw[Np,IC _ _ _ hl];rw[IC _ _ _ hf] at hz;simp only[Nr,h4];by_cases e1:j<off
 ·rw[if_pos e1] at hz⊢;obtain⟨u,e2,e3⟩:=h3 j z hz;exact⟨u,by simpa using e2,e3.ext he⟩
 rw[if_neg e1] at hz⊢;by_cases e2:j<off+xs.length
 ·rw[if_pos e2] at hz⊢;obtain⟨u,e3,e4⟩:=h5 _ _ hz;exact⟨u,by simpa using e3,e4.ext he⟩
 rw[if_neg e2] at hz⊢;obtain⟨u,e2,e3⟩:=h3 j z hz;exact⟨u,by simpa using e2,e3.ext he⟩
theorem TF {hp:Hp}{x:AV}{u:Value}{d:D}{b:Bool}{is:List Nat}(hr:HR g c)(hhp:c.hp=hp)(h:RA g c x u)(hd:CS hp x=some (d,b,is))(I:Nat->Prop)(hI:∀k,Im g c b k->I k)
  (hI2:∀i∈is,I (c.φ i)):RC c.w I d u:=by
 unfold CS at hd;split at hd
 ·cases hd;cases h with |v _ h=>exact .nl none 0
 ·cases hd;cases h with |v _ h=>exact .v _ h
 ·cases hd
 ·cases hd
 ·cases hd;cases h with
  |d _ _ _ h=>exact h.mono (fun _ _=>rfl) hI
 ·rename_i i ver off n;split at hd;rotate_left
  ·cases hd
  rename_i es sz v br fz hi;split at hd;rotate_left
  ·cases hd
  rename_i hv;cases hd;subst hv;rw[<-hhp] at hi;obtain⟨h1,_,cur,T,C,h2,h3,rfl⟩:=Am.so (show Am g c (.so i _ off n) u from h) hi;obtain⟨h0,hz,T',vs,C',h4,h5,h6,h7,h8⟩:=hr.obj i _ hi;rw[h2] at h4;cases h4;have hCC:off+C=C':=by
   have:(off+C)*sz=C'*sz:=h3.symm.trans h5;exact BP h0 this
  have hl:((es.drop off).take n).length=n:=by rw[Lw,Nv];omega
  have key:RC c.w I (.sl ((es.drop off).take n)) (.slice (some ⟨c.φ i,off*sz,none⟩) ((es.drop off).take n).length C):=by
   refine RC.sl _ _ _ _ sz (fun k j=>cur.getD ((off+k)*sz+j) undef) (hI2 i (by simp)) (by omega) (fun k cs hk=> ?_) (fun k j cs d hk hj=> ?_) (fun k j cs d hk hj=> ?_)
   ·exact hz _ _ (KM _ _ _ _ _ hk).2
   ·obtain⟨u,e1,e2⟩:=h8 (off+k) j cs d (KM _ _ _ _ _ hk).2 hj;have hlt:(off+k)*sz+j<cur.size:=by
     rcases Nf ((off+k)*sz+j) cur.size with h |h
     ·exact h
     rw[N7 h] at e1;cases e1
    simp[World.cell?,h2,Array.getD,hlt,<-Nb]
   obtain⟨u,e1,e2⟩:=h8 (off+k) j cs d (KM _ _ _ _ _ hk).2 hj;have hlt:(off+k)*sz+j<cur.size:=by
    rcases Nf ((off+k)*sz+j) cur.size with h |h
    ·exact h
    rw[N7 h] at e1;cases e1
   have e3:cur.getD ((off+k)*sz+j) undef=u:=(by simp[Array.getD,hlt] at e1⊢;exact e1);show RC c.w I d (cur.getD ((off+k)*sz+j) undef);rw[e3];exact e2.mono (fun _ _=>rfl) hI
  rw[hl] at key;exact key
 cases hd
end
end
section
section
variable {P:Program}{tab:Nat->TI}{o:Oper}{a:Act}{g:Gh}{c:Cf}{id:Nat}{ρ:Operand->AV}
theorem dz (hr:HR g c){x:Operand}(ho:o.op= .move x\/o.op= .assign x){v:AV}(hx:Am g c v (a.eval x)):CI P o a g c id v []:=by
 refine CI.pure hr (u:=a.eval x) ?_ hx;rcases ho with ho |ho<;>simp[execOp,ho]
theorem nh (hr:HR g c){x y z:Operand}(ho:o.op= .pick x y z){t:Bool}(hx:Am g c (.v (.bool t)) (a.eval x)){v:AV}(hv:Am g c v (if t then a.eval y else a.eval z)):CI P o a g c id v []:=by
 refine CI.pure hr (u:=if t then a.eval y else a.eval z) ?_ hv;unfold execOp
 have:=hx.v.1;simp only[ho,this,asBool,Sem.run_bind,Sem.run_pure,Result.andThen_ok]
theorem d5 (hr:HR g c){op:UnOp}{T:TypeId}{x:Operand}(ho:o.op= .unOp op T x){u:Value}(hu:(Op.unary op (a.eval x)).run P c.w= .ok u c.w){v:AV}(hv:Am g c v u):CI P o a g c id v []:=by
 refine CI.pure hr (u:=u) ?_ hv;unfold execOp;simp only[ho,Sem.run_bind,hu,Result.andThen_ok,Sem.run_pure]
theorem ni (w:World){op:BinOp}(hop:op≠ .shl/\op≠ .shr){k:IntKind}{x y:Int}{T:TypeId}{u:Value}(h:JO op k x y=some u):(binOp op T (.int k x) (.int k y)).run P w= .ok u w/\u.oneCell'=true:=by
 cases op<;>simp only[JO,Le] at h
 case shl=>simp at hop
 case shr=>simp at hop
 case quo=>
  split at h
  ·cases h
  cases h;rename_i h0;simp[binOp,Op.intDiv,h0,Value.oneCell']
 case rem=>
  split at h
  ·cases h
  cases h;rename_i h0;simp[binOp,Op.intDiv,h0,Value.oneCell']
 all_goals (subst h;simp[binOp,Op.intArith,Op.intBits,Op.intCmp,Value.oneCell'])
theorem nj (w:World){op:BinOp}{x y:ByteArray}{T:TypeId}{u:Value}(h:Km op x y=some u):(binOp op T (.string x) (.string y)).run P w= .ok u w/\u.oneCell'=true:=by
 cases op<;>simp only[Km,Le] at h
 case add=>
  split at h
  ·cases h;rename_i h0
   have:¬(((x.size+y.size:Nat):Int) > IntKind.i64.max):=by
    simp only[maxLen] at h0;simp[IntKind.max,IntKind.bits,IntKind.signed];omega
   simp only[binOp,Op.stringOp,if_neg this];simp[Value.oneCell']
  cases h
 all_goals first |(subst h;simp[binOp,Op.stringOp,Value.oneCell']) |cases h
theorem nk (w:World){op:BinOp}{x y:Value}{T:TypeId}{u:Value}(h:F1 op x y=some u):(binOp op T x y).run P w= .ok u w/\u.oneCell'=true:=by
 unfold F1 at h;split at h
 ·rename_i k m k' n;split at h
  ·split at h
   ·cases h
   cases h;rename_i h0;simp[binOp,Op.shift,h0,Value.oneCell']
  ·split at h
   ·cases h
   cases h;rename_i h0;simp[binOp,Op.shift,h0,Value.oneCell']
  rename_i h1 h2;split at h
  ·rename_i hk;subst hk;exact ni w ⟨h1,h2⟩ h
  cases h
 ·exact nj w h
 cases h
theorem np (w:World){op:BinOp}{T:TypeId}{x y:Operand}{u v:Value}(hu:¬(u= .nilIface/\v= .nilIface))(h:∀cs ds,¬(u= .agg cs/\v= .agg ds)):(eqGuard op T x y u v).run P w= .ok () w:=by
 unfold eqGuard;split
 ·simp only[BQ,Nl,if_false];split
  ·exact absurd ⟨rfl,rfl⟩ hu
  ·exact absurd ⟨rfl,rfl⟩ (h _ _)
  rfl
 ·simp only[BQ,Nl,if_false];split
  ·exact absurd ⟨rfl,rfl⟩ hu
  ·exact absurd ⟨rfl,rfl⟩ (h _ _)
  rfl
 simp only[OJ,if_true];rfl
theorem Kr (hr:HR g c){op:BinOp}{T T':TypeId}{x y:Operand}(ho:o.op= .binOp op T x y T')(hg:∀cs ds,¬(a.eval x= .agg cs/\a.eval y= .agg ds))(hn:¬(a.eval x= .nilIface/\a.eval y= .nilIface)){u:Value}(hu:(binOp op T (a.eval x) (a.eval y)).run P c.w= .ok u c.w){v:AV}(hv:Am g c v u):CI P o a g c id v []:=by
 refine CI.pure hr (u:=u) ?_ hv;unfold execOp;simp only[ho,Sem.run_bind,np (P:=P) c.w hn hg,hu,Result.andThen_ok,Sem.run_pure]
theorem nq {u:Value}(h:u.oneCell'=true)(cs:Array Value):u≠ .agg cs:=by
 rintro rfl;simp[Value.oneCell'] at h
theorem nt (hr:HR g c)(ht:AU P tab){s t:TypeId}{x:Operand}(ho:o.op= .convert s t x)(hs:(tab s).ok=true){k k':IntKind}{n:Int}(hk:(tab t).kind= .int k)(hx:Am g c (.v (.int k' n)) (a.eval x)):CI P o a g c id (.v (.int k (k.wrap n))) []:=by
 obtain⟨d,h1,h2⟩:=ht.kind s hs;obtain⟨d',h3,h4⟩:=ht.kind t (ht.okOf (by rw[hk];simp));rw[hk] at h4;subst h4;refine CI.pure hr (u:=.int k (k.wrap n)) ?_ (RA.v _ rfl);unfold execOp;simp[ho,hx.v.1,convert,run_underlying h1,run_underlying h3,Conv.intToInt]
theorem nu (hr:HR g c)(ht:AU P tab){s t:TypeId}{x:Operand}(ho:o.op= .convert s t x)(hs:(tab s).ok=true){n:ByteArray}(hk:(tab t).kind= .string)(hx:Am g c (.v (.string n)) (a.eval x)):CI P o a g c id (.v (.string n)) []:=by
 obtain⟨d,h1,h2⟩:=ht.kind s hs;refine CI.pure hr (u:=.string n) ?_ (RA.v _ rfl);unfold execOp;simp[ho,hx.v.1,convert,run_underlying h1,run_underlying (ht.string hk)]
theorem d6:∀ {es:List (List D)} {bs:List UInt8},Kq es=some bs->∃ns:List Int,es=ns.map (fun n=>[D.v (.int .u8 n)])/\bs=ns.map fun n=>UInt8.ofNat n.toNat
 |[],bs,h=>by
  simp only[Kq,Le] at h;exact⟨[],rfl,h.symm⟩
 |e::r,bs,h=>by
  unfold Kq at h;split at h
  ·cases‹_::_= []›
  ·rename_i n r' e1;cases e1;obtain⟨l,h1,rfl⟩:=La.1 h;obtain⟨ns,rfl,rfl⟩:=d6 h1;exact⟨n::ns,rfl,rfl⟩
  cases h
theorem nv (ns:List Int)(s:ByteArray):ns.foldl (fun r n=>r.push (UInt8.ofNat n.toNat)) s=⟨s.data++(ns.map fun n=>UInt8.ofNat n.toNat).toArray⟩:=by
 induction ns generalizing s with
 |nil=>simp
 |cons n ns ih=>
  rw[Ba,ih];simp[ByteArray.push]
theorem nz (hr:HR g c)(ht:AU P tab){s t:TypeId}{x:Operand}(ho:o.op= .convert s t x)(hk:(tab t).kind= .string)(hks:(tab s).kind= .slice)(hke:(tab (tab s).elem).kind= .int .u8){es:List (List D)}{b:Bool}(h0:0<es.length){bs:List UInt8}(hb:Kq es=some bs)(hx:Am g c (.d (.sl es) b) (a.eval x)):CI P o a g c id (.v (.string ⟨bs.toArray⟩)) []:=by
 obtain⟨d,h1,h2⟩:=ht.kind (tab s).elem (ht.okOf (by rw[hke];simp));rw[hke] at h2;subst h2;obtain⟨ns,rfl,rfl⟩:=d6 hb;refine CI.pure hr (u:=.string ⟨(ns.map fun n:Int=>UInt8.ofNat n.toNat).toArray⟩) ?_ (RA.v _ rfl);have hx:RA g c (.d (.sl (ns.map fun n=>[D.v (.int .u8 n)])) b) (a.eval x):=hx;generalize hev:a.eval x=u at hx;generalize hes:(ns.map fun n=>[D.v (.int .u8 n)])=es at hx h0;cases hx with
 |d _ _ _ hx=>
  cases hx with
  |nl q c2=>exact absurd h0 (Nat.lt_irrefl 0)
  |sl _ bl o2 C sz us hI hc hz hm hd=>
   have hlen:es.length=ns.length:=(by rw[<-hes,LC]);have hsz:sz=1:=by
    have e0:es[0]? =some es[0]:=Ld h0;rw[<-hz 0 _ e0];subst hes;simp
   subst hsz;have hl:(loadCells ⟨bl,o2,none⟩ es.length).run P c.w= .ok (ns.map (Value.int .u8)).toArray c.w:=by
    have:=run_loadCells_list (P:=P) c.w ⟨bl,o2,none⟩ (ns.map (Value.int .u8)) (fun j u hj=>by
     rw[Lj,La] at hj;obtain⟨n,hj,rfl⟩:=hj;have h6:es[j]? =some [D.v (.int .u8 n)]:=(by rw[<-hes,Lj,hj];rfl);have g1:=hm j 0 _ _ h6 rfl;have g2:=hd j 0 _ _ h6 rfl;rw[HO];generalize us j 0=y at g1 g2;cases g2;simpa using g1)
    rw[LC,<-hlen] at this;exact this
   unfold execOp;simp only[ho,hev,Sem.run_bind,run_convert_bytes_string c.w s t _ _ _ _ (ht.slice hks) h1 (ht.string hk),run_bytesToString c.w _ es.length C ns hl,Result.andThen_ok,Sem.run_pure];rw[nv];simp
theorem n7 (ht:AU P tab){T:TypeId}{f:Nat}{off n:Nat}(hk:(tab T).kind= .struct)(hf:(tab T).offs[f]? =some (off,n))(hn:n≠0)(bl o:Nat)(w:World):
  (Instr.fieldAt T (.pointer (some ⟨bl,o,none⟩)) f).run P w= .ok (.pointer (some ⟨bl,o+off,none⟩)) w:=by
 obtain⟨d,h1,h2⟩:=ht.kind T (ht.okOf (by rw[hk];decide));rw[hk] at h2;obtain⟨fs,rfl,h3,h4⟩:=h2;have hlt:f<fs.size:=by
  have:=(Lb.1 hf).1;omega
 obtain⟨fi,h5,h6⟩:=h4 f _ (LA hlt);rw[hf] at h6;simp only[Le,Lu] at h6;obtain⟨e1,e2⟩:=h6;have hz:¬fi.size=0:=by omega
 simp[Instr.fieldAt,run_underlying h1,LA hlt,Instr.sureAddr,fieldPlace,sizeOf,typeInfo,h5,hz,HO,e1]
theorem d7 (hr:HR g c)(ht:AU P tab){T:TypeId}{x:Operand}{f:Nat}(ho:o.op= .fieldAddr T x f){off n:Nat}(hk:(tab T).kind= .struct)(hf:(tab T).offs[f]? =some (off,n))(hn:n≠0){bl p:Nat}(hx:a.eval x= .pointer (some ⟨bl,p,none⟩)){v:AV}
  (hv:Am g c v (.pointer (some ⟨bl,p+off,none⟩))):CI P o a g c id v []:=by
 refine CI.pure hr ?_ hv;unfold execOp;simp only[ho,hx,n7 ht hk hf hn,Sem.run_bind,Result.andThen_ok,Sem.run_pure]
theorem n8 (hr:HR g c)(ht:AU P tab){T:TypeId}{x:Operand}{f:Nat}(ho:o.op= .fieldAddr T x f){off n:Nat}(hk:(tab T).kind= .struct)(hf:(tab T).offs[f]? =some (off,n))(hn:n≠0){ad:Addr}(hx:a.eval x= .pointer (some ad)){v:AV}
  (hv:Am g c v (.pointer (some (ad.add off)))):CI P o a g c id v []:=by
 obtain⟨d,h1,h2⟩:=ht.kind T (ht.okOf (by rw[hk];decide));rw[hk] at h2;obtain⟨fs,rfl,h3,h4⟩:=h2;have hlt:f<fs.size:=by
  have:=(Lb.1 hf).1;omega
 obtain⟨fi,h5,h6⟩:=h4 f _ (LA hlt);rw[hf] at h6;simp only[Le,Lu] at h6;obtain⟨e1,e2⟩:=h6;have hz:¬fi.size=0:=by omega
 refine CI.pure hr ?_ hv;unfold execOp;simp[ho,hx,Instr.fieldAt,run_underlying h1,LA hlt,Instr.sureAddr,fieldPlace,sizeOf,typeInfo,h5,hz,e1]
theorem JA {x:AV}{u:Value}{n:Nat}(h:D8 x=some n)(hu:Am g c x u):∃k,u= .int k (n:Int):=by
 unfold D8 V3 at h;split at h
 ·rename_i m he;split at he
  ·rename_i k m';cases he;split at h
   ·rename_i h0;cases h;exact⟨k,by rw[hu.v.1,Int.toNat_of_nonneg h0]⟩
   cases h
  cases he
 cases h
theorem n9 (ht:AU P tab){T:TypeId}(hk:(tab T).kind= .slice)(he:(tab (tab T).elem).ok=true)(bl p len cap n:Nat)(k:IntKind)(hn:n<len)(w:World):
  (Instr.indexAt T (.slice (some ⟨bl,p,none⟩) len cap) (.int k n)).run P w= .ok (.pointer (some ⟨bl,p+n*(tab (tab T).elem).size,none⟩)) w:=by
 simp[Instr.indexAt,run_underlying (ht.slice hk),asIntOf,hn,ht.sizeOf he,HO]
theorem d8 (hr:HR g c)(ht:AU P tab){T:TypeId}{x i:Operand}(ho:o.op= .indexAddr T x i)(hk:(tab T).kind= .slice)(he:(tab (tab T).elem).ok=true){bl p len cap n:Nat}{k:IntKind}(hx:a.eval x= .slice (some ⟨bl,p,none⟩) len cap)(hi:a.eval i= .int k n)(hn:n<len){v:AV}
  (hv:Am g c v (.pointer (some ⟨bl,p+n*(tab (tab T).elem).size,none⟩))):CI P o a g c id v []:=by
 refine CI.pure hr ?_ hv;unfold execOp;simp only[ho,hx,hi,n9 ht hk he bl p len cap n k hn,Sem.run_bind,Result.andThen_ok,Sem.run_pure]
theorem oA (ht:AU P tab){T:TypeId}{len:Nat}(hk:(tab T).kind= .array len){ad:Addr}{n:Nat}(k:IntKind)(hn:n<len)(w:World):
  (Instr.indexAt T (.pointer (some ad)) (.int k n)).run P w= .ok (.pointer (some (ad.add (n*(tab (tab T).elem).size)))) w:=by
 obtain⟨d,h1,h2⟩:=ht.kind T (ht.okOf (by rw[hk];intro e;cases e));rw[hk] at h2;obtain⟨rfl,h3,_⟩:=h2;simp[Instr.indexAt,run_underlying h1,asIntOf,hn,ht.sizeOf h3,Instr.sureAddr]
theorem oB (hr:HR g c)(ht:AU P tab){T:TypeId}{x i:Operand}(ho:o.op= .indexAddr T x i){len:Nat}(hk:(tab T).kind= .array len){ad:Addr}{n:Nat}{k:IntKind}(hx:a.eval x= .pointer (some ad))(hi:a.eval i= .int k n)(hn:n<len){v:AV}
  (hv:Am g c v (.pointer (some (ad.add (n*(tab (tab T).elem).size))))):CI P o a g c id v []:=by
 refine CI.pure hr ?_ hv;unfold execOp;simp only[ho,hx,hi,oA ht hk k hn,Sem.run_bind,Result.andThen_ok,Sem.run_pure]
theorem oC (hr:HR g c)(ht:AU P tab){T:TypeId}{x i:Operand}(ho:o.op= .index T x i)(hk:(tab T).kind= .string){s:ByteArray}{n:Nat}{k:IntKind}(hx:a.eval x= .string s)(hi:a.eval i= .int k n){b:UInt8}(hn:s[n]? =some b):CI P o a g c id (.v (.int .u8 b.toNat)) []:=by
 refine CI.pure hr (u:=.int .u8 b.toNat) ?_ (RA.v _ rfl);unfold execOp;have h0:(0:Int)<=n:=by omega
 simp[ho,hx,hi,Instr.index,asIntOf,run_underlying (ht.string hk),h0,hn]
theorem TG (isS:Bool){lo hi:Option Operand}{len cap l h:Nat}(hρ:∀x,Am g c (ρ x) (a.eval x))(hb:HM ρ len lo hi=some (l,h))(hc:len<=cap)(w:World):
  (Instr.sliceBounds isS len cap (lo.map a.eval) (hi.map a.eval) none).run P w= .ok (l,h,cap) w/\l<=h/\h<=len:=by
 unfold HM at hb;split at hb;rotate_left
 ·cases hb
 rename_i l' h' e1 e2;split at hb;rotate_left
 ·cases hb
 rename_i hle;cases hb;refine⟨?_,hle⟩;obtain⟨h1,h2⟩:=hle;cases lo with
 |none=>
  simp only[Le] at e1;subst e1;cases hi with
  |none=>
   simp only[Le] at e2;subst e2;simp[Instr.sliceBounds]
  |some y=>
   obtain⟨k,e3⟩:=JA e2 (hρ y)
   have:h<=cap:=(by omega);simp[Instr.sliceBounds,Instr.sliceBound,asIntOf,e3,this]
 |some x=>
  obtain⟨k1,e4⟩:=JA e1 (hρ x);cases hi with
  |none=>
   simp only[Le] at e2;subst e2;simp[Instr.sliceBounds,Instr.sliceBound,asIntOf,e4,h1]
  |some y=>
   obtain⟨k,e3⟩:=JA e2 (hρ y);have t1:h<=cap:=(by omega);simp[Instr.sliceBounds,Instr.sliceBound,asIntOf,e3,e4,t1,h1]
theorem oD (hr:HR g c)(ht:AU P tab){T:TypeId}{x:Operand}{lo hi:Option Operand}(ho:o.op= .slice T x lo hi none)(hk:(tab T).kind= .string)(hρ:∀x,Am g c (ρ x) (a.eval x)){s:ByteArray}(hx:a.eval x= .string s){l h:Nat}(hb:HM ρ s.size lo hi=some (l,h)):CI P o a g c id (.v (.string (s.extract l h))) []:=by
 obtain⟨h1,_,_⟩:=TG (P:=P) false hρ hb (Lc _) c.w;refine CI.pure hr (u:=.string (s.extract l h)) ?_ (RA.v _ rfl);unfold execOp;simp[ho,hx,Instr.sliceAt,Instr.slice,run_underlying (ht.string hk),h1]
theorem V7 (hr:HR g c)(ht:AU P tab){T:TypeId}{x:Operand}{lo hi:Option Operand}(ho:o.op= .slice T x lo hi none)(hk:(tab T).kind= .slice)(he:(tab (tab T).elem).ok=true)(hρ:∀x,Am g c (ρ x) (a.eval x)){A:Option Addr}{len cap:Nat}(hx:a.eval x= .slice A len cap)(hc:len<=cap){l h:Nat}(hb:HM ρ len lo hi=some (l,h)){v:AV}
  (hv:Am g c v (.slice (if cap=l then A else A.map (·.add (l*(tab (tab T).elem).size))) (h-l) (cap-l))):CI P o a g c id v []:=by
 obtain⟨h1,_,_⟩:=TG (P:=P) true hρ hb hc c.w;refine CI.pure hr ?_ hv;unfold execOp;simp[ho,hx,Instr.sliceAt,Instr.slice,run_underlying (ht.slice hk),h1,ht.sizeOf he]
theorem d9 (hr:HR g c){x:Operand}{i:Nat}(ho:o.op= .extract x i){vs:Array Value}(hx:a.eval x= .tuple vs){u:Value}(hi:vs[i]? =some u){v:AV}(hv:Am g c v u):CI P o a g c id v []:=by
 refine CI.pure hr (u:=u) ?_ hv;unfold execOp;simp[ho,hx,Instr.extract,hi]
theorem V8 (hr:HR g c){x:Operand}{T:TypeId}(ho:o.op= .call { callee:=.builtin .len,args:= #[x],argTypes:= #[T] }){n:Nat}(h:∀ty,(Builtin.len_ #[T] ty #[a.eval x]).run P c.w= .ok (goInt n) c.w):CI P o a g c id (.v (.int .i64 n)) []:=by
 refine CI.pure hr (u:=.int .i64 n) ?_ (RA.v _ rfl);unfold execOp;simp[ho,resolve,invoke,builtin,h,goInt]
theorem Ph (hr:HR g c){x:Operand}(ho:o.op= .nilCheck x){p:Addr}(hx:a.eval x= .pointer (some p)){v:AV}(hv:Am g c v (a.eval x)):CI P o a g c id v []:=by
 refine CI.pure hr (u:=a.eval x) ?_ hv;unfold execOp;simp[ho,hx]
theorem oE (hr:HR g c){f:FuncId}{first caps:Array Operand}(ho:o.op= .makeFunc (.func f) first caps)(h0:first.size=0)(hc:∀(j:Nat) (x:Operand),caps[j]? =some x->RA g c (ρ x) (a.eval x)):CI P o a g c id (.fn f (caps.toList.map ρ)) []:=by
 have e0:first= #[]:=BC h0;subst e0;have hA:(Array.ofFn (n:=caps.size) fun j=>(caps.map a.eval).getD j undef)=caps.map a.eval:=by
  apply OD
  ·simp
  intro i h1 h2;simp at h1 h2;simp
 refine CI.pure hr (u:=.func (.func f) #[] (Array.ofFn (n:=caps.size) fun j=>(caps.map a.eval).getD j undef)) ?_ ?_
 ·unfold execOp;rw[hA];simp[ho,Instr.makeFunc]
 refine RA.fn f _ (fun j=>(caps.map a.eval).getD j undef) caps.size (by simp) fun j y hy=> ?_
 rw[Lj,La] at hy;obtain⟨x,h1,rfl⟩:=hy;rw[NN] at h1
 have:=hc j x h1;have hlt:j<caps.size:=(LN.1 h1).1;have hx:caps[j]=x:=by
  rw[LA hlt] at h1;exact LI h1
 simpa [hlt,hx] using this
end
end
section
theorem eC (off:Nat):∀(l:List Value) (k:Nat) (cells:Array Value),off+k+l.length<=cells.size->
  ((l.zipIdx k).foldl (fun cs (x:Value × Nat)=>cs.setIfInBounds (off+x.2) x.1) cells).toList=Ct (off+k) l cells.toList
 |[],k,cells,_=>by simp[Ct]
 |x::l,k,cells,h=>by
  simp only[Lg] at h;rw[Ij,Ba,eC off l (k+1) _ (by simp;omega)];have hl:off+k+(x::l).length<=cells.toList.length:=by simp;omega
  have hl2:off+(k+1)+l.length<=(cells.setIfInBounds (off+k) x).toList.length:=by simp;omega
  apply Bc;intro j;rw[IC _ _ _ hl,IC _ _ _ hl2];simp only[Ou,Bd,Lg];by_cases h1:j<off+k
  ·rw[ifp,ifn,if_pos h1]
  rw[if_neg h1];by_cases h2:j=off+k
  ·subst h2;rw[ifp,if_pos rfl,if_pos (by simp;omega),ifp];simp
  rw[ifn];by_cases h3:j<off+k+(l.length+1)
  ·rw[ifp,if_pos h3]
   have:j-(off+k)=j-(off+(k+1))+1:=(by omega);rw[this,BA]
  rw[ifn,ifn,if_neg h3]
theorem eE (place:Nat->Option (Nat × Nat))(cells:Array Value)(i:Nat)(v:Value)(rest:List (Nat × Value)){off n:Nat}(hp:place i=some (off,n))(hs:v.cells.size=n)(hf:off+n<=cells.size):
  Instr.fill place cells ((i,v)::rest)=Instr.fill place (Ct off v.cells.toList cells.toList).toArray rest:=by
 have h1:¬(v.cells.size≠n\/off+v.cells.size > cells.size):=by omega
 have h2:=eC off v.cells.toList 0 cells (by simp;omega);simp only[NS] at h2;have h3:v.cells.zipIdx.foldl (fun cs (x:Value × Nat)=>cs.setIfInBounds (off+x.2) x.1) cells=(Ct off v.cells.toList cells.toList).toArray:=by
  rw[<-h2,<-Array.foldl_toList,Array.toList_zipIdx]
 simp only[Instr.fill,hp];rw[if_neg (by simpa using h1)];exact congrArg (fun x=>Instr.fill place x rest) h3
section
variable {P:Program}{tab:Nat->TI}{o:Oper}{a:Act}{g:Gh}{c:Cf}{id:Nat}{ρ:Operand->AV}
theorem Ya (offs:List (Nat × Nat))(place:Nat->Option (Nat × Nat))(hpl:∀i p,offs[i]? =some p->place i=some p)(hρ:∀x,Am g c (ρ x) (a.eval x)):
  ∀(ps:List (Nat × Operand)) (cs cs':List AV) (vs:Array Value),vs.size=cs.length->(∀(j:Nat) (y:AV),cs[j]? =some y->∃z,vs[j]? =some z/\RA g c y z)->KL offs ρ cs ps=some cs'->
   ∃vs',Instr.fill place vs (ps.map fun p=>(p.1,a.eval p.2))=some vs'/\vs'.size=cs'.length/\∀(j:Nat) (y:AV),cs'[j]? =some y->∃z,vs'[j]? =some z/\RA g c y z
 |[],cs,cs',vs,hn,h,hf=>by
  simp only[KL,Le] at hf;subst hf;exact⟨vs,rfl,hn,h⟩
 |(i,x)::r,cs,cs',vs,hn,h,hf=>by
  unfold KL at hf;split at hf;rotate_left
  ·cases hf
  rename_i off n xs e1 e2;split at hf;rotate_left
  ·cases hf
  rename_i hle;obtain⟨h1,h2⟩:=TE e2 (hρ x);have hl:off+(a.eval x).cells.toList.length<=vs.toList.length:=by simp;omega
  have hl2:off+xs.length<=cs.length:=by omega
  obtain⟨vs',h3,h4⟩:=Ya offs place hpl hρ r (Ct off xs cs) cs' (Ct off (a.eval x).cells.toList vs.toList).toArray
   (by rw[LU,IB _ _ _ hl,IB _ _ _ hl2];simpa using hn)
   (fun j y hy=>by
    rw[Np,IC _ _ _ hl];rw[IC _ _ _ hl2] at hy;simp only[Nr,h1];by_cases g1:j<off
    ·rw[if_pos g1] at hy⊢;obtain⟨z,g2,g3⟩:=h j y hy;exact⟨z,by simpa using g2,g3⟩
    rw[if_neg g1] at hy⊢;by_cases g2:j<off+xs.length
    ·rw[if_pos g2] at hy⊢;obtain⟨z,g3,g4⟩:=h2 _ _ hy;exact⟨z,by simpa using g3,g4⟩
    rw[if_neg g2] at hy⊢;obtain⟨z,g3,g4⟩:=h j y hy;exact⟨z,by simpa using g3,g4⟩) hf
  refine⟨vs',?_,h4⟩;rw[Lk,eE place vs i (a.eval x) _ (hpl i _ e1) (by omega) (by omega)];exact h3
theorem eG {α β:Type}(f:α->Option β):∀(l:List α),(∀(i:Nat) (x:α),l[i]? =some x->∃y,f x=some y)->∃ys,l.mapM f=some ys/\ys.length=l.length/\∀(i:Nat) (x:α) (y:β),l[i]? =some x->f x=some y->ys[i]? =some y
 |[],_=>⟨[],rfl,rfl,fun i x y h=>by simp at h⟩
 |x::l,h=>by
  obtain⟨y,hy⟩:=h 0 x rfl;obtain⟨ys,h1,h2,h3⟩:=eG f l fun i z hz=>h (i+1) z (by simpa using hz);refine⟨y::ys,by simp[List.mapM_cons,hy,h1],by simp[h2],fun i z w hz hw=> ?_⟩;cases i with |zero=>simp at hz;subst hz;rw[hy] at hw;simpa using hw |succ i=>exact h3 i z w (by simpa using hz) hw
theorem oF (hr:HR g c)(ht:AU P tab){T:TypeId}{ps:Array (Nat × Operand)}(ho:o.op= .build T ps)(hok:(tab T).ok=true)(hg:(tab T).agg=true)(hρ:∀x,Am g c (ρ x) (a.eval x)){cs:List AV}
  (hf:KL (tab T).offs ρ ((tab T).zero.map AV.v) ps.toList=some cs):CI P o a g c id (.ag cs) []:=by
 obtain⟨it,z,h1,h2,h3,h4,h5,h6,h7⟩:=ht.info T hok;obtain⟨d,h8,h9⟩:=ht.kind T hok;have hz:∀(j:Nat) (y:AV),((tab T).zero.map AV.v)[j]? =some y->∃u,z.cells[j]? =some u/\RA g c y u:=by
  intro j y hy;rw[Lj,La] at hy;obtain⟨x,g1,rfl⟩:=hy;exact⟨x,by rw[h5];simpa using g1,RA.v x (h7.1 x (Lt g1))⟩
 have hps:(ps.map fun(i,x)=>(i,a.eval x)).toList=ps.toList.map fun p=>(p.1,a.eval p.2):=by simp
 have fin:∀vs',P.built T (ps.toList.map fun p=>(p.1,a.eval p.2))=some vs'->vs'.size=cs.length->(∀(j:Nat) (y:AV),cs[j]? =some y->∃u,vs'[j]? =some u/\RA g c y u)->CI P o a g c id (.ag cs) []:=by
  intro vs' hb hs hc;refine CI.pure hr (u:=.agg vs') ?_ ⟨vs',rfl,hs,hc⟩;unfold execOp
  have:=run_build (P:=P) c.w T (ps.map fun(i,x)=>(i,a.eval x)) vs' (by rw[hps];exact hb);simp only[ho,Sem.run_bind,this,Result.andThen_ok,Sem.run_pure]
 have hsz:z.cells.size=((tab T).zero.map AV.v).length:=by rw[h5];simp
 cases hk:(tab T).kind<;>simp only[TI.agg,hk,Nl] at hg
 case struct=>
  rw[hk] at h9;obtain⟨fs,rfl,e1,e2⟩:=h9;obtain⟨pl,e3,e4,e5⟩:=eG (fun f:Field=>(P.info? f.type).map fun i=>(f.offset,i.size)) fs.toList (fun i f hf=>by
   obtain⟨fi,g1,_⟩:=e2 i f (by simpa using hf);exact⟨_,by rw[g1];rfl⟩)
  obtain⟨vs',g1,g2,g3⟩:=Ya (tab T).offs (fun i=>pl.toArray[i]?) (fun i p hp=>by
   have hlt:=(Lb.1 hp).1;have hlt2:i<fs.size:=(by omega);obtain⟨fi,k1,k2⟩:=e2 i _ (LA hlt2)
   have:=e5 i fs[i] (fs[i].offset,fi.size) (by simp[hlt2]) (by simp[k1]);rw[hp] at k2;simp only[Le] at k2;rw[k2];simpa using this) hρ ps.toList _ _ z.cells hsz hz hf
  exact fin vs' (by simp only[Program.built,h1,h8,h4,e3];exact g1) g2 g3
 case array n=>
  rw[hk] at h9;obtain⟨rfl,e1,e2⟩:=h9;obtain⟨ie,ze,k1,k2,_⟩:=ht.info _ e1;obtain⟨vs',g1,g2,g3⟩:=Ya (tab T).offs (fun i=>some (i*ie.size,ie.size)) (fun i p hp=>by
   rw[e2 i p hp,k2]) hρ ps.toList _ _ z.cells hsz hz hf
  exact fin vs' (by simp only[Program.built,h1,h8,h4,k1];exact g1) g2 g3
theorem eJ (sz:Nat)(hsz:0<sz):∀(vs:List Value) (k:Nat) (cells:Array Value),(k+vs.length)*sz<=cells.size->(∀v∈vs,v.cells.size=sz)->
  ∃out,Instr.fill (fun i=>some (i*sz,sz)) cells ((vs.zipIdx k).map fun p=>(p.2,p.1))=some out/\out.size=cells.size/\(∀j,j<k*sz->out[j]? =cells[j]?)/\
   ∀(i j:Nat) (v:Value),vs[i]? =some v->j<sz->out[(k+i)*sz+j]? =v.cells[j]?
 |[],k,cells,_,_=>⟨cells,rfl,rfl,fun _ _=>rfl,fun i j v h=>by simp at h⟩
 |v::vs,k,cells,h,hv=>by
  have hs:=hv v (by simp);simp only[Lg] at h;have hk:(k+1+vs.length)*sz<=cells.size:=by
   have:k+1+vs.length=k+(vs.length+1):=(by omega);rw[this];exact h
  have hk1:k*sz+sz<=cells.size:=by
   have:(k+1)*sz<=(k+1+vs.length)*sz:=LR _ (by omega);rw[Nb,Bk] at this;omega
  have hl:k*sz+v.cells.toList.length<=cells.toList.length:=by simp;omega
  obtain⟨out,h1,h2,h3,h4⟩:=eJ sz hsz vs (k+1) (Ct (k*sz) v.cells.toList cells.toList).toArray (by rw[LU,IB _ _ _ hl];simpa using hk) fun u hu=>hv u (by simp[hu]);refine⟨out,?_,?_,fun j hj=> ?_,fun i j u hi hj=> ?_⟩
  ·rw[Ij,Lk,eE _ cells k v _ rfl hs hk1];exact h1
  ·rw[h2,LU,IB _ _ _ hl];simp
  ·rw[h3 j (by rw[Nb];omega),Np,IC _ _ _ hl,if_pos hj];simp
  cases i with
  |zero=>
   simp only[LV,Le] at hi;subst hi;rw[NS,h3 _ (by rw[Nb];omega),Np,IC _ _ _ hl,ifn,if_pos (by simp;omega)];simp
  |succ i=>
   have e:k+(i+1)=k+1+i:=(by omega);rw[e];exact h4 i j u (by simpa using hi) hj
theorem Im.or {b b':Bool}{k:Nat}(h:Im g c b k):Im g c (b||b') k:=by
 cases b with
 |true=>exact h
 |false=>cases b' with |true=>exact h.weak |false=>exact h
theorem Im.or' {b b':Bool}{k:Nat}(h:Im g c b' k):Im g c (b||b') k:=by rw[Bool.or_comm];exact h.or
theorem TH {hp:Hp}{x:AV}{d:D}{b:Bool}{is:List Nat}(hd:CS hp x=some (d,b,is)):∀i∈is,∃es sz v fz,hp i=some (.rw es sz v b fz):=by
 unfold CS at hd;split at hd
 ·cases hd;simp
 ·cases hd;simp
 ·cases hd
 ·cases hd
 ·cases hd;simp
 ·split at hd
  ·rename_i es sz v br fz hi;split at hd
   ·cases hd;intro i h;simp only[Ln] at h;subst h;exact⟨es,sz,v,fz,hi⟩
   cases hd
  cases hd
 cases hd
theorem V9 {hp:Hp}(hr:HR g c)(hhp:c.hp=hp)(I:Nat->Prop):∀ {xs:List AV} {ds:List D} {b:Bool} {is:List Nat} (vs:Nat->Value),DE hp xs=some (ds,b,is)->(∀(j:Nat) (x:AV),xs[j]? =some x->RA g c x (vs j))->
  (∀k,Im g c b k->I k)->(∀i∈is,I (c.φ i))->ds.length=xs.length/\∀(j:Nat) (d:D),ds[j]? =some d->RC c.w I d (vs j)
 |[],ds,b,is,vs,h,_,_,_=>by
  simp only[DE,Le,Lu] at h;obtain⟨rfl,_⟩:=h;exact⟨rfl,fun j d h=>by simp at h⟩
 |x::xs,ds,b,is,vs,h,hx,h1,h2=>by
  unfold DE at h;split at h
  ·rename_i d b1 i1 ds1 b2 i2 e1 e2;cases h;have hd:=TF hr hhp (hx 0 x rfl) e1 I (fun k hk=>h1 k hk.or) fun i hi=>h2 i (by simp[hi]);obtain⟨g1,g2⟩:=V9 hr hhp I (fun j=>vs (j+1)) e2 (fun j y hy=>hx (j+1) y (by simpa using hy)) (fun k hk=>h1 k hk.or') fun i hi=>h2 i (by simp[hi]);refine⟨by simp[g1],fun j y hy=> ?_⟩;cases j with |zero=>simp at hy;subst hy;exact hd |succ j=>exact g2 j y (by simpa using hy)
  cases h
theorem TJ {hp:Hp}:∀ {xs:List AV} {ds:List D} {b:Bool} {is:List Nat},DE hp xs=some (ds,b,is)->∀i∈is,∃es sz v br fz,hp i=some (.rw es sz v br fz)
 |[],ds,b,is,h=>by
  simp only[DE,Le,Lu] at h;obtain⟨_,_,rfl⟩:=h;simp
 |x::xs,ds,b,is,h=>by
  unfold DE at h;split at h
  ·rename_i d b1 i1 ds1 b2 i2 e1 e2;cases h;intro i hi;rcases Ls.1 hi with h3 |h3
   ·obtain⟨es,sz,v,fz,h4⟩:=TH e1 i h3;exact⟨es,sz,v,_,fz,h4⟩
   exact TJ e2 i h3
  cases h
theorem TL {hp:Hp}(hr:HR g c)(hhp:c.hp=hp)(I:Nat->Prop){x:AV}{d:D}{b:Bool}{is:List Nat}{u:Value}(h:EP hp x=some (d,b,is))(hx:Am g c x u)
  (h1:∀k,Im g c b k->I k) (h2:∀i∈is,I (c.φ i)):DJ c.w I d u/\(∀ds,d≠ .tu ds)/\(GO d).length=u.cells.size/\∀(j:Nat) (e:D),(GO d)[j]? =some e->∃y,u.cells[j]? =some y/\RC c.w I e y:=by
 have single:∀ {d:D} {u:Value},RC c.w I d u->DJ c.w I d u/\(∀ds,d≠ .tu ds)/\(GO d).length=u.cells.size/\∀(j:Nat) (e:D),(GO d)[j]? =some e->∃y,u.cells[j]? =some y/\RC c.w I e y:=by
  intro d u h;have hc:GO d= [d]:=by cases h<;>rfl
  have hv:DJ c.w I d u:=by
   unfold DJ;split
   ·cases h
   exact h
  refine⟨hv,fun ds e=> ?_,?_,?_⟩
  ·subst e;cases h
  ·rw[hc,V5 h.one];rfl
  rw[hc,V5 h.one];intro j e he;cases j with |zero=>simp at he;subst he;exact⟨u,rfl,h⟩ |succ j=>simp at he
 have agg:∀ {cs:List D} {vs:Array Value},vs.size=cs.length->(∀(j:Nat) (e:D),cs[j]? =some e->∃y,vs[j]? =some y/\RC c.w I e y)->DJ c.w I (.ag cs) (.agg vs)/\(∀ds,D.ag cs≠ .tu ds)/\(GO (.ag cs)).length=(Value.agg vs).cells.size/\∀(j:Nat) (e:D),(GO (.ag cs))[j]? =some e->∃y,(Value.agg vs).cells[j]? =some y/\RC c.w I e y:=
  fun hs hc=>⟨⟨_,rfl,hs,hc⟩,fun ds=>by simp,hs.symm,hc⟩
 unfold EP at h;split at h
 ·rename_i cs;obtain⟨⟨ds,b',is'⟩,e1,e2⟩:=La.1 h;simp only[Lu] at e2;obtain⟨rfl,rfl,rfl⟩:=e2;obtain⟨vs,rfl,g1,g2⟩:=hx;have hf:∀(j:Nat) (x:AV),cs[j]? =some x->vs[j]? =some (vs.getD j undef)/\RA g c x (vs.getD j undef):=by
   intro j x hj;obtain⟨y,k1,k2⟩:=g2 j x hj;have hlt:=(LN.1 k1).1
   have:vs.getD j undef=y:=by
    rw[LA hlt] at k1;simpa [Array.getD,hlt] using k1
   rw[this];exact⟨k1,k2⟩
  obtain⟨g3,g4⟩:=V9 hr hhp I (fun j=>vs.getD j undef) e1 (fun j x hj=>(hf j x hj).2) h1 h2;refine agg (by omega) fun j e he=> ?_;have hlt:=(Lb.1 he).1;exact⟨_,(hf j _ (Ld (show j<cs.length by omega))).1,g4 j e he⟩
 ·rename_i cs b';cases h;obtain⟨vs,rfl,g1,g2⟩:=hx;cases hp:I7 cs with
  |true=>exact agg g1 fun j e he=>let ⟨y,k1,k2⟩:=g2 j e he;⟨y,k1,k2.plain (LL.1 hp e (Lt he))⟩
  |false=>exact agg g1 fun j e he=>let ⟨y,k1,k2⟩:=g2 j e he;⟨y,k1,k2.mono (fun _ _=>rfl) (by simpa [hp] using h1)⟩
 rename_i hna hnd;have hra:RA g c x u:=by
  cases x with
  |ag cs=>exact absurd rfl (hna cs)
  |un=>simp[CS] at h
  |tu cs=>simp[CS] at h
  |d y b'=>cases y with |ag cs=>exact absurd rfl (hnd cs b') |tu cs=>simp[CS] at h |_=>exact hx
  |_=>exact hx
 exact single (TF hr hhp hra h I h1 h2)
theorem TM {hp:Hp}{x:AV}{d:D}{b:Bool}{is:List Nat}(h:EP hp x=some (d,b,is)):∀i∈is,∃es sz v br fz,hp i=some (.rw es sz v br fz):=by
 unfold EP at h;split at h
 ·obtain⟨⟨ds,b',is'⟩,e1,e2⟩:=La.1 h;simp only[Lu] at e2;obtain⟨rfl,rfl,rfl⟩:=e2;exact TJ e1
 ·cases h;simp
 intro i hi;obtain⟨es,sz,v,fz,h4⟩:=TH h i hi;exact⟨es,sz,v,_,fz,h4⟩
end
end
section
section
variable {P:Program}{tab:Nat->TI}{o:Oper}{a:Act}{g:Gh}{c:Cf}{id:Nat}{ρ:Operand->AV}
theorem Im.frozen (hr:HR g c){kn:Nat->Prop}{is:List Nat}{i:Nat}(hi:i∈is){es sz v br fz}(h:c.hp i=some (.rw es sz v br fz))(b:Bool):Im g ⟨Av (frz c.hp is) c.hp,c.φ,c.w,kn⟩ b (c.φ i):=by
 obtain⟨_,h2,h3⟩:=hr.dom i _ h;have hfz:∀(is:List Nat) (hp':Hp),(i∈is\/∃es sz v br,hp' i=some (.rw es sz v br true))->∃es sz v br,Av (Ab.frz c.hp is) hp' i=some (.rw es sz v br true):=by
  intro is;induction is with
  |nil=>
   intro hp' hh;rcases hh with hh |hh
   ·simp at hh
   ·exact hh
  |cons j r ih=>
   intro hp' hh;unfold Ab.frz;split
   ·rename_i es' sz' v' br' fz' he;simp only[Av];refine ih _ ?_;by_cases e:i=j
    ·subst e;exact .inr ⟨_,_,_,_,Ah _ _ _⟩
    rcases hh with hh |⟨es1,sz1,v1,br1,hh⟩
    ·rcases Lm.1 hh with h5 |h5
     ·exact absurd h5 e
     exact .inl h5
    exact .inr ⟨_,_,_,_,by rw[Ad _ _ e];exact hh⟩
   rename_i hne;refine ih _ ?_;rcases hh with hh |hh
   ·rcases Lm.1 hh with h5 |h5
    ·subst h5;exact absurd h (hne _ _ _ _ _)
    exact .inl h5
   exact .inr hh
 obtain⟨es',sz',v',br',hf⟩:=hfz is c.hp (.inl hi);have hr2:=(CF.frz hr c.kn (fun i h=>h) is).2;refine⟨h3,fun hm=> ?_,fun j p hj hp e=> ?_,fun _=>h2.1⟩
 ·exact h2.2 hm
 by_cases e2:j=i
 ·subst e2;simp only[hf,Le] at hj;subst hj;simp[AO.fz] at hp
 exact hr2.inj j i p _ hj hf e2 e
theorem Ra {hp:Hp}(hr:HR g c)(hhp:c.hp=hp)(I:Nat->Prop):∀ {xs:List AV} {ds:List D} {b:Bool} {is:List Nat} (us:Nat->Value),CT hp xs=some (ds,b,is)->(∀(j:Nat) (x:AV),xs[j]? =some x->Am g c x (us j))->
  (∀k,Im g c b k->I k)->(∀i∈is,I (c.φ i))->ds.length=xs.length/\∀(j:Nat) (d:D),ds[j]? =some d->DJ c.w I d (us j)/\(∀ds,d≠ .tu ds)/\(GO d).length=(us j).cells.size/\∀(k:Nat) (e:D),(GO d)[k]? =some e->∃y,(us j).cells[k]? =some y/\RC c.w I e y
 |[],ds,b,is,us,h,_,_,_=>by
  simp only[CT,Le,Lu] at h;obtain⟨rfl,_⟩:=h;exact⟨rfl,fun j d h=>by simp at h⟩
 |x::xs,ds,b,is,us,h,hx,h1,h2=>by
  unfold CT at h;split at h
  ·rename_i d b1 i1 ds1 b2 i2 e1 e2;cases h;have hd:=TL hr hhp I e1 (hx 0 x rfl) (fun k hk=>h1 k hk.or) fun i hi=>h2 i (by simp[hi]);obtain⟨g1,g2⟩:=Ra hr hhp I (fun j=>us (j+1)) e2 (fun j y hy=>hx (j+1) y (by simpa using hy)) (fun k hk=>h1 k hk.or') fun i hi=>h2 i (by simp[hi]);refine⟨by simp[g1],fun j y hy=> ?_⟩;cases j with |zero=>simp at hy;subst hy;exact hd |succ j=>exact g2 j y (by simpa using hy)
  cases h
theorem Pi {hp:Hp}:∀ {xs:List AV} {ds:List D} {b:Bool} {is:List Nat},CT hp xs=some (ds,b,is)->∀i∈is,∃es sz v br fz,hp i=some (.rw es sz v br fz)
 |[],ds,b,is,h=>by
  simp only[CT,Le,Lu] at h;obtain⟨_,_,rfl⟩:=h;simp
 |x::xs,ds,b,is,h=>by
  unfold CT at h;split at h
  ·rename_i d b1 i1 ds1 b2 i2 e1 e2;cases h;intro i hi;rcases Ls.1 hi with h3 |h3
   ·exact TM e1 i h3
   exact Pi e2 i h3
  cases h
theorem eM:∀(xs ys:List (Nat × AO)) (h:Hp),Av (xs++ys) h=Av ys (Av xs h)
 |[],_,_=>rfl
 |(_,_)::xs,ys,_=>eM xs ys _
theorem CI.after {δ0 δ:List (Nat × AO)}{v:AV}(he:CF c ⟨Av δ0 c.hp,c.φ,c.w,c.kn⟩)(h:CI P o a g ⟨Av δ0 c.hp,c.φ,c.w,c.kn⟩ id v δ):CI P o a g c id v (δ0++δ):=by
 obtain⟨φ',u,w',h1,h2,h3,h4⟩:=h;refine⟨φ',u,w',h1,?_⟩;rw[eM];exact⟨he.trans h2,h3,h4⟩
theorem oG {sz t:Nat}(hsz:0<sz):t=t / sz*sz+t%sz/\t%sz<sz:=⟨by have:=Nat.div_add_mod t sz;rw[Bv] at this;omega,Og _ hsz⟩
theorem oH (hr:HR g c)(ht:AU P tab){T:TypeId}{n:Nat}{ps:Array (Nat × Operand)}(ho:o.op= .buildSlice T n ps)(hk:(tab T).kind= .slice)(hps:ps.toList.map (·.1)=List.range n)(hok:(tab (tab T).elem).ok=true)
  (hsz:0<(tab (tab T).elem).size) (hn:n*(tab (tab T).elem).size<=16777216) (hρ:∀x,Am g c (ρ x) (a.eval x)) {ds:List D} {b:Bool} {is:List Nat} (hd:CT c.hp (ps.toList.map fun p=>ρ p.2)=some (ds,b,is))
  (hck:ED (tab (tab T).elem).size (ds.map GO)=true) (hid:¬c.kn id):CI P o a g c id (.so id 0 0 n) (frz c.hp is++[(id,.rw (ds.map GO) (tab (tab T).elem).size 0 b false)]):=by
 obtain⟨he1,hr1⟩:=CF.frz hr c.kn (fun i h=>h) is;refine CI.after he1 ?_;generalize hS:(tab (tab T).elem).size=sz at *;have hlen:ps.toList.length=n:=by have:=congrArg List.length hps;simpa using this
 have hrow:∀i∈is,Im g ⟨Av (frz c.hp is) c.hp,c.φ,c.w,c.kn⟩ b (c.φ i):=fun i hi=>by
  obtain⟨es,s,v,br,fz,h1⟩:=Pi hd i hi;exact Im.frozen hr hi h1 b
 obtain⟨hl,hval⟩:=Ra hr rfl (Im g ⟨Av (frz c.hp is) c.hp,c.φ,c.w,c.kn⟩ b) (fun j=>(((ps.toList.map fun p=>a.eval p.2))[j]?).getD undef) hd (fun j x hx=>by
  rw[Lj,La] at hx;obtain⟨p,h1,rfl⟩:=hx;rw[Lj,h1];exact hρ p.2) (fun k hk=>hk.ext he1) hrow
 have hl':ds.length=n:=by rw[hl,LC,hlen]
 obtain⟨i,z,h1,h2,h3,h4,h5,h6,h7⟩:=ht.info _ hok;rw[hS] at h2 h6;have hparts:(ps.map fun(i,x)=>(i,a.eval x)).toList=((ps.toList.map fun p=>a.eval p.2).zipIdx 0).map fun p=>(p.2,p.1):=by
  apply Bc;intro k;rw[Array.toList_map,Lj,Lj,OU,Lj];cases hk:ps.toList[k]? with
  |none=>simp
  |some p=>
   have h8:(ps.toList.map (·.1))[k]? =some p.1:=(by rw[Lj,hk];rfl);have hlt:k<n:=by
    have:=(Lb.1 hk).1;omega
   rw[hps,Bg hlt] at h8;simp only[Le] at h8;simp[<-h8]
 have hvs:∀v∈(ps.toList.map fun p=>a.eval p.2),v.cells.size=sz:=by
  intro v hv;obtain⟨j,hj⟩:=NU.1 hv;have hlt:=(Lb.1 hj).1;simp only[LC] at hlt;have hd2:ds[j]? =some ds[j]:=Ld (by omega);obtain⟨_,_,g1,_⟩:=hval j _ hd2;have g2:(GO ds[j]).length=sz:=by
   have:=LL.1 hck (GO ds[j]) (LH (NV _));simpa using this
  rw[hj] at g1;simpa [g2] using g1.symm
 obtain⟨out,k1,k2,k3,k4⟩:=eJ sz hsz (ps.toList.map fun p=>a.eval p.2) 0 ((Array.range (n*sz)).map (z.cells[· %z.cells.size]!)) (by simp[hlen]) hvs;rw[<-hparts] at k1;have hrun:(execOp a.eval o).run P c.w= .ok (.value (.slice (some ⟨c.w.heap.size,0,none⟩) n n)) (c.w.alloc (.cells out (tab T).elem)):=by
  unfold execOp;by_cases h0:n=0
  ·subst h0;have e0:ps.toList= []:=LW hlen;have e1:ps= #[]:=(by simpa using e0);subst e1;have e2:out= #[]:=BC (by rw[k2];simp);subst e2;simp[ho,Instr.buildSlice,run_underlying (ht.slice hk),sizeOf,typeInfo,h1,Instr.fill,newRow];congr 2;exact BC (by simp)
  have hpos:¬n*i.size=0:=by
   rw[h2]
   have:=Nat.mul_pos (Nat.pos_of_ne_zero h0) hsz;omega
  have:=run_buildSlice (P:=P) c.w T (tab T).elem n (ps.map fun(i,x)=>(i,a.eval x)) out i z (ht.slice hk) h1 h4 (by rw[h2];omega) hpos (by rw[h2];exact k1);simp only[ho,Sem.run_bind,this,Result.andThen_ok,Sem.run_pure]
 refine V6 hr1 hid hrun (fun c' he hφ hw=>⟨hsz,fun i cs hi=> ?_,(tab T).elem,out,n,?_,by rw[k2];simp,by simp[hl'],?_,fun i j cs d hi hj=> ?_⟩) fun c' he hφ hw hh hkn=> ?_
 ·have:=LL.1 hck cs (Lt hi);simpa using this
 ·rw[hφ,hw];exact heap_alloc_new _ _
 ·have:n*1<=n*sz:=Nat.mul_le_mul_left _ hsz;simp only[maxLen];omega
 ·rw[Lj,La] at hi;obtain⟨dd,g1,rfl⟩:=hi;obtain⟨_,_,g2,g3⟩:=hval i dd g1;obtain⟨y,g4,g5⟩:=g3 j d hj;have hlt:i<n:=by
   have:=(Lb.1 g1).1;omega
  have g6:(ps.toList.map fun p=>a.eval p.2)[i]? =some (((ps.toList.map fun p=>a.eval p.2)[i]?).getD undef):=by
   rw[Ld (by simpa [hlen] using hlt)];rfl
  have hjs:j<sz:=by
   have e1:=(Lb.1 hj).1;have e2:(GO dd).length=sz:=by
    have:=LL.1 hck (GO dd) (LH (Lt g1));simpa using this
   omega
  have:=k4 i j _ g6 hjs;rw[NC] at this;exact⟨y,by rw[this];exact g4,RC.ext he g5⟩
 refine RA.so id 0 0 n _ hkn ⟨_,_,rfl⟩ fun es s v br fz hr=> ?_
 rw[hh] at hr;cases hr;refine⟨Lc _,fun _=>⟨by simp[hl'],out,(tab T).elem,n,?_,by rw[k2];simp,by rw[hφ,BJ]⟩⟩;rw[hφ,hw];exact heap_alloc_new _ _
end
end
section
section
variable {P:Program}{tab:Nat->TI}{o:Oper}{a:Act}{g:Gh}{c:Cf}{id:Nat}{ρ:Operand->AV}
def G2 (m sz:Nat)(f:Nat->Nat->Value):List Value:=(List.range (m*sz)).map fun t=>f (t / sz) (t%sz)
theorem Yb {m sz:Nat}{f:Nat->Nat->Value}{t:Nat}{v:Value}(hsz:0<sz)(h:(G2 m sz f)[t]? =some v):t / sz<m/\t%sz<sz/\v=f (t / sz) (t%sz)/\t=t / sz*sz+t%sz:=by
 unfold G2 at h;rw[Lj] at h;by_cases ht:t<m*sz
 ·rw[Bg ht] at h;simp only[LO,Le] at h;refine⟨(Nat.div_lt_iff_lt_mul hsz).2 ht,Og _ hsz,h.symm,(oG hsz).1⟩
 rw[LX (by simp;omega)] at h;cases h
theorem Yc {m sz:Nat}{f:Nat->Nat->Value}{i j:Nat}(hi:i<m)(hj:j<sz):(G2 m sz f)[i*sz+j]? =some (f i j):=by
 have hlt:i*sz+j<m*sz:=by
  have:(i+1)*sz<=m*sz:=LR _ hi;rw[Nb] at this;omega
 have h0:0<sz:=by omega
 have e1:(i*sz+j) / sz=i:=by rw[Bv,Nat.mul_add_div h0,Ik hj];rfl
 have e2:(i*sz+j)%sz=j:=by rw[Bv,Nat.mul_add_mod,BN hj]
 unfold G2;rw[Lj,Bg hlt];simp[e1,e2]
theorem Rb (m sz:Nat)(f:Nat->Nat->Value):(G2 m sz f).length=m*sz:=by simp[G2]
def Yd (g:Gh)(c:Cf)(u:Value)(ys:List (List D))(b:Bool)(sz:Nat):Prop:=(ys= []/\∃A cx,u= .slice A 0 cx)\/ (ys≠[]/\∃(bl p cx:Nat) (f:Nat->Nat->Value),u= .slice (some ⟨bl,p,none⟩) ys.length cx/\(∀i j,i<ys.length->j<sz->c.w.cell? ⟨bl,p+(i*sz+j),none⟩=some (f i j)/\(f i j).oneCell'=true)/\ ∀(i j:Nat) (cs:List D) (d:D),ys[i]? =some cs->cs[j]? =some d->RC c.w (Im g c b) d (f i j))
theorem Rc {sz:Nat}{es:List (List D)}(h:ED sz es=true){i:Nat}{cs:List D}(hi:es[i]? =some cs):cs.length=sz:=by
 have:=LL.1 h cs (Lt hi);simpa using this
theorem eO (hr:HR g c){y:AV}{u:Value}{ys:List (List D)}{b:Bool}{is:List Nat}{sz:Nat}(hy:Am g c y u)(h:Fg c.hp y=some (ys,b,is))(hck:ED sz ys=true):Yd g c u ys b sz:=by
 unfold Fg at h;split at h
 ·cases h;have hd:=hy.dsl;generalize hD:D.sl ys=dd at hd;cases hd with
  |nl A cx=>cases hD;exact .inl ⟨rfl,A,cx,rfl⟩
  |sl es bl p cx sz' us hI hc hz hm hd=>
   cases hD;by_cases h0:ys= []
   ·subst h0;exact .inl ⟨rfl,_,_,rfl⟩
   ·have hsz:sz'=sz:=by
     have hp:0<ys.length:=NA.2 h0;have e1:ys[0]? =some ys[0]:=Ld hp;rw[<-hz 0 _ e1,Rc hck e1]
    subst hsz;have hd':∀(i j:Nat) (cs:List D) (d:D),ys[i]? =some cs->cs[j]? =some d->RC c.w (Im g c (_&& !JN ys)) d (us i j):=fun i j cs d e1 e2=>by
     cases hp:JN ys with |true=>exact(hd i j cs d e1 e2).plain (LL.1 (LL.1 hp cs (Lt e1)) d (Lt e2)) |false=>simpa using hd i j cs d e1 e2
    refine .inr ⟨h0,bl,p,cx,us,rfl,fun i j hi hj=> ?_,hd'⟩;have e1:ys[i]? =some ys[i]:=Ld hi;have hl:=hz i _ e1;have e2:ys[i][j]? =some (ys[i][j]'(by omega)):=Ld (by omega)
    have:=hm i j _ _ e1 e2;rw[Nu] at this;exact⟨this,(hd i j _ _ e1 e2).one⟩
  |v x h1=>cases hD
  |pt _ _ _ _ _ _ _ _=>cases hD
  |mp _ _ _ _ _ _ _ _ _=>cases hD
 ·rename_i i v off n;split at h;rotate_left
  ·cases h
  rename_i es sz' ver br fz hi;split at h;rotate_left
  ·cases h
  rename_i hv;cases h;subst hv;obtain⟨h1,_,cur,T,C,h2,h3,rfl⟩:=Am.so (show Am g c (.so i _ off n) u from hy) hi;obtain⟨h0,hz,T',vs,C',h4,h5,h6,h7,h8⟩:=hr.obj i _ hi;rw[h2] at h4;cases h4;have hl:((es.drop off).take n).length=n:=by rw[Lw,Nv];omega
  by_cases hn:(es.drop off).take n= []
  ·rw[hn] at hl;simp only[LB] at hl;subst hl;exact .inl ⟨hn,_,_,rfl⟩
  have hsz:sz'=sz:=by
   have hp:0<((es.drop off).take n).length:=NA.2 hn;have e1:((es.drop off).take n)[0]? =some ((es.drop off).take n)[0]:=Ld hp;rw[<-hz _ _ (KM _ _ _ _ _ e1).2,Rc hck e1]
  subst hsz;have hcell:∀k j,k<n->j<sz'->∃u d cs,cur[(off+k)*sz'+j]? =some u/\es[off+k]? =some cs/\cs[j]? =some d/\RC c.w (Im g c b) d u:=by
   intro k j hk hj;have e1:es[off+k]? =some es[off+k]:=Ld (by omega);have hl2:=hz _ _ e1;have e2:es[off+k][j]? =some (es[off+k][j]'(by omega)):=Ld (by omega);obtain⟨u,e3,e4⟩:=h8 _ _ _ _ e1 e2;exact⟨u,_,_,e3,e1,e2,e4⟩
  refine .inr ⟨hn,c.φ i,off*sz',C,fun k j=>cur.getD ((off+k)*sz'+j) undef,by rw[hl],fun k j hk hj=> ?_,fun k j cs d hk hj=> ?_⟩
  ·obtain⟨u,d,cs,e1,_,_,e4⟩:=hcell k j (by omega) hj;have hlt:=(LN.1 e1).1;have e5:cur.getD ((off+k)*sz'+j) undef=u:=by
    rw[LA hlt] at e1;simpa [Array.getD,hlt] using e1
   show c.w.cell? _=some (cur.getD ((off+k)*sz'+j) undef)/\(cur.getD ((off+k)*sz'+j) undef).oneCell'=true;rw[e5];refine⟨?_,e4.one⟩;have e6:off*sz'+(k*sz'+j)=(off+k)*sz'+j:=(by rw[Nb];omega);simp[World.cell?,h2,e6,e1]
  have hk2:=(KM _ _ _ _ _ hk);have hjs:j<sz':=by
   have:=(Lb.1 hj).1
   have:=hz _ _ hk2.2;omega
  obtain⟨u,d',cs',e1,e2,e3,e4⟩:=hcell k j hk2.1 hjs;rw[hk2.2] at e2;cases e2;rw[hj] at e3;cases e3;have hlt:=(LN.1 e1).1;have e5:cur.getD ((off+k)*sz'+j) undef=u:=by
   rw[LA hlt] at e1;simpa [Array.getD,hlt] using e1
  show RC c.w (Im g c b) d (cur.getD ((off+k)*sz'+j) undef);rw[e5];exact e4
 ·cases h;exact .inl ⟨rfl,none,0,hy.v.1⟩
 cases h
theorem eQ (ht:AU P tab){T ty:TypeId}(hk:(tab T).kind= .slice)(he:(tab (tab T).elem).ok=true)(b:Option Addr)(n cap:Nat)(A:Option Addr)(cx:Nat)(h:n<=cap)(w:World):
  (Builtin.append_ #[T,T] ty #[.slice b n cap,.slice A 0 cx]).run P w= .ok (.slice b n cap) w:=by
 have e1:(Builtin.firstCells (tab (tab T).elem).size 0 (.slice A 0 cx)).run P w= .ok #[] w:=by
  cases A<;>simp[Builtin.firstCells,loadCells,loadCellsFrom]
 cases b with
 |none=>simp[Builtin.append_,run_underlying (ht.slice hk),ht.sizeOf he,Builtin.lenOf,h,e1]
 |some p=>simp[Builtin.append_,run_underlying (ht.slice hk),ht.sizeOf he,Builtin.lenOf,h,e1,storeCells]
theorem oI (w:World)(t ty e te:TypeId)(i:TypeInfo)(ht:P.underlying t=some (.slice e))(hi:P.info? e=some i)
  (gb sLen sCap:Nat) (cur:Array Value) (hg:w.heap[gb]? =some (.cells cur te (0,0)))
  (ad:Addr) (m cp:Nat) (news:List Value) (hl:news.length=m*i.size) (hnews:∀(j:Nat) (u:Value),news[j]? =some u->w.cell? (ad.add j)=some u) (h1:∀u∈news,u.oneCell'=true)
  (hroom:sLen+m<=sCap) (hfit:sLen*i.size+news.length<=cur.size):
  (Builtin.append_ #[t,t] ty #[.slice (some ⟨gb,0,none⟩) sLen sCap,.slice (some ad) m cp]).run P w=
   .ok (.slice (some ⟨gb,0,none⟩) (sLen+m) sCap) (w.setRow gb (Ct (sLen*i.size) news cur.toList).toArray):=by
 have hf:=run_firstCells_some (P:=P) w i.size m ad m cp news hl hnews;have hst:=run_storeCells_at P gb (sLen*i.size) te news 0 cur w hg (by simpa using hfit) h1;simp only[NS] at hst;simp[Builtin.append_,run_underlying ht,sizeOf,typeInfo,hi,Builtin.lenOf,hroom,hf,Addr.add_lit,hst,Ct]
theorem TN {x y:Operand}{T:TypeId}(ho:o.op= .call { callee:=.builtin .append,args:= #[x,y],argTypes:= #[T,T] }){w w':World}{u:Value}(h:∀ty,(Builtin.append_ #[T,T] ty #[a.eval x,a.eval y]).run P w= .ok u w'):(execOp a.eval o).run P w= .ok (.value u) w':=by
 unfold execOp;simp[ho,resolve,invoke,builtin,h]
theorem Ye (hr:HR g c){w0:World}(hh:w0.heap=c.w.heap)(hos:w0.os=c.w.os)(htp:w0.tape=c.w.tape)(hou:w0.output=c.w.output){cells:Array Value}{T:TypeId}{C n sz ver:Nat}{es:List (List D)}{br:Bool}(hid:¬c.kn id)(hsz:0<sz)(hz:∀(i:Nat) (cs:List D),es[i]? =some cs->cs.length=sz)
  (hs:cells.size=C*sz) (hn:es.length=n) (hC:n<=C) (hC2:C<=maxLen) (hc:∀(i j:Nat) (cs:List D) (d:D),es[i]? =some cs->cs[j]? =some d->∃u,cells[i*sz+j]? =some u/\RC c.w (Im g c br) d u)
  (h:(execOp a.eval o).run P c.w= .ok (.value (.slice (some ⟨c.w.heap.size,0,none⟩) n C)) (w0.alloc (.cells cells T))) (hdr:c.w.drawn<=w0.drawn:=by first |exact Lc _ |exact Bj _):CI P o a g c id (.so id ver 0 n) [(id,.rw es sz ver br false)]:=by
 have hnew:(w0.alloc (.cells cells T)).heap[c.w.heap.size]? =some (.cells cells T (0,0)):=by rw[<-hh];exact heap_alloc_new _ _
 have hbl:∀k,k<c.w.heap.size->(w0.alloc (.cells cells T)).heap[k]? =c.w.heap[k]? :=fun k hk=>by
  rw[<-hh] at hk⊢;exact heap_alloc_old w0 _ hk
 have hsize:c.w.heap.size<(w0.alloc (.cells cells T)).heap.size:=by rw[<-hh];simp
 have he:=CF.new (ao:=.rw es sz ver br false) (kn:=fun k=>c.kn k\/k=id) hr hid (w':=w0.alloc (.cells cells T)) (b:=c.w.heap.size) hos htp hou (BK hsize) hbl (Lc _) (fun _ h=>.inl h) hdr;refine⟨upd id c.w.heap.size c.φ,_,_,.val h,he,HR.new hr he hid (Lc _) hsize (.inr rfl) hbl ⟨hsz,hz,T,cells,C,?_,hs,by omega,hC2,fun i j cs d hi hj=> ?_⟩,?_⟩
 ·simp only[Ah];exact hnew
 ·obtain⟨u,e1,e2⟩:=hc i j cs d hi hj;exact⟨u,e1,RC.ext he e2⟩
 refine RA.so id ver 0 n _ (.inr rfl) ⟨_,_,rfl⟩ fun es' s v br fz hr'=> ?_
 simp only[Av,Ah,Le,AO.rw.injEq] at hr';obtain⟨rfl,rfl,rfl,rfl,rfl⟩:=hr';refine⟨Lc _,fun _=>⟨by omega,cells,T,C,?_,by rw[hs,NC],?_⟩⟩
 ·simp only[Ah];exact hnew
 simp only[Ah,BJ]
theorem append_nil (hr:HR g c)(ht:AU P tab){T:TypeId}{x y:Operand}(ho:o.op= .call { callee:=.builtin .append,args:= #[x,y],argTypes:= #[T,T] })(hk:(tab T).kind= .slice)(he:(tab (tab T).elem).ok=true)(hsz:0<(tab (tab T).elem).size)
  (hx:a.eval x= .slice none 0 0) {ys:List (List D)} {b:Bool} (hs:Yd g c (a.eval y) ys b (tab (tab T).elem).size) (hck:ED (tab (tab T).elem).size ys=true) (hb:ys.length*(tab (tab T).elem).bytes<=140737488355328) (hm:ys.length<=maxLen) (hid:¬c.kn id) {v:AV} {δ:List (Nat × AO)}
  (hv:(if ys.length=0 then some (.v (.slice none 0 0),[]) else some (.so id 0 0 ys.length,[(id,.rw ys (tab (tab T).elem).size 0 b false)]))=some (v,δ)):CI P o a g c id v δ:=by
 rcases hs with⟨rfl,A,cx,hy⟩ |⟨hne,bl,p,cx,f,hy,hf,hd⟩
 ·simp only[LB,if_true,Le,Lu] at hv;obtain⟨rfl,rfl⟩:=hv;exact CI.pure hr (TN ho fun ty=>by rw[hx,hy];exact eQ ht hk he none 0 0 A cx (Lc _) c.w) (RA.v _ rfl)
 have hpos:0<ys.length:=NA.2 hne;rw[ifn] at hv;simp only[Le,Lu] at hv;obtain⟨rfl,rfl⟩:=hv;obtain⟨i,z,h1,h2,h3,h4,h5,h6,h7⟩:=ht.info _ he;generalize hS:(tab (tab T).elem).size=sz at *;have hrun:=run_append_nil (P:=P) c.w T o.type (tab T).elem i z (ht.slice hk) h1 h4 ⟨bl,p,none⟩ ys.length cx (G2 ys.length sz f) (by rw[Rb,h2]) (fun t v hv=>by
  obtain⟨e1,e2,rfl,e4⟩:=Yb hsz hv;rw[HO]
  have:=(hf _ _ e1 e2).1;rw[<-e4] at this;exact this) hpos (by simp only[maxLen] at hm;omega) (by rw[h3];omega)
 have hcap:=grownCap_ge c.w ys.length 0 (tab T).elem;have hcap2:=grownCap_le_maxLen c.w ys.length 0 (tab T).elem hm;refine Ye hr (w0:=c.w.drew) rfl rfl rfl rfl hid hsz (fun i cs hi=>Rc hck hi) (C:=grownCap c.w ys.length 0 (tab T).elem) ?_ rfl hcap hcap2 (fun i j cs d hi hj=> ?_) (TN ho fun ty=>by rw[hx,hy];exact hrun)
 ·rw[B9,size_zeroCells,h5];simp only[LU,Rb,h6,<-Nb];congr 1;omega
 have hi2:=(Lb.1 hi).1;have hj2:j<sz:=by
  have:=(Lb.1 hj).1;rw[Rc hck hi] at this;exact this
 refine⟨f i j,?_,hd i j cs d hi hj⟩
 have:=Yc (f:=f) hi2 hj2;have hlt:=(Lb.1 this).1;rw[NB (by simpa using hlt)];simpa using this
theorem oJ (hr:HR g c)(ht:AU P tab){T:TypeId}{x y:Operand}(ho:o.op= .call { callee:=.builtin .append,args:= #[x,y],argTypes:= #[T,T] })(hk:(tab T).kind= .slice)(he:(tab (tab T).elem).ok=true)(hsz:0<(tab (tab T).elem).size)
  {i ver n:Nat} {es ys:List (List D)} {br b:Bool} (hi:c.hp i=some (.rw es (tab (tab T).elem).size ver br false)) (hx:Am g c (.so i ver 0 n) (a.eval x)) (hn:n<=es.length) (hs:Yd g c (a.eval y) ys b (tab (tab T).elem).size) (hck:ED (tab (tab T).elem).size ys=true)
  (hb:(n+ys.length)*(tab (tab T).elem).bytes<=140737488355328) (hm:n+ys.length<=maxLen):CI P o a g c id (.so i (ver+1) 0 (n+ys.length)) [(i,.rw (es.take n++ys) (tab (tab T).elem).size (ver+1) (br||b) false)]:=by
 generalize hS:(tab (tab T).elem).size=sz at *;obtain⟨_,hkn,cur,Te,C,h2,h3,h4⟩:=Am.so hx hi;obtain⟨h0,hz,Te',vs,C',h5,h6,h7,h8,h9⟩:=hr.obj i _ hi;rw[h2] at h5;cases h5;rw[NC] at h3;rw[BJ] at h4;have hCC:C=C':=BP h0 (h3.symm.trans h6);subst hCC;have hlt:=(hr.dom i _ hi).2.2;have hlen:(es.take n++ys).length=n+ys.length:=by rw[Lf,Lw];omega
 have hz2:∀(k:Nat) (cs:List D),(es.take n++ys)[k]? =some cs->cs.length=sz:=by
  intro k cs hkk;by_cases hkn:k<n
  ·rw[Nq (by rw[Lw];omega),Nn,if_pos hkn] at hkk;exact hz k cs hkk
  rw[L8 (by rw[Lw];omega)] at hkk;exact Rc hck hkk
 have cellsOk:∀ {L:Array Value} {c':Cf} {f:Nat->Nat->Value},CF c c'->(∀t,t<n*sz->L[t]? =cur[t]?)->(∀k j,k<ys.length->j<sz->L[n*sz+(k*sz+j)]? =some (f k j))->(∀(i j:Nat) (cs:List D) (d:D),ys[i]? =some cs->cs[j]? =some d->RC c.w (Im g c b) d (f i j))->
   ∀(k j:Nat) (cs:List D) (d:D),(es.take n++ys)[k]? =some cs->cs[j]? =some d->∃u,L[k*sz+j]? =some u/\RC c'.w (Im g c' (br||b)) d u:=by
  intro L c' f hext hL1 hL2 hf k j cs d hkk hj;have hjs:j<sz:=by
   have:=(Lb.1 hj).1;rw[hz2 k cs hkk] at this;exact this
  by_cases hkn:k<n
  ·rw[Nq (by rw[Lw];omega),Nn,if_pos hkn] at hkk;obtain⟨u,e1,e2⟩:=h9 k j cs d hkk hj;refine⟨u,?_,(RC.ext hext e2).mono (fun _ _=>rfl) fun _ hh=>hh.or⟩;rw[hL1 _ (by
    have:(k+1)*sz<=n*sz:=LR _ hkn;rw[Nb] at this;omega)]
   exact e1
  rw[L8 (by rw[Lw];omega),Lw,BZ hn] at hkk;have hk2:=(Lb.1 hkk).1;refine⟨f (k-n) j,?_,(RC.ext hext (hf _ _ _ _ hkk hj)).mono (fun _ _=>rfl) fun _ hh=>hh.or'⟩;have e1:k*sz+j=n*sz+((k-n)*sz+j):=by
   have:k=n+(k-n):=(by omega);rw[<-Nu,<-Nb,<-this]
  rw[e1];exact hL2 _ _ hk2 hjs
 have soOk:∀ {c':Cf} {L:Array Value} {C2:Nat} {bl:Nat},c'.kn i->c'.hp i=some (.rw (es.take n++ys) sz (ver+1) (br||b) false)->c'.φ i=bl->c'.w.heap[bl]? =some (.cells L Te (0,0))->L.size=C2*sz->Am g c' (.so i (ver+1) 0 (n+ys.length)) (.slice (some ⟨bl,0,none⟩) (n+ys.length) C2):=by
  intro c' L C2 bl hkn' hh hφ hw hL;refine RA.so i (ver+1) 0 (n+ys.length) _ hkn' ⟨_,_,rfl⟩ fun es' s v br' fz' hr'=> ?_;rw[hh] at hr';cases hr';exact⟨Lc _,fun _=>⟨by omega,L,Te,C2,by rw[hφ];exact hw,by rw[hL,NC],by rw[hφ,BJ]⟩⟩
 have hrs:∀es' sz' v' br' fz',AO.rw (es.take n++ys) sz (ver+1) (br||b) false= .rw es' sz' v' br' fz'->∃es0 v br0 fz,AO.rw es sz ver br false= .rw es0 sz' v br0 fz/\v<=v'/\(v=v'->es0.length=es'.length):=by
  intro es' sz' v' br' fz' e;cases e;exact⟨es,ver,br,false,rfl,by omega,fun e=>by omega⟩
 have inPlace:∀ {L:Array Value} {f:Nat->Nat->Value},L.size=cur.size->n+ys.length<=C->(∀t,t<n*sz->L[t]? =cur[t]?)->(∀k j,k<ys.length->j<sz->L[n*sz+(k*sz+j)]? =some (f k j))->(∀(i j:Nat) (cs:List D) (d:D),ys[i]? =some cs->cs[j]? =some d->RC c.w (Im g c b) d (f i j))->
   (execOp a.eval o).run P c.w= .ok (.value (.slice (some ⟨c.φ i,0,none⟩) (n+ys.length) C)) (c.w.setRow (c.φ i) L)->CI P o a g c id (.so i (ver+1) 0 (n+ys.length)) [(i,.rw (es.take n++ys) sz (ver+1) (br||b) false)]:=by
  intro L f hL hroom hL1 hL2 hf hrun;have hnew:(c.w.setRow (c.φ i) L).heap[c.φ i]? =some (.cells L Te (0,0)):=setRow_heap c.w (c.φ i) cur _ Te _ h2;have hbl:∀k,k<c.w.heap.size->k≠c.φ i->(c.w.setRow (c.φ i) L).heap[k]? =c.w.heap[k]? :=fun k _ hk=>setRow_other c.w (c.φ i) k _ hk;have hext:CF c ⟨upd i (some (.rw (es.take n++ys) sz (ver+1) (br||b) false)) c.hp,upd i (c.φ i) c.φ,c.w.setRow (c.φ i) L,fun k=>c.kn k\/k=id⟩:=by
   refine CF.chg hr hi rfl rfl rfl rfl (by simp) hbl (.inl rfl) (fun _ h=>.inl h) (fun h=>by cases h) fun es' sz' v' br' fz' e=> ?_;cases e;exact⟨es,ver,br,false,rfl,by omega,fun e=>by omega⟩
  refine⟨_,_,_,.val hrun,hext,HR.chg hr hi hext hbl (.inl rfl) (by simpa using hlt) ⟨h0,hz2,Te,L,C,?_,by rw[hL,h3],by omega,h8,cellsOk hext hL1 hL2 hf⟩,soOk (.inl hkn) (Ah _ _ _) (Ah _ _ _) hnew (by rw[hL,h3])⟩;simp only[Ah];exact hnew
 rcases hs with⟨rfl,A,cx,hy⟩ |⟨hne,bl,p,cx,f,hy,hf,hd⟩
 ·have hself:c.w.setRow (c.φ i) cur=c.w:=setRow_self c.w (c.φ i) cur Te (0,0) h2;refine inPlace (L:=cur) (f:=fun _ _=>undef) rfl (by simp;omega) (fun _ _=>rfl) (fun k j hk _=>by simp at hk) (fun i j cs d hi _=>by simp at hi) (TN ho fun ty=> ?_);rw[h4,hy,hself];exact eQ ht hk he _ n C A cx (by omega) c.w
 obtain⟨it,z,g1,g2,g3,g4,g5,g6,g7⟩:=ht.info _ he;rw[hS] at g2 g6;have hnews:∀(t:Nat) (v:Value),(G2 ys.length sz f)[t]? =some v->c.w.cell? ((⟨bl,p,none⟩:Addr).add t)=some v:=fun t v hv=>by
  obtain⟨e1,e2,rfl,e4⟩:=Yb hsz hv;rw[HO]
  have:=(hf _ _ e1 e2).1;rw[<-e4] at this;exact this
 have hone:∀v∈G2 ys.length sz f,v.oneCell'=true:=fun v hv=>by
  obtain⟨t,ht⟩:=NU.1 hv;obtain⟨e1,e2,rfl,_⟩:=Yb hsz ht;exact(hf _ _ e1 e2).2
 have hms:n*sz+ys.length*sz=(n+ys.length)*sz:=by rw[Nb]
 by_cases hroom:n+ys.length<=C
 ·have hfit:n*sz+(G2 ys.length sz f).length<=cur.size:=by rw[Rb,h3,hms];exact LR _ hroom
  have hrun:=oI (P:=P) c.w T o.type (tab T).elem Te it (ht.slice hk) g1 (c.φ i) n C cur h2 ⟨bl,p,none⟩ ys.length cx (G2 ys.length sz f) (by rw[Rb,g2]) hnews hone hroom (by rw[g2];exact hfit);rw[g2] at hrun;have hl:n*sz+(G2 ys.length sz f).length<=cur.toList.length:=by simpa using hfit
  refine inPlace (L:=(Ct (n*sz) (G2 ys.length sz f) cur.toList).toArray) (f:=f) (by rw[LU,IB _ _ _ hl];simp) hroom (fun t ht=> ?_) (fun k j hkk hj=> ?_) hd (TN ho fun ty=>by rw[h4,hy];exact hrun)
  ·rw[Np,IC _ _ _ hl,if_pos ht];simp
  have e1:=Yc (f:=f) hkk hj;have e2:=(Lb.1 e1).1;rw[Np,IC _ _ _ hl,ifn,ifp,Nat.add_sub_cancel_left];exact e1
 have holds:∀(t:Nat) (v:Value),(cur.toList.take (n*sz))[t]? =some v->c.w.cell? ((⟨c.φ i,0,none⟩:Addr).add t)=some v:=fun t v hv=>by
  rw[Nn] at hv;split at hv
  ·rw[HO,NC];simp[World.cell?,h2];simpa using hv
  cases hv
 have hle:n*sz<=cur.size:=by rw[h3];exact LR _ (by omega)
 have hrun:=run_append_grow (P:=P) c.w T o.type (tab T).elem it z (ht.slice hk) g1 g4 ⟨c.φ i,0,none⟩ n C (cur.toList.take (n*sz)) (by rw[g2,Lw];simp;omega) holds ⟨bl,p,none⟩ ys.length cx (G2 ys.length sz f) (by rw[Rb,g2]) hnews (by omega)
  (by simp only[maxLen] at hm;omega) (growslice_fits (by omega) (by rw[g3];exact hb))
 have hcap:=grownCap_ge c.w (n+ys.length) C (tab T).elem;have hcap2:=grownCap_le_maxLen c.w (n+ys.length) C (tab T).elem hm;generalize hG:grownCap c.w (n+ys.length) C (tab T).elem=G at *;generalize hL:(cur.toList.take (n*sz)).toArray++(G2 ys.length sz f).toArray++Builtin.zeroCells z.cells (G-(n+ys.length))=L at *;have hLs:L.size=G*sz:=by
  rw[<-hL,B9,B9,size_zeroCells,g5];simp only[LU,Rb,g6,Lw,Nr,BZ hle];rw[hms,<-Nb];congr 1;omega
 have hL1:∀t,t<n*sz->L[t]? =cur[t]? :=fun t ht=>by
  rw[<-hL,O4,NB (by simp;omega)];simp[ht]
 have hL2:∀k j,k<ys.length->j<sz->L[n*sz+(k*sz+j)]? =some (f k j):=fun k j hkk hj=>by
  have e1:=Yc (f:=f) hkk hj;have e2:=(Lb.1 e1).1;rw[<-hL,O4,Bl (by simp;omega),NB (by simp;omega)];have e3:n*sz+(k*sz+j)-(cur.toList.take (n*sz)).toArray.size=k*sz+j:=by simp;omega
  rw[e3];simpa using e1
 have hnew:(c.w.drew.alloc (.cells L (tab T).elem)).heap[c.w.heap.size]? =some (.cells L (tab T).elem (0,0)):=heap_alloc_new c.w.drew _;have hbl:∀k,k<c.w.heap.size->(c.w.drew.alloc (.cells L (tab T).elem)).heap[k]? =c.w.heap[k]? :=fun k hk=>heap_alloc_old c.w.drew _ hk;have hsize:c.w.heap.size<(c.w.drew.alloc (.cells L (tab T).elem)).heap.size:=by simp
 have hext:CF c ⟨upd i (some (.rw (es.take n++ys) sz (ver+1) (br||b) false)) c.hp,upd i c.w.heap.size c.φ,c.w.drew.alloc (.cells L (tab T).elem),fun k=>c.kn k\/k=id⟩:=by
  refine CF.chg hr hi rfl rfl rfl rfl (by simp) (fun k hk _=>hbl k hk) (.inr (Lc _)) (fun _ h=>.inl h) (fun h=>by cases h) fun es' sz' v' br' fz' e=> ?_;cases e;exact⟨es,ver,br,false,rfl,by omega,fun e=>by omega⟩
 refine⟨_,_,_,.val (TN ho fun ty=>by rw[h4,hy];exact hrun),hext,HR.chg hr hi hext (fun k hk _=>hbl k hk) (.inr (Lc _)) hsize ⟨h0,hz2,(tab T).elem,L,G,?_,hLs,by omega,hcap2,cellsOk hext hL1 hL2 hd⟩,?_⟩
 ·simp only[Ah];exact hnew
 refine RA.so i (ver+1) 0 (n+ys.length) _ (.inl hkn) ⟨_,_,rfl⟩ fun es' s v br' fz' hr'=> ?_
 simp only[Av,Ah,Le,AO.rw.injEq] at hr';obtain⟨rfl,rfl,rfl,rfl,rfl⟩:=hr';exact⟨Lc _,fun _=>⟨by omega,L,(tab T).elem,G,by simp only[Ah];exact hnew,by rw[hLs,NC],by simp only[Ah,BJ]⟩⟩
end
end
section
section
variable {P:Program}{tab:Nat->TI}{o:Oper}{a:Act}{g:Gh}{c:Cf}{id:Nat}{ρ:Operand->AV}
theorem oL (hr:HR g c)(ht:AU P tab){T:Nat}{x y:Operand}(ho:o.op= .store T x y)(hok:(tab T).ok=true){i ver k off sz:Nat}{br b:Bool}{es:List (List D)}{cs ds:List D}{xs:List AV}{vy:AV}(hx:Am g c (.pr i ver k off) (a.eval x))(hi:c.hp i=some (.rw es sz ver br false))
  (hk:es[k]? =some cs) (hy:Am g c vy (a.eval y)) (hxs:De vy=some xs) (hd:ds.length=xs.length/\∀(j:Nat) (d:D),ds[j]? =some d->RC c.w (Im g c b) d ((a.eval y).cells.getD j undef)) (hn:xs.length=(tab T).size) (hf:off+xs.length<=cs.length):
  CI P o a g c id .un [(i,.rw (es.set k (Ct off ds cs)) sz ver (br||b) false)]:=by
 obtain⟨e,_⟩:=hx.pr hi;obtain⟨h0,hz,T',vs,C,h1,h2,h3,h3',h3''⟩:=hr.obj i _ hi;obtain⟨h4,h5⟩:=TE hxs hy;have hcs:cs.length=sz:=hz k cs hk;have hklt:k<es.length:=(Lb.1 hk).1;have hone:∀v∈(a.eval y).cells.toList,v.oneCell'=true:=fun v hv=>by
  obtain⟨j,hj⟩:=NU.1 hv;have hlt:=(Lb.1 hj).1;simp only[Nr] at hlt;obtain⟨z,h6,h7⟩:=h5 j _ (Ld (show j<xs.length by omega));rw[NN,h6] at hj;cases hj;exact h7.one
 have hkC:(k+1)*sz<=C*sz:=LR _ (by omega);rw[Nb,Bk] at hkC;have hst:=dv ht hok c.w (c.φ i) (k*sz+off) T' vs (a.eval y) h1 (by omega) (by omega) hone;have hrun:(execOp a.eval o).run P c.w= .ok .skip (c.w.setRow (c.φ i) (Ct (k*sz+off) (a.eval y).cells.toList vs.toList).toArray):=by
  unfold execOp;simp only[ho,e,Instr.storeAt,Instr.sureAddr,Sem.run_bind,Sem.run_pure,Result.andThen_ok,hst]
 have hl:k*sz+off+(a.eval y).cells.toList.length<=vs.toList.length:=by simp;omega
 obtain⟨g1,g2⟩:=hd;have hl2:off+ds.length<=cs.length:=by omega
 refine dx hr hi rfl h1 (by rw[LU,IB _ _ _ hl];simp) hrun (fun h=>by cases h) (fun es' sz' v' br' fz' e=>by cases e;exact⟨es,ver,br,false,rfl,Lc _,fun _=>by simp⟩) fun c' he hφ hw=>
  ⟨h0,fun i' cs' hi'=> ?_,T',_,C,by rw[hφ];exact hw,by rw[LU,IB _ _ _ hl];simpa using h2,by simpa using h3,h3',fun i' j cs' d hi' hj=> ?_⟩
 ·rw[Bd] at hi';split at hi'
  ·cases hi';rw[IB _ _ _ hl2,hcs]
  exact hz _ _ hi'
 rw[Np,IC _ _ _ hl];simp only[Nr,h4];rw[Bd] at hi';have old:∀ {cs0:List D},es[i']? =some cs0->cs0[j]? =some d->∃u,vs.toList[i'*sz+j]? =some u/\RC c'.w (Im g c' (br||b)) d u:=fun h6 h7=>by
  obtain⟨u,h8,h9⟩:=h3'' i' j _ d h6 h7;exact⟨u,by simpa using h8,(RC.ext he h9).mono (fun _ _=>rfl) fun _ hh=>hh.or⟩
 split at hi'
 ·rename_i e1;subst e1;cases hi';have hj2:=hj;rw[IC _ _ _ hl2] at hj2;by_cases q1:j<off
  ·rw[if_pos q1] at hj2;rw[ifp];exact old hk hj2
  rw[if_neg q1] at hj2;rw[ifn];by_cases q2:j<off+ds.length
  ·rw[if_pos q2] at hj2;rw[ifp];have e2:k*sz+j-(k*sz+off)=j-off:=(by omega);rw[e2];have hlt:j-off<(a.eval y).cells.size:=(by omega);refine⟨(a.eval y).cells.getD (j-off) undef,?_,(RC.ext he (g2 _ _ hj2)).mono (fun _ _=>rfl) fun _ hh=>hh.or'⟩;simp[Array.getD,hlt]
  rw[if_neg q2] at hj2;rw[ifn];exact old hk hj2
 rename_i e1;have hjs:j<sz:=by
  have:=(Lb.1 hj).1;rw[hz _ _ hi'] at this;exact this
 by_cases q:i'<k
 ·have:(i'+1)*sz<=k*sz:=LR _ q;rw[Nb,Bk] at this;rw[ifp];exact old hi' hj
 have:(k+1)*sz<=i'*sz:=LR _ (by omega);rw[Nb,Bk] at this;rw[ifn,ifn];exact old hi' hj
theorem Yf {hp:Hp}{i:Nat}:∀(is:List Nat) (hp':Hp),H0 i is=true->Av (frz hp is) hp' i=hp' i
 |[],_,_=>rfl
 |j::r,hp',h=>by
  unfold H0 at h;split at h
  ·cases h
  rename_i hne;unfold frz;split
  ·exact(Yf r _ h).trans (Ad _ _ hne)
  exact Yf r _ h
theorem oM (hr:HR g c)(ht:AU P tab){T:Nat}{x y:Operand}(ho:o.op= .store T x y)(hok:(tab T).ok=true){i ver k off sz:Nat}{br b:Bool}{es:List (List D)}{cs ds:List D}{xs:List AV}{vy:AV}{is:List Nat}(hx:Am g c (.pr i ver k off) (a.eval x))(hi:c.hp i=some (.rw es sz ver br false))
  (hk:es[k]? =some cs) (hy:Am g c vy (a.eval y)) (hxs:De vy=some xs) (hd:DE c.hp xs=some (ds,b,is)) (hn:xs.length=(tab T).size) (hf:off+xs.length<=cs.length) (hno:H0 i is=true):
  CI P o a g c id .un (frz c.hp is++[(i,.rw (es.set k (Ct off ds cs)) sz ver (br||b) false)]):=by
 obtain⟨he1,hr1⟩:=CF.frz hr c.kn (fun i h=>h) is;refine CI.after he1 ?_;have hrow:∀i∈is,Im g ⟨Av (frz c.hp is) c.hp,c.φ,c.w,c.kn⟩ b (c.φ i):=fun i hi=>by
  obtain⟨es,s,v,br,fz,h1⟩:=TJ hd i hi;exact Im.frozen hr hi h1 b
 obtain⟨h4,h5⟩:=TE hxs hy;have hvals:∀(j:Nat) (x:AV),xs[j]? =some x->RA g c x ((a.eval y).cells.getD j undef):=fun j x hj=>by
  obtain⟨z,h6,h7⟩:=h5 j x hj;have hlt:=(LN.1 h6).1
  have:(a.eval y).cells.getD j undef=z:=by
   rw[LA hlt] at h6;simpa [Array.getD,hlt] using h6
  rw[this];exact h7
 have g:=V9 hr rfl (Im g ⟨Av (frz c.hp is) c.hp,c.φ,c.w,c.kn⟩ b) (fun j=>(a.eval y).cells.getD j undef) hd hvals (fun k hk=>hk.ext he1) hrow;exact oL hr1 ht ho hok (hx.ext he1) ((Yf is c.hp hno).trans hi) hk (hy.ext he1) hxs g hn hf
theorem Yg {cs:List AV}{xs:List Value}{vs:Array Value}(h:I8 cs=some xs)(hn:vs.size=cs.length)(hc:∀(j:Nat) (y:AV),cs[j]? =some y->∃z,vs[j]? =some z/\RA g c y z):vs=xs.toArray:=by
 have key:∀(cs:List AV) (xs:List Value),I8 cs=some xs->cs=xs.map AV.v:=by
  intro cs;induction cs with
  |nil=>intro xs h;simp[I8] at h;subst h;rfl
  |cons x r ih=>
   intro xs h;cases x with
   |v x=>
    simp only[I8,La] at h;obtain⟨ys,h1,rfl⟩:=h;rw[ih ys h1];rfl
   |_=>simp[I8] at h
 have e:=key cs xs h;subst e;apply Iq;apply Bc;intro j;by_cases hj:j<xs.length
 ·obtain⟨z,h1,h2⟩:=hc j (.v xs[j]) (by simp[hj]);rw[NN,h1];cases h2;simp[hj]
 rw[LX (by simp at hn⊢;omega),LX (by simpa using hj)]
theorem WA {x:AV}{cs:List AV}{u:Value}(hc:Ff x=some cs)(h:Am g c x u):∃vs:Array Value,u= .agg vs/\vs.size=cs.length/\∀(j:Nat) (y:AV),cs[j]? =some y->∃z,vs[j]? =some z/\RA g c y z:=by
 unfold Ff at hc;split at hc
 ·cases hc;exact h
 ·cases hc;obtain⟨vs,rfl,h1,h2⟩:=h;refine⟨vs,rfl,by rw[LC];exact h1,fun j y hy=> ?_⟩;rw[Lj,La] at hy;obtain⟨d,h3,rfl⟩:=hy;obtain⟨z,h4,h5⟩:=h2 j d h3;exact⟨z,h4,h5.toRA⟩
 cases hc
theorem eW {x:AV}{u:Value}(h:RY x=true)(hx:Am g c x u):∃p,u= .pointer (some p):=by
 unfold RY at h;split at h
 ·rw[hx.pt.1];exact⟨_,rfl⟩
 ·rename_i i ver k off;cases(show RA g c (.pr i ver k off) u from hx) with
  |pr _ _ _ _ _ _ h2 _=>exact h2
 ·have:=hx.dpt;cases this with |pt=>exact⟨_,rfl⟩
 cases h
theorem eX {T:TypeId}(hp:P.underlying T=some .bool)(s t:Bool)(w:World):(Op.equal T (.bool s) (.bool t)).run P w= .ok (s==t) w:=by
 have e:Op.equal T (.bool s) (.bool t)=Op.equalIn (9999+1) T (.bool s) (.bool t):=rfl;rw[e,Op.equalIn];simp[run_underlying hp]
theorem eY {T e:TypeId}(hp:P.underlying T=some (.pointer e))(p:Addr)(w:World):(Op.equal T (.pointer (some p)) (.pointer none)).run P w= .ok false w:=by
 have e:Op.equal T (.pointer (some p)) (.pointer none)=Op.equalIn (9999+1) T (.pointer (some p)) (.pointer none):=rfl;rw[e,Op.equalIn];simp[run_underlying hp]
theorem WB (w:World)(d:Nat)(t e:TypeId)(a:Option Addr)(n c n' c':Nat)(h:P.underlying t=some (.slice e)):
  (Op.equalIn (d+1) t (.slice a n c) (.slice none n' c')).run P w= .ok a.isNone w:=by
 cases a<;>simp[Op.equalIn,run_underlying h]
theorem oO {x:AV}{u:Value}(h:V2 x=true)(hx:Am g c x u):∃p n m,u= .slice (some p) n m:=by
 unfold V2 at h;split at h
 ·have:=hx.dsl;cases this with |sl es b o cx sz us h1 h2 h3 h4 h5=>exact⟨_,_,_,rfl⟩
 cases h
theorem oP {x:AV}{u:Value}(h:Kn x=true)(hx:Am g c x u):∃r,u= .map (some r):=by
 unfold Kn at h;split at h
 ·rename_i i;cases(show RA g c (.mo i) u from hx) with
  |mo _ _ _=>exact⟨_,rfl⟩
 cases h
theorem Yh (hr:HR g c){op:BinOp}{T T':TypeId}{x y:Operand}(ho:o.op= .binOp op T x y T'){u z:Value}(e1:a.eval x=u)(e2:a.eval y=z)(h0:z= .slice none 0 0\/z= .map none)(hrun:(Op.equal T u z).run P c.w= .ok false c.w){v:AV}(h:RZ op=some v):CI P o a g c id v []:=by
 have h1:∀cs,z≠ .agg cs:=fun cs=>by rcases h0 with rfl |rfl<;>simp
 have h2:z≠ .nilIface:=by rcases h0 with rfl |rfl<;>simp
 have b1:(binOp .eql T u z).run P c.w= .ok (.bool false) c.w:=by
  rcases h0 with rfl |rfl<;>cases u<;>simp[binOp,hrun]
 have b2:(binOp .neq T u z).run P c.w= .ok (.bool true) c.w:=by
  rcases h0 with rfl |rfl<;>cases u<;>simp[binOp,hrun]
 unfold RZ at h;split at h
 ·cases h;exact Kr hr ho (fun cs ds hh=>h1 ds (e2▸hh.2)) (fun hh=>h2 (e2▸hh.2)) (u:=.bool false) (by rw[e1,e2];exact b1) (RA.v _ rfl)
 ·cases h;exact Kr hr ho (fun cs ds hh=>h1 ds (e2▸hh.2)) (fun hh=>h2 (e2▸hh.2)) (u:=.bool true) (by rw[e1,e2];exact b2) (RA.v _ rfl)
 cases h
theorem Pj (hr:HR g c)(ht:AU P tab){op:BinOp}{T T':TypeId}{x y:Operand}(ho:o.op= .binOp op T x y T'){vx vy v:AV}(hx:Am g c vx (a.eval x))(hy:Am g c vy (a.eval y))(h:Ma tab op T vx vy=some v):CI P o a g c id v []:=by
 unfold Ma at h;split at h
 ·rename_i s t;have e1:=hx.v.1;have e2:=hy.v.1;have hp:(tab T).kind= .bool->P.underlying T=some .bool:=fun hk=>by
   obtain⟨d,h1,h2⟩:=ht.kind T (ht.okOf (by rw[hk];decide));rw[hk] at h2;subst h2;exact h1
  split at h
  ·rename_i hk;cases h;exact Kr hr ho (by simp[e1]) (by simp[e1]) (u:=.bool (s==t)) (by rw[e1,e2];simp[binOp,eX (hp hk)]) (RA.v _ rfl)
  ·rename_i hk;cases h;exact Kr hr ho (by simp[e1]) (by simp[e1]) (u:=.bool !(s==t)) (by rw[e1,e2];simp[binOp,eX (hp hk)]) (RA.v _ rfl)
  cases h
 ·rename_i s t _;simp only[La] at h;obtain⟨u,h1,rfl⟩:=h;obtain⟨e1,o1⟩:=hx.v;obtain⟨e2,_⟩:=hy.v;have nils:∀(op:BinOp) (z:Value) (b':Bool),(op= .eql/\b'=true)\/(op= .neq/\b'=false)->o.op= .binOp op T x y T'->a.eval x=z->a.eval y=z->(z= .slice none 0 0\/z= .pointer none)->(Op.equal T z z).run P c.w= .ok true c.w->CI P o a g c id (.v (.bool b')) []:=by
   intro op z b' hop ho e1 e2 hz hrun;refine Kr hr ho (fun cs ds hh=>by rcases hz with rfl |rfl<;>(rw[e1] at hh;cases hh.1)) (fun hh=>by rcases hz with rfl |rfl<;>(rw[e1] at hh;cases hh.1)) (u:=.bool b') ?_ (RA.v _ rfl);rw[e1,e2];rcases hop with⟨rfl,rfl⟩ |⟨rfl,rfl⟩<;>rcases hz with rfl |rfl<;>simp[binOp,hrun]
  unfold H9 at h1;split at h1
  ·split at h1
   ·rename_i hk;have hrun:(Op.equal T (.slice none 0 0) (.slice none 0 0)).run P c.w= .ok true c.w:=by
     have:=WB (P:=P) c.w 9999 T (tab T).elem none 0 0 0 0 (ht.slice hk);exact this
    split at h1
    ·cases h1;exact nils .eql _ true (.inl ⟨rfl,rfl⟩) ho e1 e2 (.inl rfl) hrun
    ·cases h1;exact nils .neq _ false (.inr ⟨rfl,rfl⟩) ho e1 e2 (.inl rfl) hrun
    cases h1
   cases h1
  ·split at h1
   ·rename_i hk;obtain⟨d,h3,h4⟩:=ht.kind T (ht.okOf (by rw[hk];decide));rw[hk] at h4;obtain⟨e,rfl⟩:=h4;have hrun:(Op.equal T (.pointer none) (.pointer none)).run P c.w= .ok true c.w:=by
     have e0:Op.equal T (.pointer none) (.pointer none)=Op.equalIn (9999+1) T (.pointer none) (.pointer none):=rfl;rw[e0,Op.equalIn];simp[run_underlying h3]
    split at h1
    ·cases h1;exact nils .eql _ true (.inl ⟨rfl,rfl⟩) ho e1 e2 (.inr rfl) hrun
    ·cases h1;exact nils .neq _ false (.inr ⟨rfl,rfl⟩) ho e1 e2 (.inr rfl) hrun
    cases h1
   cases h1
  obtain⟨h2,h3⟩:=nk (P:=P) (T:=T) c.w h1;refine Kr hr ho (fun cs ds hh=> ?_) (fun hh=> ?_) (u:=u) (by rw[e1,e2];exact h2) (RA.v _ h3)
  ·rw[e1] at hh;exact nq o1 _ hh.1
  rw[e1,e2] at hh;obtain⟨rfl,rfl⟩:=hh;simp[F1] at h1
 ·rename_i vx' _ _;split at h
  ·rename_i hp;obtain⟨p,e1⟩:=eW hp.1 hx;have e2:=hy.v.1;obtain⟨d,h1,h2⟩:=ht.kind T (ht.okOf (by rw[hp.2];decide));rw[hp.2] at h2;obtain⟨e,rfl⟩:=h2;split at h
   ·cases h;exact Kr hr ho (by simp[e1]) (by simp[e1]) (u:=.bool false) (by rw[e1,e2];simp[binOp,eY h1]) (RA.v _ rfl)
   ·cases h;exact Kr hr ho (by simp[e1]) (by simp[e1]) (u:=.bool true) (by rw[e1,e2];simp[binOp,eY h1]) (RA.v _ rfl)
   cases h
  cases h
 ·rename_i vx' _ _;split at h
  ·rename_i hp;obtain⟨p,n,m,e1⟩:=oO hp.1 hx;exact Yh hr ho (e1:=e1) (e2:=hy.v.1) (.inl rfl) (WB (P:=P) c.w 9999 T (tab T).elem (some p) n m 0 0 (ht.slice hp.2)) h
  cases h
 ·rename_i vx' _ _;split at h
  ·rename_i hp;obtain⟨r,e1⟩:=oP hp.1 hx;obtain⟨q,hq⟩:=NH.1 hp.2;obtain⟨kt,f1,_⟩:=ht.mkey T q hq;exact Yh hr ho (e1:=e1) (e2:=hy.v.1) (.inr rfl) (by
    have e0:Op.equal T (.map (some r)) (.map none)=Op.equalIn (9999+1) T (.map (some r)) (.map none):=rfl;rw[e0,Op.equalIn];simp[run_underlying f1]) h
  cases h
 split at h;rotate_left
 ·cases h
 rename_i ks cs ds hf hc1 hc2;split at h
 ·rename_i xs ys hv1 hv2;split at h
  ·rename_i b hb;obtain⟨vs,e1,n1,q1⟩:=WA hc1 hx;obtain⟨us,e2,n2,q2⟩:=WA hc2 hy;have w1:=Yg hv1 n1 q1;have w2:=Yg hv2 n2 q2;subst w1;subst w2;have hrun:=ht.flat T ks hf xs ys b hb c.w;have hgd:=ht.guard T ks hf;have fin:∀(op:BinOp) (b':Bool),(op= .eql/\b'=b)\/(op= .neq/\b'= !b)->o.op= .binOp op T x y T'->CI P o a g c id (.v (.bool b')) []:=by
    intro op b' hop ho;refine CI.pure hr (u:=.bool b') ?_ (RA.v _ rfl);unfold execOp;have hg:(eqGuard op T x y (.agg xs.toArray) (.agg ys.toArray)).run P c.w= .ok () c.w:=by
     rcases hop with⟨rfl,_⟩ |⟨rfl,_⟩<;>simp[eqGuard,program,Sem.run,hgd]
    have hb':(binOp op T (.agg xs.toArray) (.agg ys.toArray)).run P c.w= .ok (.bool b') c.w:=by
     rcases hop with⟨rfl,rfl⟩ |⟨rfl,rfl⟩<;>simp[binOp,hrun]
    simp only[ho,e1,e2,Sem.run_bind,hg,hb',Result.andThen_ok,Sem.run_pure]
   split at h
   ·cases h;exact fin .eql b (.inl ⟨rfl,rfl⟩) ho
   ·cases h;exact fin .neq (!b) (.inr ⟨rfl,rfl⟩) ho
   cases h
  cases h
 cases h
theorem oQ (hr:HR g c)(ht:AU P tab){op:BinOp}{T T':TypeId}{x y:Operand}(ho:o.op= .binOp op T x y T'){vx vy v:AV}(hx:Am g c vx (a.eval x))(hy:Am g c vy (a.eval y))(h:FJ tab c.hp op T vx vy=some v):CI P o a g c id v []:=by
 unfold FJ at h;split at h
 ·split at h
  ·rename_i es sz ver br fz hi;split at h
   ·rename_i hc;obtain⟨rfl,hk⟩:=hc;obtain⟨_,_,cur,T0,C,_,_,e1⟩:=Am.so hx hi;exact Yh hr ho (e1:=e1) (e2:=hy.v.1) (.inl rfl) (WB (P:=P) c.w 9999 T (tab T).elem _ _ _ 0 0 (ht.slice hk)) h
   cases h
  cases h
 exact Pj hr ht ho hx hy h
end
end
section
section
variable {P:Program}{tab:Nat->TI}{o:Oper}{a:Act}{g:Gh}{c:Cf}{id:Nat}{ρ:Operand->AV}
theorem TO {w:World}{r:Nat}{es:Array MapEntry}{clock:Nat}(hb:w.heap[r]? =some (.map es clock)):(getObj r).run P w= .ok (.map es clock) w:=by
 simp[getObj,Sem.run,hb]
theorem TP {w:World}{r:Nat}{es:Array MapEntry}{clock:Nat}(ob:Obj)(hb:w.heap[r]? =some (.map es clock)):(setObj r ob).run P w= .ok () { w with heap:=w.heap.setIfInBounds r ob }:=by
 simp[setObj,Sem.run,hb]
theorem oS {w:World}{r:Nat}{o o':Obj}(hb:w.heap[r]? =some o):(w.heap.setIfInBounds r o')[r]? =some o'/\∀r',r'≠r->(w.heap.setIfInBounds r o')[r']? =w.heap[r']? :=by
 have hlt:r<w.heap.size:=(LN.1 hb).1;exact⟨by simp[hlt],fun r' hne=>by simp[Ne.symm hne]⟩
theorem eZ {x:AV}{u:Value}(h:Fh x=true)(hx:Am g c x u):DQ g c x u:=by
 cases x with
 |tu cs=>cases h
 |d x b=>cases x with |tu cs=>cases h |_=>exact hx
 |_=>exact hx
theorem TQ {x:AV}{u kv:Value}(h:EQ x=some kv)(hx:Am g c x u):u=kv:=by
 unfold EQ at h;split at h
 ·rename_i cs hc;obtain⟨xs,h1,rfl⟩:=La.1 h;obtain⟨vs,rfl,h2,h3⟩:=WA hc hx;rw[Yg h1 h2 h3]
 split at h
 ·cases h;exact hx.v.1
 cases h
theorem Yi {q:Bool × List TK}{x:Value}:∀ {es:List (Value × AV)} {r:Option (Nat × AV)},Dm q x es=some r->I9 q x (es.map (·.1))=some (r.map (·.1))/\∀i v,r=some (i,v)->∃y,es[i]? =some (y,v)/\JQ q x y=some true
 |[],r,h=>by cases h;exact⟨rfl,fun i v h=>by cases h⟩
 |(y,v)::es,r,h=>by
  unfold Dm at h;simp only[Lk];unfold I9;split at h
  ·rename_i e;cases h;exact⟨rfl,fun i v' h=>by cases h;exact⟨y,rfl,e⟩⟩
  ·rename_i e;split at h
   ·rename_i i w h1;cases h;obtain⟨h2,h3⟩:=Yi h1;rw[h2];exact⟨rfl,fun i' v' h=>by cases h;exact h3 i w rfl⟩
   rename_i o hn;obtain⟨h2,h3⟩:=Yi h;rw[h2];cases r with
   |none=>exact⟨rfl,fun i v h=>by cases h⟩
   |some p=>exact absurd h (hn p.1 p.2)
  cases h
theorem HP (hr:HR g c){i:Nat}{es:List (Value × AV)}{dl:Bool}{m:Operand}(hm:Am g c (.mo i) (a.eval m))(hi:c.hp i=some (.mo es dl)):
  a.eval m= .map (some (c.φ i))/\c.kn i/\∃en k,c.w.heap[c.φ i]? =some (.map en k)/\en.size=es.length/\(dl=false->k=en.size/\∀(i:Nat) (e:MapEntry),en[i]? =some e->e.born=i)/\
   en.toList.map (·.key)=es.map (·.1)/\∀(i:Nat) (x:Value) (y:AV),es[i]? =some (x,y)->∃e,en[i]? =some e/\e.key=x/\DQ g c y e.val:=by
 generalize a.eval m=u at hm;cases(show RA g c (.mo i) u from hm) with
 |mo _ hn ho=>
  obtain⟨en,k,h1,h2,h3,h4⟩:=hr.obj i _ hi;refine⟨rfl,hn,en,k,h1,h2,h3,?_,h4⟩;apply Bc;intro j;by_cases hj:j<es.length
  ·obtain⟨e,e1,e2,_⟩:=h4 j es[j].1 es[j].2 (by simp[hj]);simp[hj,e1,e2]
  rw[LX (by simp;omega),LX (by simp;omega)]
theorem Re (ht:AU P tab){T:Nat}{q:Bool × List TK}(hq:(tab T).mkey=some q){kv:Value}(hw:F3 q kv=true){es:List (Value × AV)}{r:Option (Nat × AV)}(hf:Dm q kv es=some r){en:Array MapEntry}
  (hen:en.toList.map (·.key)=es.map (·.1)) (hs:en.size=es.length):∃kt,P.underlying T=some (.map kt (tab T).elem)/\(tab (tab T).elem).ok=true/\(∀w e,(Instr.checkKey e 10000 kt kv).run P w= .ok () w)/\
   ((r=none/\∀w,(Instr.findKey kt kv en.toList).run P w= .ok none w)\/∃i v e y,r=some (i,v)/\es[i]? =some (y,v)/\y=kv/\en[i]? =some e/\e.key=kv/\Instr.sameBits 10000 kv kv=true/\∀w,(Instr.findKey kt kv en.toList).run P w= .ok (some (i,e.val)) w):=by
 obtain⟨kt,h1,h2,h3⟩:=ht.mkey T q hq;obtain⟨h4,h5,h6⟩:=h3 kv hw;obtain⟨h7,h8⟩:=Yi hf;refine⟨kt,h1,h2,h4,?_⟩;have h9:=h6 en.toList (r.map (·.1)) (by rw[hen];exact h7);cases r with
 |none=>exact .inl ⟨rfl,h9⟩
 |some p=>
  obtain⟨i,v⟩:=p;obtain⟨y,e1,e2⟩:=h8 i v rfl;obtain⟨e3,e4⟩:=h5 y e2;have hlt:=(Lb.1 e1).1;have hlt2:i<en.size:=by omega
  have hk:en[i].key=y:=by
   have:=congrArg (·[i]?) hen;simp only[Lj,e1,LO] at this;simpa [hlt2] using this
  refine .inr ⟨i,v,en[i],y,rfl,e1,e3,by simp,hk.trans e3,e4,fun w=> ?_⟩
  have:=h9 w;simpa [hlt2] using this
theorem oT (hr:HR g c){T:Nat}(ho:o.op= .makeMap T none)(hid:¬c.kn id):CI P o a g c id (.mo id) [(id,.mo [] false)]:=by
 have hrun:(execOp a.eval o).run P c.w= .ok (.value (.map (some c.w.heap.size))) (c.w.alloc (.map #[] 0)):=by
  unfold execOp;simp[ho,Instr.makeMap,newObj,Sem.run]
 refine V6 hr hid hrun (fun c' he hφ hw=>⟨#[],0,?_,rfl,fun _=>⟨rfl,fun i e h=>by simp at h⟩,fun i x y h=>by simp at h⟩) fun c' he hφ hw hhp hkn=> ?_
 ·rw[hφ,hw];exact heap_alloc_new _ _
 rw[<-hφ];exact RA.mo id hkn fun o ho=>by rw[hhp] at ho;cases ho;rfl
theorem WC (ht:AU P tab){T:Nat}(h:(tab T).ok=true){z:AV}(hz:IA (tab T)=some z)(c:Cf)(w:World):∃u,(zeroValue T).run P w= .ok u w/\DQ g c z u:=by
 obtain⟨i,u,h1,_,_,h4,h5,_,h6,h7,h8⟩:=ht.info T h;refine⟨u,by simp[zeroValue,typeInfo,h1,h4],?_⟩;unfold IA at hz;split at hz
 ·rename_i hg;cases hz;obtain⟨vs,rfl⟩:=h7 hg;simp only[Value.cells] at h5;subst h5;refine⟨_,rfl,by simp,fun j x hj=> ?_⟩;rw[Lj,La] at hj;obtain⟨y,e1,rfl⟩:=hj;exact⟨y,by simpa using e1,RA.v y (h6 y (Lt e1))⟩
 rename_i hg;split at hz
 ·rename_i z' hl;cases hz;have ho:=h8 (by simpa using hg);rw[V5 ho,hl] at h5
  have:u=z':=by simpa using h5
  subst this;exact RA.v u ho
 cases hz
theorem Pk {x:AV}{u v:Value}{b:AV}(h1:DQ g c x u)(h2:DQ g c b v):Am g c (.tu [x,b]) (.tuple #[u,v]):=by
 refine⟨#[u,v],rfl,rfl,fun j y hj=> ?_⟩
 match j with
 |0=>cases hj;exact⟨u,rfl,h1⟩
 |1=>cases hj;exact⟨v,rfl,h2⟩
 |j+2=>simp at hj
theorem DQ.at_ {x:AV}{u:Value}(h:DQ g c x u):Am g c x u:=by
 cases x with
 |tu cs=>cases h
 |d x b=>cases x with
  |tu cs=>cases h with |d _ _ _ h1=>cases h1
  |_=>exact h
 |_=>exact h
theorem ec (hr:HR g c)(ht:AU P tab){T:Nat}{x k:Operand}{ok:Bool}(ho:o.op= .lookup T x k ok){q:Bool × List TK}(hq:(tab T).mkey=some q){kv:Value}{z vk:AV}(hkv:EQ vk=some kv)(hkr:Am g c vk (a.eval k))(hz:IA (tab (tab T).elem)=some z)(hw:F3 q kv=true)
  {i:Nat} {es:List (Value × AV)} {dl:Bool} (hm:Am g c (.mo i) (a.eval x)) (hi:c.hp i=some (.mo es dl)) {r:Option (Nat × AV)} (hf:Dm q kv es=some r) {v:AV}
  (hv:v=(match r with |none=>if ok then .tu [z,.v (.bool false)] else z |some (_,v)=>if ok then .tu [v,.v (.bool true)] else v)):CI P o a g c id v []:=by
 obtain⟨e1,_,en,kk,h1,h2,_,h4,h5⟩:=HP hr hm hi;have e2:=TQ hkv hkr;obtain⟨kt,f1,f2,f3,f4⟩:=Re ht hq hw hf h4 h2;have hg:=TO (P:=P) h1;obtain⟨uz,z1,z2⟩:=WC (g:=g) ht f2 hz c c.w;rcases f4 with⟨rfl,f5⟩ |⟨j,v',e,y,rfl,g1,rfl,g2,g3,g4,f5⟩
 ·refine CI.pure hr (u:=if ok then .tuple #[uz,.bool false] else uz) ?_ ?_
  ·unfold execOp;simp only[ho,e1,e2,Instr.lookup,Sem.run_bind,run_underlying f1,Result.andThen_ok,hg,Sem.run_pure,f3,f5,z1]
  subst hv;cases ok
  ·exact z2.at_
  exact Pk z2 (RA.v _ rfl)
 obtain⟨e',k1,k2,k3⟩:=h5 j _ v' g1;rw[g2] at k1;cases k1;refine CI.pure hr (u:=if ok then .tuple #[e.val,.bool true] else e.val) ?_ ?_
 ·unfold execOp;simp only[ho,e1,e2,Instr.lookup,Sem.run_bind,run_underlying f1,Result.andThen_ok,hg,Sem.run_pure,f3,f5]
 subst hv;cases ok
 ·exact k3.at_
 exact Pk k3 (RA.v _ rfl)
theorem oU {b:Bool}{ag:Bool}{cs:List D}{u:Value}(h1:u.cells.size=cs.length)(h2:ag=true->∃vs,u= .agg vs)(h3:ag=false->u.cells= #[u])(h4:∀(j:Nat) (d:D) (x:Value),cs[j]? =some d->u.cells[j]? =some x->RC c.w (Im g c b) d x):DQ g c (EF b (ag,cs)) u:=by
 cases ag with
 |true=>
  obtain⟨vs,rfl⟩:=h2 rfl;refine⟨vs,rfl,h1,fun j d hj=> ?_⟩;have hlt:j<vs.size:=by
   have:=(Lb.1 hj).1
   have:vs.size=cs.length:=h1;omega
  exact⟨vs[j],by simp[hlt],h4 j d _ hj (by simp[Value.cells,hlt])⟩
 |false=>
  have h5:=h3 rfl;rw[h5] at h1
  match cs,h1 with
  |[d],_=>
   have h6:=h4 0 d u rfl (by rw[h5];rfl);show DQ g c (Aw b d) u;cases d with |ag _=>cases h6 |tu _=>cases h6 |v x=>exact RC.toRA h6 |sl x=>exact RC.toRA h6 |pt x y=>exact RC.toRA h6 |mp x=>exact RC.toRA h6
theorem ei {I:Nat->Prop}{w:World}{x:Value}(h:x.oneCell'=true):RC w I (JS x) x:=by
 unfold JS;split
 ·exact .nl _ _
 exact .v _ h
theorem oV (ht:AU P tab){T:Nat}{b:Bool}(h:(tab T).ok=true){z:AV}(hz:IA (tab T)=some z)(c:Cf)(w:World):∃u,(zeroValue T).run P w= .ok u w/\DQ g c (Mb b (tab T)) u:=by
 obtain⟨u,h1,h2⟩:=WC (g:=g) ht h hz c w;refine⟨u,h1,?_⟩;unfold IA at hz;unfold Mb;split at hz
 ·rename_i hg;cases hz;rw[hg];obtain⟨vs,rfl,h3,h4⟩:=h2;refine⟨vs,rfl,by simpa using h3,fun j d hj=> ?_⟩;rw[Lj,La] at hj;obtain⟨y,h5,rfl⟩:=hj;obtain⟨y',h6,h7⟩:=h4 j (.v y) (by simp[h5]);cases h7 with |v _ h8=>exact⟨y,h6,ei h8⟩
 rename_i hg;have hg':(tab T).agg=false:=by simpa using hg
 rw[hg'];split at hz
 ·rename_i y e;cases hz;rw[e];obtain⟨rfl,h8⟩:=Am.v (g:=g) (c:=c) (x:=y) (u:=u) h2;split
  ·rename_i e3;cases e3;exact h2
  have h9:=RC.toRA (g:=g) (c:=c) (b:=b) (ei (w:=c.w) (I:=Im g c b) h8);show DQ g c (Aw b (JS u)) u;cases e2:JS u with |ag _=>exact absurd e2 (by unfold JS;split<;>simp) |tu _=>exact absurd e2 (by unfold JS;split<;>simp) |v x=>rw[e2] at h9;exact h9 |sl x=>rw[e2] at h9;exact h9 |pt x o=>rw[e2] at h9;exact h9 |mp x=>rw[e2] at h9;exact h9
 cases hz
theorem ej (hr:HR g c)(ht:AU P tab){T:Nat}{x k:Operand}{ok:Bool}(ho:o.op= .lookup T x k ok){q:Bool × List TK}(hq:(tab T).mkey=some q){kv:Value}{z vk:AV}(hkv:EQ vk=some kv)(hkr:Am g c vk (a.eval k))(hz:IA (tab (tab T).elem)=some z)(hw:F3 q kv=true)
  {es:List (Value × Bool × List D)} {b:Bool} (hm:Am g c (.d (.mp es) b) (a.eval x)) {r:Option (Nat × AV)} (hf:Dm q kv (Et b es)=some r) {v:AV}
  (hv:v=(match r with |none=>if ok then .tu [Mb b (tab (tab T).elem),.v (.bool false)] else Mb b (tab (tab T).elem) |some (_,v)=>if ok then .tu [v,.v (.bool true)] else v)):CI P o a g c id v []:=by
 generalize e1:a.eval x=u at hm;cases(show RA g c (.d (.mp es) b) u from hm) with
 |d _ _ _ hc=>
  cases hc with
  |mp _ rr en kk hI h1 h2 h3 h4=>
   have e2:=TQ hkv hkr;have hs:en.size=(Et b es).length:=(by simp[Et,h2]);have hen:en.toList.map (·.key)=(Et b es).map (·.1):=by
    apply Bc;intro j;by_cases hj:j<es.length
    ·have hj2:j<en.size:=(by omega);obtain⟨p,he⟩:∃p,es[j]? =some p:=⟨_,Ld hj⟩;obtain⟨x1,a1,c1⟩:=p
     have:=(h3 j x1 a1 c1 en[j] he (by simp[hj2])).1;simp[Et,he,hj2,this]
    rw[LX (by simp;omega),LX (by simp[Et];omega)]
   obtain⟨kt,f1,f2,f3,f4⟩:=Re ht hq hw hf hen hs;have hg:=TO (P:=P) h1;obtain⟨uz,z1,z2⟩:=oV (g:=g) (b:=b) ht f2 hz c c.w;rcases f4 with⟨rfl,f5⟩ |⟨j,v',e,y,rfl,g1,ey,g2,g3,g4,f5⟩
   ·refine CI.pure hr (u:=if ok then .tuple #[uz,.bool false] else uz) ?_ ?_
    ·unfold execOp;simp only[ho,e1,e2,Instr.lookup,Sem.run_bind,run_underlying f1,Result.andThen_ok,hg,Sem.run_pure,f3,f5,z1]
    subst hv;cases ok
    ·exact z2.at_
    exact Pk z2 (RA.v _ rfl)
   subst ey;have k3:DQ g c v' e.val:=by
    unfold Et at g1;rw[Lj,La] at g1;obtain⟨⟨x1,a1,c1⟩,g5,g6⟩:=g1;simp only[Lu] at g6;obtain⟨_,rfl⟩:=g6;obtain⟨_,q1,q2,q3⟩:=h3 j x1 a1 c1 e g5 g2;exact oU q1 q2 q3 fun i d u hd hu=>h4 j i x1 a1 c1 e d u g5 g2 hd hu
   refine CI.pure hr (u:=if ok then .tuple #[e.val,.bool true] else e.val) ?_ ?_
   ·unfold execOp;simp only[ho,e1,e2,Instr.lookup,Sem.run_bind,run_underlying f1,Result.andThen_ok,hg,Sem.run_pure,f3,f5]
   subst hv;cases ok
   ·exact k3.at_
   exact Pk k3 (RA.v _ rfl)
theorem oW (hr:HR g c)(ht:AU P tab){T:Nat}{x k:Operand}{ok:Bool}(ho:o.op= .lookup T x k ok){q:Bool × List TK}(hq:(tab T).mkey=some q){kv:Value}{z vk:AV}(hkv:EQ vk=some kv)(hkr:Am g c vk (a.eval k))(hz:IA (tab (tab T).elem)=some z)(hw:F3 q kv=true)
  (hm:Am g c (.v (.map none)) (a.eval x)) {v:AV} (hv:v=if ok then .tu [z,.v (.bool false)] else z):CI P o a g c id v []:=by
 have e1:=hm.v.1;have e2:=TQ hkv hkr;obtain⟨kt,f1,f2,f3,f4⟩:=Re ht hq hw (es:=[]) (r:=none) rfl (en:= #[]) rfl rfl;obtain⟨uz,z1,z2⟩:=WC (g:=g) ht f2 hz c c.w;have f5:∀w,(Instr.findKey kt kv []).run P w= .ok none w:=by
  rcases f4 with⟨_,f5⟩ |⟨j,v',e,y,h,_⟩
  ·exact f5
  cases h
 refine CI.pure hr (u:=if ok then .tuple #[uz,.bool false] else uz) ?_ ?_
 ·unfold execOp;simp only[ho,e1,e2,Instr.lookup,Sem.run_bind,run_underlying f1,Result.andThen_ok,Sem.run_pure,f3,f5,z1]
 subst hv;cases ok
 ·exact z2.at_
 exact Pk z2 (RA.v _ rfl)
theorem TR (hr:HR g c){i:Nat}{es es':List (Value × AV)}{dl dl':Bool}{en en':Array MapEntry}{k k':Nat}(hi:c.hp i=some (.mo es dl))(hcur:c.w.heap[c.φ i]? =some (.map en k)){u:Value}{v:AV}
  (h:G1 P o a c.w u { c.w with heap:=c.w.heap.setIfInBounds (c.φ i) (.map en' k') }) (hn:en'.size=es'.length) (hd:dl'=false->k'=en'.size/\∀(i:Nat) (e:MapEntry),en'[i]? =some e->e.born=i)
  (hes:∀(j:Nat) (x:Value) (y:AV),es'[j]? =some (x,y)->∃e,en'[j]? =some e/\e.key=x/\DQ g c y e.val) (hv:∀c',CF c c'->Am g c' v u):CI P o a g c id v [(i,.mo es' dl')]:=by
 obtain⟨hs1,hs2⟩:=oS (o':=.map en' k') hcur;have hbl:∀k0,k0<c.w.heap.size->k0≠c.φ i->(c.w.heap.setIfInBounds (c.φ i) (.map en' k'))[k0]? =c.w.heap[k0]? :=fun k0 _ hk=>hs2 k0 hk;have he:CF c ⟨upd i (some (.mo es' dl')) c.hp,upd i (c.φ i) c.φ,{ c.w with heap:=c.w.heap.setIfInBounds (c.φ i) (.map en' k') },fun k=>c.kn k\/k=id⟩:=
  CF.chg hr hi rfl rfl rfl rfl (by simp) hbl (.inl rfl) (fun _ h=>.inl h) (fun _=>⟨rfl,rfl⟩) fun _ _ _ _ _ e=>by cases e
 refine⟨_,u,_,h,he,HR.chg hr hi he hbl (.inl rfl) (by simpa using(hr.dom i _ hi).2.2) ?_,hv _ he⟩;exact⟨en',k',by simp only[Ah];exact hs1,hn,hd,fun j x y hj=>let ⟨e,e1,e2,e3⟩:=hes j x y hj;⟨e,e1,e2,e3.ext he⟩⟩
theorem Yj {es:List (Value × AV)}{en:Array MapEntry}{j:Nat}{kv:Value}{v:AV}{u:Value}{e:MapEntry}(hj:en[j]? =some e)(hs:en.size=es.length)(f:MapEntry->MapEntry)(hf:f e={ e with key:=kv,val:=u })(hv:DQ g c v u)
  (h5:∀(i:Nat) (x:Value) (y:AV),es[i]? =some (x,y)->∃e,en[i]? =some e/\e.key=x/\DQ g c y e.val):
  ∀(i:Nat) (x:Value) (y:AV),(es.set j (kv,v))[i]? =some (x,y)->∃e,(en.modify j f)[i]? =some e/\e.key=x/\DQ g c y e.val:=by
 intro i x y h;have hlt:=(LN.1 hj).1;rw[Bd] at h;split at h
 ·rename_i e1;subst e1;rw[ifp] at h;cases h;refine⟨{ e with key:=kv,val:=u },?_,rfl,hv⟩;rw[N9];simp[hj,hf]
 rename_i e1;obtain⟨e',k1,k2⟩:=h5 i x y h;exact⟨e',by rw[N9,if_neg e1];exact k1,k2⟩
theorem Yk {en:Array MapEntry}{j:Nat}(f:MapEntry->MapEntry)(hf:∀e,(f e).born=e.born){k:Nat}(h:k=en.size/\∀(i:Nat) (e:MapEntry),en[i]? =some e->e.born=i):k=(en.modify j f).size/\∀(i:Nat) (e:MapEntry),(en.modify j f)[i]? =some e->e.born=i:=by
 refine⟨by simpa using h.1,fun i e hi=> ?_⟩;rw[N9] at hi;split at hi
 ·obtain⟨e',h1,rfl⟩:=La.1 hi;rw[hf];exact h.2 i e' h1
 exact h.2 i e hi
theorem ep {es:List (Value × AV)}{en:Array MapEntry}{kv:Value}{v:AV}{u:Value}{b:Nat}(hs:en.size=es.length)(hv:DQ g c v u)
  (h5:∀(i:Nat) (x:Value) (y:AV),es[i]? =some (x,y)->∃e,en[i]? =some e/\e.key=x/\DQ g c y e.val):
  ∀(i:Nat) (x:Value) (y:AV),(es++[(kv,v)])[i]? =some (x,y)->∃e,(en.push ⟨kv,u,b⟩)[i]? =some e/\e.key=x/\DQ g c y e.val:=by
 intro i x y h;rw[Bo] at h;rw[O0];split at h
 ·rw[ifn];exact h5 i x y h
 rename_i hge
 have:i=es.length:=by
  have:=(Lb.1 h).1;simp at this;omega
 subst this;simp only[B6,LV,Le,Lu] at h;obtain⟨rfl,rfl⟩:=h;rw[if_pos hs.symm];exact⟨_,rfl,rfl,hv⟩
theorem eu {en:Array MapEntry}{kv u:Value}{k:Nat}(h:k=en.size/\∀(i:Nat) (e:MapEntry),en[i]? =some e->e.born=i):k+1=(en.push ⟨kv,u,k⟩).size/\∀(i:Nat) (e:MapEntry),(en.push ⟨kv,u,k⟩)[i]? =some e->e.born=i:=by
 refine⟨by simp[h.1],fun i e hi=> ?_⟩;rw[O0] at hi;split at hi
 ·rename_i e1;cases hi;rw[e1];exact h.1
 exact h.2 i e hi
theorem fA {kv:Value}(h:Instr.sameBits 10000 kv kv=true)(w:World):(Instr.keyThatStays kv kv).run P w= .ok kv w:=by
 simp[Instr.keyThatStays,h]
theorem fB (hr:HR g c)(ht:AU P tab){T:Nat}{m k x:Operand}(ho:o.op= .mapUpdate T m k x\/o.op= .insert T m k x){q:Bool × List TK}(hq:(tab T).mkey=some q){kv:Value}{vk vx:AV}(hkv:EQ vk=some kv)(hkr:Am g c vk (a.eval k))(hw:F3 q kv=true)
  (hx:Am g c vx (a.eval x)) (hx1:Fh vx=true) {i:Nat} {es es':List (Value × AV)} {dl:Bool} (hm:Am g c (.mo i) (a.eval m)) (hi:c.hp i=some (.mo es dl)) (hf:EG q kv vx es=some es'):CI P o a g c id .un [(i,.mo es' dl)]:=by
 obtain⟨e1,_,en,kk,h1,h2,h3,h4,h5⟩:=HP hr hm hi;have e2:=TQ hkv hkr;have hg:=TO (P:=P) h1;have hv:=eZ hx1 hx;have run:∀(en':Array MapEntry) (k':Nat),(Instr.mapUpdate T (.map (some (c.φ i))) kv (a.eval x)).run P c.w= .ok () { c.w with heap:=c.w.heap.setIfInBounds (c.φ i) (.map en' k') }->G1 P o a c.w undef { c.w with heap:=c.w.heap.setIfInBounds (c.φ i) (.map en' k') }:=by
  intro en' k' h;refine .inr ⟨?_,rfl⟩;unfold execOp;rcases ho with ho |ho<;>simp only[ho,e1,e2,Sem.run_bind,h,Result.andThen_ok,Sem.run_pure]
 unfold EG at hf;split at hf
 ·rename_i j v0 hfind;cases hf;obtain⟨kt,f1,f2,f3,f4⟩:=Re ht hq hw hfind h4 h2;rcases f4 with⟨h,_⟩ |⟨j',v',e,y,h,g1,rfl,g2,g3,g4,f5⟩
  ·cases h
  cases h;refine TR (en':=en.modify j fun e=>{ e with key:=y,val:=a.eval x }) (k':=kk) hr hi h1 (run _ _ ?_) (by simp[h2]) (fun hd=>Yk (fun e=>{ e with key:=y,val:=a.eval x }) (fun _=>rfl) (h3 hd)) (Yj g2 h2 _ rfl hv h5) fun _ _=>trivial
  simp only[Instr.mapUpdate,Sem.run_bind,run_underlying f1,Result.andThen_ok,hg,f3,f5,g2,LO,Nw,g3,fA g4,TP _ h1]
 ·rename_i hfind;cases hf;obtain⟨kt,f1,f2,f3,f4⟩:=Re ht hq hw hfind h4 h2;rcases f4 with⟨h,f5⟩ |⟨j',v',e,y,h,_⟩
  ·refine TR (en':=en.push ⟨kv,a.eval x,kk⟩) (k':=kk+1) hr hi h1 (run _ _ ?_) (by simp[h2]) (fun hd=>eu (h3 hd)) (ep h2 hv h5) fun _ _=>trivial
   simp only[Instr.mapUpdate,Sem.run_bind,run_underlying f1,Result.andThen_ok,hg,f3,f5,TP _ h1]
  cases h
 cases hf
theorem fC (hr:HR g c)(ht:AU P tab){T:Nat}{m k:Operand}(ho:o.op= .mapEntry T m k){q:Bool × List TK}(hq:(tab T).mkey=some q){kv:Value}{vk z:AV}(hkv:EQ vk=some kv)(hkr:Am g c vk (a.eval k))(hz:IA (tab (tab T).elem)=some z)(hw:F3 q kv=true)
  {i:Nat} {es:List (Value × AV)} (hm:Am g c (.mo i) (a.eval m)) (hi:c.hp i=some (.mo es false)) {r:Option (Nat × AV)} (hf:Dm q kv es=some r) {v:AV} {δ:List (Nat × AO)}
  (hv:(match r with |none=>(AV.tu [z,.v (.int .i64 es.length)],[(i,AO.mo (es++[(kv,z)]) false)]) |some (j,v)=>(.tu [v,.v (.int .i64 j)],[(i,.mo (es.set j (kv,v)) false)]))=(v,δ)):CI P o a g c id v δ:=by
 obtain⟨e1,_,en,kk,h1,h2,h3,h4,h5⟩:=HP hr hm hi;have e2:=TQ hkv hkr;have hg:=TO (P:=P) h1;obtain⟨hk,hb⟩:=h3 rfl;obtain⟨kt,f1,f2,f3,f4⟩:=Re ht hq hw hf h4 h2;obtain⟨uz,z1,z2⟩:=WC (g:=g) ht f2 hz c c.w;rcases f4 with⟨rfl,f5⟩ |⟨j,v',e,y,rfl,g1,rfl,g2,g3,g4,f5⟩
 ·simp only[Lu] at hv;obtain⟨rfl,rfl⟩:=hv;refine TR (en':=en.push ⟨kv,uz,kk⟩) (k':=kk+1) (u:=.tuple #[uz,goInt kk]) hr hi h1 (.inl ?_) (by simp[h2]) (fun _=>eu ⟨hk,hb⟩) (ep h2 z2 h5) fun c' he=>Pk (z2.ext he) (by rw[hk,h2];exact RA.v _ rfl);unfold execOp;simp only[ho,e1,e2,Instr.mapEntry,Sem.run_bind,run_underlying f1,Result.andThen_ok,hg,f3,f5,z1,TP _ h1,Sem.run_pure]
 simp only[Lu] at hv;obtain⟨rfl,rfl⟩:=hv;obtain⟨e',k1,k2,k3⟩:=h5 j _ v' g1;rw[g2] at k1;cases k1;have hbj:=hb j e g2;refine TR (en':=en.modify j fun e=>{ e with key:=y }) (k':=kk) (u:=.tuple #[e.val,goInt e.born]) hr hi h1 (.inl ?_) (by simp[h2]) (fun _=>Yk (fun e=>{ e with key:=y }) (fun _=>rfl) ⟨hk,hb⟩) (Yj (u:=e.val) g2 h2 _ rfl k3 h5) fun c' he=>Pk (k3.ext he) (by rw[hbj];exact RA.v _ rfl);unfold execOp;simp only[ho,e1,e2,Instr.mapEntry,Sem.run_bind,run_underlying f1,Result.andThen_ok,hg,f3,f5,g2,LO,Nw,g3,fA g4,TP _ h1,Sem.run_pure]
theorem oX (hr:HR g c){T:Nat}{m st x:Operand}(ho:o.op= .entryStore T m st x){vx:AV}(hx:Am g c vx (a.eval x))(hx1:Fh vx=true){j:Nat}{vs:AV}(hj:D8 vs=some j)(hst:Am g c vs (a.eval st))
  {i:Nat} {es:List (Value × AV)} (hm:Am g c (.mo i) (a.eval m)) (hi:c.hp i=some (.mo es false)) {kv:Value} {v0:AV} (he:es[j]? =some (kv,v0)):CI P o a g c id .un [(i,.mo (es.set j (kv,vx)) false)]:=by
 obtain⟨e1,_,en,kk,h1,h2,h3,h4,h5⟩:=HP hr hm hi;have hg:=TO (P:=P) h1;obtain⟨hk,hb⟩:=h3 rfl;obtain⟨ik,e3⟩:=JA hj hst;obtain⟨e,k1,k2,k3⟩:=h5 j _ _ he;have hlt:=(LN.1 k1).1;have hfi:en.findIdx? (fun e=>(e.born:Int)==(j:Int))=some j:=by
  rw[Array.findIdx?_eq_some_iff_getElem];refine⟨hlt,?_,fun i hi=> ?_⟩
  ·have:=hb j en[j] (by simp[hlt]);simp[this]
  have:=hb i en[i] (by simp);simp[this];omega
 refine TR (en':=en.modify j fun e=>{ e with val:=a.eval x }) (k':=kk) hr hi h1 (.inr ⟨?_,rfl⟩) (by simp[h2]) (fun _=>Yk (fun e=>{ e with val:=a.eval x }) (fun _=>rfl) ⟨hk,hb⟩) (Yj (u:=a.eval x) k1 h2 _ (by rw[<-k2]) (eZ hx1 hx) h5) fun _ _=>trivial;unfold execOp
 simp only[ho,e1,e3,Instr.entryStore,Sem.run_bind,Result.andThen_ok,hg,asInt,asIntOf,Sem.run_pure,hfi,TP _ h1]
end
end
section
section
variable {P:Program}{tab:Nat->TI}{o:Oper}{a:Act}{g:Gh}{c:Cf}{id:Nat}{ρ:Operand->AV}
theorem Yl (ht:AU P tab){T:Nat}(h:(tab T).ok=true):((tab T).zero.map D.v).length=(tab T).size:=by
 obtain⟨i,z,_,_,_,_,_,h6,_⟩:=ht.info T h;simpa using h6
theorem oY (hr:HR g c)(ht:AU P tab){T:Nat}{l k:Operand}(ho:o.op= .makeSlice T l k)(hk:(tab T).kind= .slice)(he:(tab (tab T).elem).ok=true)(hsz:0<(tab (tab T).elem).size)(hby:(tab (tab T).elem).bytes<=32768)
  {n m:Nat} {vl vk:AV} (hn:D8 vl=some n) (hm:D8 vk=some m) (hl:Am g c vl (a.eval l)) (hkk:Am g c vk (a.eval k)) (hnm:n<=m) (hmx:m<=4294967296) (hid:¬c.kn id):
  CI P o a g c id (.so id 0 0 n) [(id,.rw (List.replicate n ((tab (tab T).elem).zero.map D.v)) (tab (tab T).elem).size 0 false false)]:=by
 obtain⟨k1,e1⟩:=JA hn hl;obtain⟨k2,e2⟩:=JA hm hkk;obtain⟨i,z,h1,h2,h3,h4,h5,h6,h7,h8,h9⟩:=ht.info _ he;have hb:(i.bytes:Int)*(m:Int)<=281474976710656:=by
  have:i.bytes*m<=32768*4294967296:=BL (by omega) hmx;have h:((i.bytes*m:Nat):Int)<=281474976710656:=by omega
  rwa [Int.natCast_mul] at h
 have hrun:=run_make (P:=P) c.w T (tab T).elem i z (ht.slice hk) h1 h4 k1 k2 n m (by omega) (by omega) hb (by omega);simp only[Lv] at hrun;have hzl:=Yl ht he;refine Ye (cells:=madeCells z.cells (m*i.size)) (T:=(tab T).elem) hr (w0:=c.w) rfl rfl rfl rfl hid hsz (fun i cs hi=> ?_) (C:=m) (by rw[size_madeCells,h2]) (by simp) hnm (by simp only[maxLen];omega) (fun i' j cs d hi hj=> ?_) ?_
 ·rw[N3] at hi;split at hi
  ·cases hi;exact hzl
  cases hi
 ·rw[N3] at hi;split at hi
  ·rename_i hlt;cases hi;rw[Lj,La] at hj;obtain⟨u,hj1,rfl⟩:=hj;have hj2:=(Lb.1 hj1).1;refine⟨u,?_,RC.v u (h7 u (Lt hj1))⟩;have hs:i'*(tab (tab T).elem).size+j<m*i.size:=by
    rw[h2]
    have:(i'+1)*(tab (tab T).elem).size<=m*(tab (tab T).elem).size:=LR _ (by omega);rw[Nb,Bk] at this;omega
   unfold madeCells;rw[BD,Oh,if_pos hs];simp only[LO,Le];have hmod:(i'*(tab (tab T).elem).size+j)%z.cells.size=j:=by
    rw[h5,LU,h6,BM,BR];exact BN (by omega)
   rw[hmod,h5];rw[Lb] at hj1;obtain⟨h10,h11⟩:=hj1;simp[h10,h11]
  cases hi
 unfold execOp;simp only[ho,e1,e2,Sem.run_bind,hrun,Result.andThen_ok,Sem.run_pure]
theorem oZ {zc:Array Value}{m sz i j:Nat}(hz:zc.size=sz)(hi:i<m)(hj:j<sz):(Builtin.zeroCells zc m)[i*sz+j]? =zc[j]? :=by
 unfold Builtin.zeroCells;have hs:i*sz+j<m*zc.size:=by
  rw[hz]
  have:(i+1)*sz<=m*sz:=LR _ (by omega);rw[Nb,Bk] at this;omega
 rw[BD,Oh,if_pos hs];have hmod:(i*sz+j)%zc.size=j:=by
  rw[hz,BM,BR];exact BN hj
 have hj2:j<zc.size:=by omega
 simp only[LO,hmod,LA hj2];rw[getElem!_pos zc j hj2]
theorem oa (hr:HR g c)(ht:AU P tab){T T':Nat}{x y:Operand}(ho:o.op= .call { callee:=.builtin .append,args:= #[x,y],argTypes:= #[T,T'] }){vx vy:AV}(hx:Am g c vx (a.eval x))(hy:Am g c vy (a.eval y))(hid:¬c.kn id){v:AV}{δ:List (Nat × AO)}(h:GV tab id T T' vx (D8 vy)=some (v,δ)):CI P o a g c id v δ:=by
 unfold GV at h;split at h;rotate_left
 ·cases h
 rename_i kk n hk' e;split at h;rotate_left
 ·cases h
 rename_i hc;obtain⟨hk,he,hsz,hby,h0,hmx⟩:=hc;cases h;obtain⟨k1,e1⟩:=JA e hy;have e2:=hx.v.1;obtain⟨i,z,h1,h2,h3,h4,h5,h6,h7,h8,h9⟩:=ht.info _ he;have hb:n*i.bytes<=281474976710656:=by
  have:n*i.bytes<=4294967296*32768:=BL hmx (by omega);omega
 have hti:P.underlying T'=some (.int kk):=by
  obtain⟨d,q1,q2⟩:=ht.kind T' (ht.okOf (by rw[hk'];simp));rw[hk'] at q2;subst q2;exact q1
 have hrun:=Lib.run_append_nil_zeros (P:=P) c.w T T' o.type (tab T).elem i z k1 kk (ht.slice hk) hti h1 h4 n h0 (by omega) (by omega) hb;have hcap:=grownCap_ge c.w n 0 (tab T).elem;have hcap2:=grownCap_le_maxLen c.w n 0 (tab T).elem (by simp only[maxLen];omega);have hzl:=Yl ht he;have hzc:z.cells.size=(tab (tab T).elem).size:=by rw[h5];simpa using h6
 refine Ye (cells:=Builtin.zeroCells z.cells n++Builtin.zeroCells z.cells (grownCap c.w n 0 (tab T).elem-n)) (T:=(tab T).elem) hr (w0:=c.w.drew) rfl rfl rfl rfl hid hsz (fun i cs hi=> ?_) (C:=grownCap c.w n 0 (tab T).elem) ?_ (by simp) hcap hcap2 (fun i' j cs d hi hj=> ?_) ?_
 ·rw[N3] at hi;split at hi
  ·cases hi;exact hzl
  cases hi
 ·rw[B9,size_zeroCells,size_zeroCells,hzc,<-Nb];congr 1;omega
 ·rw[N3] at hi;split at hi
  ·rename_i hlt;cases hi;rw[Lj,La] at hj;obtain⟨u,hj1,rfl⟩:=hj;have hj2:j<(tab (tab T).elem).size:=(by have:=(Lb.1 hj1).1;omega);refine⟨u,?_,RC.v u (h7 u (Lt hj1))⟩;have hq:=oZ (m:=n) hzc hlt hj2;have hsome:z.cells[j]? =some u:=(by rw[h5];simpa using hj1);rw[hsome] at hq;rw[NB (LN.1 hq).1];exact hq
  cases hi
 unfold execOp;simp only[ho,resolve,invoke,builtin,List.map_toArray,Lk,LD,e2,e1,Sem.run_bind,hrun,Result.andThen_ok,Sem.run_pure]
theorem Pl (hr:HR g c){x y:Operand}{ty:Array TypeId}(ho:o.op= .call { callee:=.builtin .min,args:= #[x,y],argTypes:=ty }){k k':IntKind}{p q:Int}(hx:Am g c (.v (.int k p)) (a.eval x))(hy:Am g c (.v (.int k' q)) (a.eval y)):
  CI P o a g c id (.v (.int k (if q<p then q else p))) []:=by
 refine CI.pure hr (u:=.int k (if q<p then q else p)) ?_ (RA.v _ rfl);unfold execOp;simp[ho,resolve,invoke,builtin,hx.v.1,hy.v.1,Builtin.min_,Builtin.min2]
theorem od (hr:HR g c)(ht:AU P tab){T:Nat}{x i:Operand}(ho:o.op= .index T x i){vx vi:AV}(hx:Am g c vx (a.eval x))(hi:Am g c vi (a.eval i)){v:AV}{δ:List (Nat × AO)}(h:HN tab T (Ff vx) (D8 vi)=some (v,δ)):CI P o a g c id v δ:=by
 unfold HN at h;split at h
 ·rename_i len cs n hk hc hn;obtain⟨d,h1,h2⟩:=ht.kind T (ht.okOf (by rw[hk];simp));rw[hk] at h2;obtain⟨rfl,hok,_⟩:=h2;obtain⟨vs,e1,h3,h4⟩:=WA hc hx;obtain⟨k,e2⟩:=JA hn hi;split at h
  ·rename_i hlt;split at h
   ·rename_i hg;obtain⟨c1,h5,h6⟩:=La.1 h;cases h6;obtain⟨h7,h8,h9⟩:=V4 h5;refine CI.pure hr (u:=.agg (vs.extract (n*(tab (tab T).elem).size) (n*(tab (tab T).elem).size+(tab (tab T).elem).size))) ?_ ⟨_,rfl,by simp;omega,fun j y hj=> ?_⟩
    ·unfold execOp;simp[ho,e1,e2,Instr.index,asIntOf,run_underlying h1,hlt,ht.sizeOf hok,part,ht.isAgg hok,hg]
    rw[h8] at hj;obtain⟨g1,g2⟩:=KM _ _ _ _ _ hj;obtain⟨y',g3,g4⟩:=h4 _ _ g2;refine⟨y',?_,g4⟩;rw[OG,ifp];exact g3
   rename_i hg;obtain⟨c1,h5,h6⟩:=La.1 h;cases h6;obtain⟨y',g3,g4⟩:=h4 _ _ h5;refine CI.pure hr (u:=y') ?_ g4.toAt;unfold execOp;simp[ho,e1,e2,Instr.index,asIntOf,run_underlying h1,hlt,ht.sizeOf hok,part,ht.isAgg hok,hg,g3]
  cases h
 cases h
theorem fD {x:Operand}{T:TypeId}(ho:o.op= .call { callee:=.builtin .clear,args:= #[x],argTypes:= #[T] }){w w':World}{u:Value}(h:∀ty,(Builtin.clear_ #[T] ty #[a.eval x]).run P w= .ok u w'):(execOp a.eval o).run P w= .ok (.value u) w':=by
 unfold execOp;simp[ho,resolve,invoke,builtin,h]
theorem fE {c':Cf}:Am g c' (.tu []) (.tuple #[]):=⟨#[],rfl,rfl,fun j x h=>by simp at h⟩
theorem fF (hr:HR g c)(ht:AU P tab){T:Nat}{x:Operand}(ho:o.op= .call { callee:=.builtin .clear,args:= #[x],argTypes:= #[T] })(hk:(tab T).kind= .slice){A:Option Addr}{C:Nat}(hx:a.eval x= .slice A 0 C):CI P o a g c id (.tu []) []:=by
 refine CI.pure hr (u:=.tuple #[]) (fD ho fun ty=> ?_) fE;rw[hx];cases A<;>simp[Builtin.clear_,run_underlying (ht.slice hk)]
theorem oe (hr:HR g c){i:Nat}{ao ao':AO}{cur cur':Array Value}{T:TypeId}(hi:c.hp i=some ao)(hf:ao.fz=false)(hcur:c.w.heap[c.φ i]? =some (.cells cur T (0,0)))(hsz:cur'.size=cur.size)
  (h:(execOp a.eval o).run P c.w= .ok (.value (.tuple #[])) (c.w.setRow (c.φ i) cur')) (hrw:ao.isRw=false->ao'.isRw=false)
  (hrs:∀es' sz v' br' fz',ao'= .rw es' sz v' br' fz'->∃es v br fz,ao= .rw es sz v br fz/\v<=v'/\(v=v'->es.length=es'.length))
  (ho:∀c',CF c c'->c'.φ i=c.φ i->c'.w.heap[c.φ i]? =some (.cells cur' T (0,0))->OK g c' i ao'):CI P o a g c id (.tu []) [(i,ao')]:=by
 have hnew:(c.w.setRow (c.φ i) cur').heap[c.φ i]? =some (.cells cur' T (0,0)):=setRow_heap c.w (c.φ i) cur _ T _ hcur;have hbl:∀k,k<c.w.heap.size->k≠c.φ i->(c.w.setRow (c.φ i) cur').heap[k]? =c.w.heap[k]? :=fun k _ hk=>setRow_other c.w (c.φ i) k _ hk;have he:CF c ⟨upd i (some ao') c.hp,upd i (c.φ i) c.φ,c.w.setRow (c.φ i) cur',fun k=>c.kn k\/k=id⟩:=by
  refine CF.chg hr hi hf rfl rfl rfl (by simp) hbl (.inl rfl) (fun _ h=>.inl h) (fun h=>⟨rfl,hrw h⟩) fun es' sz v' br' fz' e=> ?_;obtain⟨es,v,br,fz,h1,h2,h3⟩:=hrs es' sz v' br' fz' e;refine⟨es,v,br,fz,h1,h2,fun e=>⟨rfl,h3 e,fun cur0 T0 e0=> ?_⟩⟩;rw[hcur] at e0;cases e0;exact⟨cur',hnew,hsz⟩
 refine⟨_,.tuple #[],_,.val h,he,HR.chg hr hi he hbl (.inl rfl) (by simpa using(hr.dom i _ hi).2.2) (ho _ he (Ah _ _ _) hnew),fE⟩
theorem og (hr:HR g c)(ht:AU P tab){T:Nat}{x:Operand}(ho:o.op= .call { callee:=.builtin .clear,args:= #[x],argTypes:= #[T] })(hk:(tab T).kind= .slice)(he:(tab (tab T).elem).ok=true)(_hsz:0<(tab (tab T).elem).size)
  {i ver off n sz:Nat} {br:Bool} {es:List (List D)} (hx:Am g c (.so i ver off n) (a.eval x)) (hi:c.hp i=some (.rw es sz ver br false)) (hs:sz=(tab (tab T).elem).size) (hn:0<n) (hle:off+n<=es.length):
  CI P o a g c id (.tu []) [(i,.rw (es.take off++List.replicate n ((tab (tab T).elem).zero.map D.v)++es.drop (off+n)) sz ver br false)]:=by
 obtain⟨_,_,cur,T',C,h3,h4,e1⟩:=Am.so hx hi;obtain⟨hp0,hz,T2,vs,C2,g1,g2,g3,g4,g5⟩:=hr.obj i _ hi;rw[h3] at g1;cases g1;obtain⟨ti,z,k1,k2,k3,k4,k5,k6,k7,k8,k9⟩:=ht.info _ he;have hzl:=Yl ht he;let news:List Value:=(Builtin.zeroCells z.cells n).toList;have hnl:news.length=n*sz:=by
  show(Builtin.zeroCells z.cells n).toList.length=_;rw[Nr,size_zeroCells,k5,LU,k6,hs]
 have hin:off*sz+n*sz<=cur.size:=by
  rw[g2,<-Nb];exact LR _ (by omega)
 have hget:∀i' j,i'<n->j<sz->∃v,news[i'*sz+j]? =some v/\(tab (tab T).elem).zero[j]? =some v:=by
  intro i' j hi' hj;have hjz:j<(tab (tab T).elem).zero.length:=by rw[k6,<-hs];exact hj
  refine⟨(tab (tab T).elem).zero[j],?_,by simp[hjz]⟩;have hlt:i'*sz+j<n*sz:=by
   have:(i'+1)*sz<=n*sz:=LR _ (by omega);rw[Nb,Bk] at this;omega
  show(Builtin.zeroCells z.cells n).toList[i'*sz+j]? =_;have hmod:(i'*sz+j)%z.cells.size=j:=by
   rw[k5,LU,k6,<-hs,BM,BR];exact BN hj
  have hsz2:n*z.cells.size=n*sz:=by rw[k5,LU,k6,hs]
  simp only[Builtin.zeroCells];rw[NN,BD,Oh,if_pos (by rw[hsz2];exact hlt)];simp only[LO,Le];rw[hmod,k5];simp[hjz]
 have hone:∀v∈news,v.oneCell'=true:=by
  intro v hv;obtain⟨t,ht'⟩:=NU.1 hv;have hlt:=(Lb.1 ht').1;rw[hnl] at hlt;have q:=Nat.div_add_mod t sz;rw[Bv] at q;have hd:t / sz<n:=OV (by rw[Bv];exact hlt);obtain⟨v',q1,q2⟩:=hget (t / sz) (t%sz) hd (Og _ hp0);rw[q] at q1;rw[ht'] at q1;cases q1;exact k7 _ (Lt q2)
 have hst:=run_storeCells_at P (c.φ i) (off*sz) T' news 0 cur c.w h3 (by simpa [hnl] using hin) hone;simp only[NS] at hst;obtain⟨m,rfl⟩:∃m,n=m+1:=⟨n-1,by omega⟩;have hlen:(es.take off++List.replicate (m+1) ((tab (tab T).elem).zero.map D.v)++es.drop (off+(m+1))).length=es.length:=by simp;omega
 refine oe (cur':=(Ct (off*sz) news cur.toList).toArray) hr hi rfl h3 (by rw[LU,IB _ _ _ (by rw[hnl];simpa using hin)];simp) (fD ho fun ty=> ?_) (fun h=>by cases h) (fun es' sz' v' br' fz' e=>by cases e;exact⟨es,ver,br,false,rfl,Lc _,fun _=>hlen.symm⟩) fun c' hec hφ hw=>
  ⟨hp0,fun i' cs hi'=> ?_,T',_,C2,by rw[hφ];exact hw,by rw[LU,IB _ _ _ (by rw[hnl];simpa using hin)];simpa using g2,by rw[hlen];exact g3,g4,fun i' j cs d hi' hj=> ?_⟩
 ·rw[e1];simp only[Builtin.clear_,Np,LV,Sem.run_bind,run_underlying (ht.slice hk),Result.andThen_ok];have hst':(storeCells ⟨c.φ i,off*sz,none⟩ (Builtin.zeroCells z.cells (m+1)).toList).run P c.w=_:=hst;simp[zeroValue,typeInfo,k1,k4,Ct,hst',news]
 ·rw[Bo,Bo] at hi';split at hi'
  ·split at hi'
   ·rw[Nn] at hi';split at hi'
    ·exact hz _ _ hi'
    cases hi'
   rw[N3] at hi';split at hi'
   ·cases hi';rw[hzl,hs]
   cases hi'
  rw[NQ] at hi';exact hz _ _ hi'
 rw[Np,IC _ _ _ (by rw[hnl];simpa using hin)];rw[hnl];have hjsz:∀ {cs0:List D},cs0.length=sz->cs0[j]? =some d->j<sz:=fun h1 h2=>by have:=(Lb.1 h2).1;omega
 have old:∀ {i0:Nat} {cs0:List D},es[i0]? =some cs0->cs0[j]? =some d->∃u,cur.toList[i0*sz+j]? =some u/\RC c'.w (Im g c' br) d u:=fun h6 h7=>by
  obtain⟨u,h8,h9⟩:=g5 _ j _ d h6 h7;exact⟨u,by simpa using h8,RC.ext hec h9⟩
 rw[Bo,Bo] at hi';simp only[Lf,Lw,OL] at hi';rw[BZ (by omega)] at hi';split at hi'
 ·rename_i hlt;split at hi'
  ·rename_i hlt2;rw[Nn,if_pos hlt2] at hi';have hj3:=hjsz (hz _ _ hi') hj
   have:(i'+1)*sz<=off*sz:=LR _ (by omega);rw[Nb,Bk] at this;rw[ifp];exact old hi' hj
  rename_i hge;rw[N3,ifp] at hi';cases hi';have hj3:=hjsz (by rw[hzl,hs]) hj;obtain⟨v,q1,q2⟩:=hget (i'-off) j (by omega) hj3;have hmul:i'*sz=off*sz+(i'-off)*sz:=by rw[<-Nb];congr 1;omega
  have hb2:(i'-off+1)*sz<=(m+1)*sz:=LR _ (by omega);rw[Nb,Bk] at hb2;rw[ifn,ifp,show i'*sz+j-off*sz=(i'-off)*sz+j by omega];rw[Lj,q2] at hj;cases hj;exact⟨v,q1,RC.v v (k7 v (Lt q2))⟩
 rename_i hge;rw[NQ] at hi';have e0:off+(m+1)+(i'-(off+(m+1)))=i':=by omega
 rw[e0] at hi';have hj3:=hjsz (hz _ _ hi') hj;have hb2:(off+(m+1))*sz<=i'*sz:=LR _ (by omega);rw[Nb] at hb2;rw[ifn,ifn];exact old hi' hj
end
end
section
section
variable {P:Program}{tab:Nat->TI}{o:Oper}{a:Act}{g:Gh}{c:Cf}{id:Nat}{ρ:Operand->AV}
theorem fG {es:List (List D)}{b:Bool}{u:Value}(h:RC c.w (Im g c b) (.sl es) u):∃A cx,u= .slice A es.length cx/\es.length<=cx:=by
 generalize hD:D.sl es=dd at h;cases h with
 |nl A cx=>cases hD;exact⟨A,cx,rfl,Ll _⟩
 |sl es' bl p cx sz us hI hc hz hm hd=>cases hD;exact⟨_,_,rfl,hc⟩
 |v _ _=>cases hD
 |pt _ _ _ _ _ _ _ _=>cases hD
 |mp _ _ _ _ _ _ _ _ _=>cases hD
theorem oh {es:List (List D)}{b:Bool}{A:Option Addr}{cx sz l h:Nat}(hs:RC c.w (Im g c b) (.sl es) (.slice A es.length cx))(hck:ED sz es=true)(hl:l<=h)(hh:h<=es.length):
  RC c.w (Im g c b) (.sl ((es.take h).drop l)) (.slice (if cx=l then A else A.map (·.add (l*sz))) (h-l) (cx-l)):=by
 have hlen:((es.take h).drop l).length=h-l:=by rw[Nv,Lw];omega
 by_cases h0:(es.take h).drop l= []
 ·rw[h0] at hlen⊢;simp only[LB] at hlen;rw[<-hlen];exact .nl _ _
 have hpos:0<h-l:=by rw[<-hlen];exact NA.2 h0
 generalize hD:D.sl es=dd at hs;generalize hU:Value.slice A es.length cx=uu at hs;cases hs with
 |nl A cx=>cases hD;simp at hh;omega
 |sl es' bl p cx' sz' us hI hc hz hm hd=>
  cases hD;simp only[Value.slice.injEq] at hU;obtain⟨rfl,_,rfl⟩:=hU;have hsz:sz'=sz:=by
   have hp:0<es.length:=(by omega);have e1:es[0]? =some es[0]:=Ld hp;rw[<-hz 0 _ e1,Rc hck e1]
  subst hsz;have hget:∀(i:Nat) (cs:List D),((es.take h).drop l)[i]? =some cs->es[l+i]? =some cs:=fun i cs hi=>by
   rw[NQ,Nn] at hi;split at hi
   ·exact hi
   cases hi
  rw[ifn];simp only[LO,HO];rw[<-hlen];refine .sl _ bl (p+l*sz') _ sz' (fun i j=>us (l+i) j) hI (by omega) (fun i cs hi=>hz _ _ (hget i cs hi)) (fun i j cs d hi hj=> ?_) fun i j cs d hi hj=>hd _ _ _ _ (hget i cs hi) hj
  have:=hm _ _ _ _ (hget i cs hi) hj;have e:p+(l+i)*sz'+j=p+l*sz'+i*sz'+j:=by rw[Nb];omega
  rw[<-e];exact this
 |v _ _=>cases hD
 |pt _ _ _ _ _ _ _ _=>cases hD
 |mp _ _ _ _ _ _ _ _ _=>cases hD
theorem Pn {es:List (List D)}{b:Bool}{u:Value}{n sz:Nat}{cs:List D}(hs:RC c.w (Im g c b) (.sl es) u)(hn:es[n]? =some cs)(hcs:cs.length=sz):∃bl p cx,u= .slice (some ⟨bl,p,none⟩) es.length cx/\RC c.w (Im g c b) (.pt cs 0) (.pointer (some ⟨bl,p+n*sz,none⟩)):=by
 generalize hD:D.sl es=dd at hs;cases hs with
 |nl A cx=>cases hD;simp at hn
 |sl es' bl p cx' sz' us hI hc hz hm hd=>
  cases hD;have hsz:sz'=sz:=by rw[<-hz n cs hn,hcs]
  subst hsz;exact⟨bl,p,cx',rfl,RC.pt cs 0 bl (p+n*sz') (us n) hI (fun j d hj=>hm n j cs d hn hj) fun j d hj=>hd n j cs d hn hj⟩
 |v _ _=>cases hD
 |pt _ _ _ _ _ _ _ _=>cases hD
 |mp _ _ _ _ _ _ _ _ _=>cases hD
theorem Ym {cs:List D}{off:Nat}{b:Bool}{u:Value}(h:RC c.w (Im g c b) (.pt cs off) u):∃bl o,u= .pointer (some ⟨bl,o+off,none⟩)/\(∀off',RC c.w (Im g c b) (.pt cs off') (.pointer (some ⟨bl,o+off',none⟩)))/\
  ∃us:Nat->Value,(∀(j:Nat) (d:D),cs[j]? =some d->c.w.cell? ⟨bl,o+j,none⟩=some (us j))/\∀(j:Nat) (d:D),cs[j]? =some d->RC c.w (Im g c b) d (us j):=by
 cases h with
 |pt _ _ bl o us hI hm hd=>exact⟨bl,o,rfl,fun off'=>.pt cs off' bl o us hI hm hd,us,hm,hd⟩
theorem ol {x v:AV}{k:Nat}{u:Value}(h:Ko k x=some v)(hx:Am g c x u):∃ad,u= .pointer (some ad)/\Am g c v (.pointer (some (ad.add k))):=by
 unfold Ko at h;split at h
 ·rename_i i p;cases h;obtain⟨h1,h2,h3⟩:=hx.pt;exact⟨_,h1,by rw[HO];exact RA.pt i (p+k) h2 h3⟩
 ·rename_i cs p b;cases h;obtain⟨bl,q,hu,hp,_⟩:=Ym hx.dpt;exact⟨_,hu,by rw[HO];exact RA.d _ _ _ (by rw[Nu];exact hp (p+k))⟩
 ·rename_i i ver r p;cases h;cases(show RA g c (.pr i ver r p) u from hx) with
  |pr _ _ _ _ _ hkn hp hv=>
   obtain⟨ad,hu⟩:=hp;subst hu;refine⟨ad,rfl,RA.pr i ver r (p+k) _ hkn ⟨_,rfl⟩ fun es sz v' br fz hi=> ?_⟩;obtain⟨h1,h2⟩:=hv es sz v' br fz hi;refine⟨h1,fun e=> ?_⟩
   have:=h2 e;simp only[Value.pointer.injEq,Le] at this;rw[this,HO,Nu]
 cases h
theorem DQ.toAt {x:AV}{u:Value}(h:DQ g c x u):Am g c x u:=by
 cases x with
 |tu cs=>cases h
 |d x b=>cases x with
  |tu cs=>cases h with |d _ _ _ h1=>cases h1
  |_=>exact h
 |_=>exact h
theorem fH {x:AV}{u:Value}(h:FZ x=true)(hx:Am g c x u):RA g c x u:=by
 cases x with
 |ag cs=>cases h
 |tu cs=>cases h
 |un=>cases h
 |d x b=>cases x with |ag cs=>cases h |tu cs=>cases h |_=>exact hx
 |_=>exact hx
theorem Rg {α:Type}{xs:Array α}{x:α}(h:xs.toList= [x]):xs= #[x]:=by
 cases xs;simp at h;simp[h]
theorem Yn {α:Type}{xs:Array α}{x y:α}(h:xs.toList= [x,y]):xs= #[x,y]:=by
 cases xs;simp at h;simp[h]
theorem fI (hr:HR g c)(ht:AU P tab)(hρ:∀x,Am g c (ρ x) (a.eval x))(hid:¬c.kn id){v:AV}{δ:List (Nat × AO)}(h:CB tab ρ c.hp id o.op=some (v,δ)):CI P o a g c id v δ:=by
 generalize hop:o.op=op at h;unfold CB at h;split at h
 case h_1 x=>cases h;exact dz hr (.inl hop) (hρ x)
 case h_2 x=>cases h;exact dz hr (.inr hop) (hρ x)
 case h_3 x y z=>
  split at h
  ·rename_i t e;cases h;refine nh hr hop (t:=t) (Dk e hρ) ?_;cases t
   ·exact hρ z
   exact hρ y
  cases h
 case h_4 T=>
  split at h
  ·rename_i hok;cases h;exact nf hr ht hop hok hid
  cases h
 case h_5 T x=>
  obtain⟨cs,h1,h2⟩:=La.1 h;cases h2;exact Pg hr hop (hρ x) h1 hid
 case h_6 T ps=>
  split at h
  ·rename_i hc;obtain⟨cs,h1,h2⟩:=La.1 h;cases h2;exact oF hr ht hop hc.1 hc.2 hρ h1
  cases h
 case h_7 T x=>
  split at h;rotate_left
  ·cases h
  rename_i hok;split at h
  ·rename_i i off e;split at h
   ·rename_i cs hi;have hx:=Dk e hρ;split at h
    ·rename_i hg;obtain⟨c1,h1,h2⟩:=La.1 h;cases h2;exact dh hr ht hop hok hx hi (by rw[if_pos hg,h1];rfl)
    rename_i hg;obtain⟨c1,h1,h2⟩:=La.1 h;cases h2;exact dh hr ht hop hok hx hi (by rw[if_neg hg,h1])
   cases h
  ·rename_i cs off b e;have hx:=Dk e hρ;obtain⟨bl,p,hu,_,us,hm,hd⟩:=Ym hx.dpt;split at h
   ·rename_i hg;obtain⟨c1,h1,h2⟩:=La.1 h;cases h2;exact YZ hr ht hop hok us hu hm hd (by rw[if_pos hg,h1];rfl)
   rename_i hg;obtain⟨c1,h1,h2⟩:=La.1 h;cases h2;exact YZ hr ht hop hok us hu hm hd (by rw[if_neg hg,h1];rfl)
  ·rename_i i ver k off e;split at h
   ·rename_i es sz v' br fz hi;split at h
    ·rename_i hv;subst hv;have hx:=Dk e hρ;split at h
     ·rename_i cs hk;split at h
      ·rename_i hg;obtain⟨c1,h1,h2⟩:=La.1 h;cases h2;exact di hr ht hop hok hx hi hk (by rw[if_pos hg,h1];rfl)
      rename_i hg;obtain⟨c1,h1,h2⟩:=La.1 h;cases h2;exact di hr ht hop hok hx hi hk (by rw[if_neg hg,h1];rfl)
     cases h
    cases h
   cases h
  cases h
 case h_8 T x y=>
  split at h;rotate_left
  ·cases h
  rename_i hok;split at h
  ·rename_i i off xs e e2;split at h
   ·rename_i cs hi;split at h
    ·rename_i hc;cases h;exact ng hr ht hop hok (Dk e hρ) hi (hρ y) e2 hc.1 hc.2
    cases h
   cases h
  ·rename_i i ver k off xs e e2;split at h
   ·rename_i es sz v' br ds b is hi hd;split at h
    ·rename_i cs hk;split at h
     ·rename_i hc;cases h;obtain⟨hv,hc1,hc2,hc3⟩:=hc;subst hv;exact oM hr ht hop hok (Dk e hρ) hi hk (hρ y) e2 hd hc1 hc2 hc3
     cases h
    cases h
   cases h
  cases h
 case h_9 x=>
  split at h
  ·rename_i hp;cases h;obtain⟨p,hu⟩:=eW hp (hρ x);exact Ph hr hop hu (hρ x)
  cases h
 case h_10 op T x y T'=>
  obtain⟨v',h1,h2⟩:=La.1 h;cases h2;exact oQ hr ht hop (hρ x) (hρ y) h1
 case h_11 op T x=>
  split at h
  ·rename_i b e;cases h
   have:=(Dk e hρ).v.1;exact d5 hr hop (u:=.bool !b) (by rw[this];simp[Op.unary]) (RA.v _ rfl)
  ·rename_i k n e;cases h
   have:=(Dk e hρ).v.1;exact d5 hr hop (u:=.int k (k.wrap (0-n))) (by rw[this];simp[Op.unary,Op.intArith]) (RA.v _ rfl)
  cases h
 case h_12 s t x=>
  split at h
  ·rename_i k k' n hs hk e;cases h;exact nt hr ht hop hs hk (k':=k') (Dk e hρ)
  ·rename_i n hs hk e;cases h;exact nu hr ht hop hs hk (Dk e hρ)
  ·rename_i es b hs hk e;split at h
   ·rename_i hg;obtain⟨h3,h4,h0⟩:=hg;obtain⟨bs,h5,h6⟩:=La.1 h;cases h6;exact nz hr ht hop hk h3 h4 h0 h5 (Dk e hρ)
   cases h
  cases h
 case h_13 T x f=>
  split at h;rotate_left
  ·cases h
  rename_i hk;split at h;rotate_left
  ·cases h
  rename_i off n hf;split at h
  ·cases h
  rename_i hn;split at h
  ·rename_i i p e;cases h;have hx:=(Dk e hρ).pt;exact d7 hr ht hop hk hf hn hx.1 (RA.pt i (p+off) hx.2.1 hx.2.2)
  ·rename_i cs p b e;cases h;have hx:=Dk e hρ;obtain⟨bl,q,hu,hp,_⟩:=Ym hx.dpt;exact d7 hr ht hop hk hf hn hu (RA.d _ _ _ (by rw[Nu];exact hp (p+off)))
  ·rename_i i ver k p e;cases h;have hx:=Dk e hρ;generalize hU:a.eval x=uu at hx;cases(show RA g c (.pr i ver k p) uu from hx) with
   |pr _ _ _ _ _ hkn hp hv=>
    obtain⟨ad,hu⟩:=hp;subst hu;refine n8 hr ht hop hk hf hn hU (RA.pr i ver k (p+off) _ hkn ⟨_,rfl⟩ fun es sz v' br fz hi=> ?_);obtain⟨h1,h2⟩:=hv es sz v' br fz hi;refine⟨h1,fun e=> ?_⟩
    have:=h2 e;simp only[Value.pointer.injEq,Le] at this;rw[this,HO,Nu]
  cases h
 case h_14 T x i=>
  split at h
  ·rename_i hk;split at h
   ·rename_i es b n e e2;split at h
    ·rename_i cs hn;split at h
     ·rename_i hc;cases h;obtain⟨bl,p,cx,hu,hv⟩:=Pn (Dk e hρ).dsl hn hc.2;obtain⟨k,hi⟩:=JA e2 (hρ i);exact d8 hr ht hop hk hc.1 hu hi (Lb.1 hn).1 (RA.d _ _ _ hv)
     cases h
    cases h
   ·rename_i j ver off len n e e2;split at h
    ·rename_i es sz v' br fz hi;split at h
     ·rename_i hc;obtain⟨hc1,hc2,hc3,hc4⟩:=hc;cases h;subst hc2;obtain⟨h1,h2,cur,T',C,h3,h4,h5⟩:=Am.so (Dk e hρ) hi;obtain⟨k,hidx⟩:=JA e2 (hρ i);refine d8 hr ht hop hk hc3 h5 hidx hc1 (RA.pr j ver (off+n) 0 _ h2 ⟨_,rfl⟩ fun es' sz' v2 br' fz' hi'=> ?_);rw[hi] at hi';cases hi';refine⟨Lc _,fun _=> ?_⟩;rw[<-hc4,Nb,NS]
     cases h
    cases h
   cases h
  unfold JP at h;split at h
  ·rename_i len n hk e2;split at h
   ·rename_i hn;obtain⟨v',h1,h2⟩:=La.1 h;cases h2;obtain⟨k,hidx⟩:=JA e2 (hρ i);obtain⟨ad,hu,hv⟩:=ol h1 (hρ x);exact oB hr ht hop hk hu hidx hn hv
   cases h
  cases h
 case h_15 T x i=>
  split at h
  ·rename_i hk;split at h
   ·rename_i s n e e2;obtain⟨b,h1,h2⟩:=La.1 h;cases h2;obtain⟨k,hidx⟩:=JA e2 (hρ i);exact oC hr ht hop hk (Dk e hρ).v.1 hidx h1
   cases h
  exact od hr ht hop (hρ x) (hρ i) h
 case h_16 T x lo hi=>
  split at h
  ·rename_i s hk e;obtain⟨⟨l,u⟩,h1,h2⟩:=La.1 h;cases h2;exact oD hr ht hop hk hρ (Dk e hρ).v.1 h1
  ·rename_i es b hk e;split at h
   ·rename_i hc;obtain⟨⟨l,u⟩,h1,h2⟩:=La.1 h;cases h2;have hd:=(Dk e hρ).dsl;obtain⟨A,cx,hu,hle⟩:=fG hd;rw[hu] at hd;obtain⟨_,b1,b2⟩:=TG (P:=P) true hρ h1 hle c.w;exact V7 hr ht hop hk hc.1 hρ hu hle h1 (RA.d _ _ _ (oh hd hc.2 b1 b2))
   cases h
  ·rename_i j ver off len hk e;split at h;rotate_left
   ·cases h
   rename_i l u es sz v' br fz h1 hi;split at h;rotate_left
   ·cases h
   rename_i hc;obtain⟨hc2,hc3,hc4⟩:=hc;subst hc2;obtain⟨q1,q2,cur,T',C,q3,q4,q5⟩:=Am.so (Dk e hρ) hi;obtain⟨h0,hz,T2,vs,C2,q6,q7,q8,q9,q10⟩:=hr.obj j _ hi;rw[q3] at q6;cases q6;have hCC:off+C=C2:=BP h0 (q4.symm.trans q7);have hle:len<=C:=(by omega);obtain⟨_,b1,b2⟩:=TG (P:=P) true hρ h1 hle c.w;split at h
   case isFalse hc1=>
    cases h;refine V7 hr ht hop hk hc3 hρ q5 hle h1 ?_
    have:u-l=0:=(by omega);rw[this];exact RA.d _ _ _ (.nl _ _)
   rename_i hc1;cases h;have hadd:(if C=l then(some ⟨c.φ j,off*sz,none⟩:Option Addr) else(some ⟨c.φ j,off*sz,none⟩:Option Addr).map (·.add (l*sz)))=some ⟨c.φ j,(off+l)*sz,none⟩:=by
    have e5:off*sz+l*sz=(off+l)*sz:=(by rw[Nb]);split
    ·rename_i e6;rcases hc1 with h2 |h2
     ·subst h2;simp
     omega
    simp only[LO,HO,e5]
   refine V7 hr ht hop hk hc3 hρ q5 hle h1 ?_;rw[<-hc4,hadd];refine RA.so j ver (off+l) (u-l) _ q2 ⟨_,_,rfl⟩ fun es' sz' v2 br' fz' hi'=> ?_;rw[hi] at hi';cases hi';exact⟨Lc _,fun _=>⟨by omega,cur,T',C-l,q3,by rw[q4];congr 1;omega,rfl⟩⟩
  ·rename_i hk e;split at h
   ·rename_i hok;obtain⟨⟨l,u⟩,h1,h2⟩:=La.1 h;cases h2;have hx:=(Dk e hρ).v.1;obtain⟨_,b1,b2⟩:=TG (P:=P) true hρ h1 (Lc 0) c.w;refine V7 hr ht hop hk hok hρ hx (Lc 0) h1 ?_;have e1:u=0:=(by omega);have e2:l=0:=(by omega);subst e1;subst e2;exact RA.v _ rfl
   cases h
  cases h
 case h_17 x i=>
  split at h
  ·rename_i vs e;obtain⟨v',h1,h2⟩:=La.1 h;cases h2;obtain⟨us,hu,_,h3⟩:=(Dk e hρ);obtain⟨y,h4,h5⟩:=h3 i v h1;exact d9 hr hop hu h4 h5.toAt
  ·rename_i ds b e;obtain⟨d,h1,h2⟩:=La.1 h;cases h2;obtain⟨us,hu,_,h3⟩:=(Dk e hρ);obtain⟨y,h4,h5⟩:=h3 i d h1;refine d9 hr hop hu h4 ?_;unfold DJ at h5;split at h5
   ·exact h5
   exact(RC.toRA h5).toAt
  cases h
 case h_18 f first caps=>
  split at h
  ·rename_i h0;cases h;exact oE hr hop h0.1 fun j x hj=>fH (LL.1 h0.2 _ (LH (by
    have:=Oe hj;simpa using this))) (hρ x)
  cases h
 case h_19 T n ps=>
  split at h
  ·rename_i hc;obtain⟨h1,h2,h3,h4,h5⟩:=hc;split at h
   ·rename_i ds b is hd;split at h
    ·rename_i hck;cases h;exact oH hr ht hop h1 h2 h3 h4 h5 hρ hd hck hid
    cases h
   cases h
  cases h
 case h_20 args argTypes=>
  split at h;rotate_left
  ·cases h
  rename_i x T e1 e2;have ea:=Rg e1;have et:=Rg e2;subst ea;subst et;split at h
  ·rename_i es b hk e;cases h;obtain⟨A,cx,hu,_⟩:=fG (Dk e hρ).dsl;exact V8 hr hop fun ty=>by rw[hu];simp[Builtin.len_,run_underlying (ht.slice hk)]
  ·rename_i j ver off n hk e;cases h;generalize hU:a.eval x=uu;have hx:RA g c (.so j ver off n) uu:=(by rw[<-hU];have:=hρ x;rw[e] at this;exact this);cases hx with
   |so _ _ _ _ _ _ hp _=>
    obtain⟨A,m,rfl⟩:=hp;exact V8 hr hop fun ty=>by rw[hU];simp[Builtin.len_,run_underlying (ht.slice hk)]
  ·rename_i hk e;cases h
   have:=(Dk e hρ).v.1;exact V8 hr hop (n:=0) fun ty=>by rw[this];simp[Builtin.len_,run_underlying (ht.slice hk)]
  ·rename_i s hk e;cases h
   have:=(Dk e hρ).v.1;exact V8 hr hop fun ty=>by rw[this];simp[Builtin.len_,run_underlying (ht.string hk)]
  cases h
 case h_21 args argTypes=>
  split at h;rotate_left
  ·cases h
  rename_i x y T T' e1 e2;have ea:=Yn e1;have et:=Yn e2;subst ea;subst et;split at h;rotate_left
  ·exact oa hr ht hop (hρ x) (hρ y) hid h
  rename_i hc;obtain⟨hT,hk,hok,hsz⟩:=hc;subst hT;split at h
  ·rename_i ys b is e3 e4;split at h
   ·rename_i hc2;obtain⟨hck,hby,hle⟩:=hc2;have hx:=(Dk e4 hρ).v.1;have hb:ys.length*(tab (tab T).elem).bytes<=4294967296*32768:=BL hle hby;exact append_nil hr ht hop hk hok hsz hx (eO hr (hρ y) e3 hck) hck (by omega) (by simp only[maxLen];omega) hid h
   cases h
  ·rename_i ys b is j v' off n e3 e4;split at h
   ·rename_i es sz ver br hi;split at h
    ·rename_i hc2;obtain⟨h1,h2,h3,h4,hck,hby,hle⟩:=hc2;cases h;subst h1;subst h2;subst h4;have hb:(n+ys.length)*(tab (tab T).elem).bytes<=4294967296*32768:=BL hle hby;exact oJ hr ht hop hk hok hsz hi (Dk e4 hρ) h3 (eO hr (hρ y) e3 hck) hck (by omega) (by simp only[maxLen];omega)
    cases h
   cases h
  cases h
 case h_22 T=>
  split at h
  ·cases h;exact oT hr hop hid
  cases h
 case h_23 T x k ok=>
  split at h;rotate_left
  ·cases h
  rename_i q kv z hq hkv hz;split at h;rotate_left
  ·cases h
  rename_i hw;split at h
  ·rename_i i e;split at h
   ·rename_i es dl hi;have hm:=Dk e hρ;split at h
    ·rename_i hf;cases h;exact ec hr ht hop hq hkv (hρ k) hz hw hm hi hf rfl
    ·rename_i j v' hf;cases h;exact ec hr ht hop hq hkv (hρ k) hz hw hm hi hf rfl
    cases h
   cases h
  ·rename_i es b e;have hm:=Dk e hρ;split at h
   ·rename_i hf;cases h;exact ej hr ht hop hq hkv (hρ k) hz hw hm hf rfl
   ·rename_i j v' hf;cases h;exact ej hr ht hop hq hkv (hρ k) hz hw hm hf rfl
   cases h
  ·rename_i e;cases h;exact oW hr ht hop hq hkv (hρ k) hz hw (Dk e hρ) rfl
  cases h
 case h_24 T m k x=>
  split at h
  ·rename_i q kv hq hkv;split at h
   ·rename_i hw;split at h
    ·rename_i i e;split at h
     ·rename_i es dl hi;obtain⟨es',h1,h2⟩:=La.1 h;cases h2;exact fB hr ht (.inl hop) hq hkv (hρ k) hw.1 (hρ x) hw.2 (Dk e hρ) hi h1
     cases h
    cases h
   cases h
  cases h
 case h_25 T m k x=>
  split at h
  ·rename_i q kv hq hkv;split at h
   ·rename_i hw;split at h
    ·rename_i i e;split at h
     ·rename_i es dl hi;obtain⟨es',h1,h2⟩:=La.1 h;cases h2;exact fB hr ht (.inr hop) hq hkv (hρ k) hw.1 (hρ x) hw.2 (Dk e hρ) hi h1
     cases h
    cases h
   cases h
  cases h
 case h_26 T m k=>
  split at h
  ·rename_i q kv z hq hkv hz;split at h
   ·rename_i hw;split at h
    ·rename_i i e;split at h
     ·rename_i es hi;have hm:=Dk e hρ;split at h
      ·rename_i hf;cases h;exact fC hr ht hop hq hkv (hρ k) hz hw hm hi hf rfl
      ·rename_i j v' hf;cases h;exact fC hr ht hop hq hkv (hρ k) hz hw hm hi hf rfl
      cases h
     cases h
    cases h
   cases h
  cases h
 case h_27 T m st x=>
  split at h
  ·rename_i i j e e2;split at h
   ·rename_i hx;split at h
    ·rename_i es hi;split at h
     ·rename_i k v0 hj;cases h;exact oX hr hop (hρ x) hx e2 (hρ st) (Dk e hρ) hi hj
     cases h
    cases h
   cases h
  cases h
 case h_28=>cases h
 case h_29 T l k=>
  split at h
  ·rename_i hc;obtain⟨hk,hok,hsz,hby⟩:=hc;split at h
   ·rename_i n m e1 e2;split at h
    ·rename_i hc2;cases h;exact oY hr ht hop hk hok hsz hby e1 e2 (hρ l) (hρ k) hc2.1 hc2.2 hid
    cases h
   cases h
  cases h
 case h_30 args ty=>
  split at h
  ·rename_i x y e1;have ea:=Yn e1;subst ea;split at h
   ·rename_i k p k' q e2 e3;cases h;exact Pl hr hop (k':=k') (Dk e2 hρ) (Dk e3 hρ)
   cases h
  cases h
 case h_31=>cases h
 case h_32 args argTypes=>
  split at h;rotate_left
  ·cases h
  rename_i x T e1 e2;have ea:=Rg e1;have et:=Rg e2;subst ea;subst et;split at h;rotate_left
  ·cases h
  rename_i hc;obtain⟨hk,hok,hsz⟩:=hc;split at h
  ·rename_i e;cases h;exact fF hr ht hop hk (Dk e hρ).v.1
  ·rename_i i ver off n e;split at h
   ·rename_i es sz v' br hi;split at h
    ·rename_i hc2;obtain⟨rfl,hs,hle⟩:=hc2;have hx:=Dk e hρ;split at h
     ·rename_i h0;cases h;subst h0;obtain⟨_,_,cur,T',C,h3,h4,e1⟩:=Am.so hx hi;exact fF hr ht hop hk e1
     rename_i h0;cases h;exact og hr ht hop hk hok hsz hx hi hs (by omega) hle
    cases h
   cases h
  cases h
 case h_33 args argTypes=>
  split at h
  ·rename_i x T e1 e2;have ea:=Rg e1;have et:=Rg e2;subst ea;subst et;split at h
   ·rename_i hk e;cases h;have hx:=(Dk e hρ).v.1;refine CI.pure hr (u:=.int .i64 0) ?_ (RA.v _ rfl);unfold execOp;simp[hop,resolve,invoke,builtin,hx,Builtin.cap_,run_underlying (ht.slice hk),goInt]
   cases h
  cases h
 case h_34=>cases h
end
end
end Go.Proofs.YtnmkbmefohakmaaGreat.Ab
