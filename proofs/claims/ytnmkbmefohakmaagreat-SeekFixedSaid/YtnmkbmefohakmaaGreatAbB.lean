/-
 Each operation of the machine is the true one.
-/
import Derived.Laws.BytesString
import Derived.MapKept
import Derived.Lib.AppendZeros
import Derived.Laws.MakeOwn
import Derived.Test.YtnmkbmefohakmaaGreatAbA
set_option linter.all false
namespace Go.Proofs.YtnmkbmefohakmaaGreat.Ab
variable {A:Option Addr}{T' s t:TypeId}{ad:Addr}{ao:AO}{br dl:Bool}{cap f h i j k l n off sz ver:Nat}{cs xs:List AV}{ds:List D}{en:Array MapEntry}{es:List (Value × AV)}{hi lo:Option Operand}{hp:Hp}{kv u:Value}{m x y:Operand}{q:Bool × List TK}{r:Option (Nat × AV)}{vk vx vy z:AV}{vs:Array Value}{w':World}{ys:List (List D)}{α:Type}{δ:List (Nat × AO)}
section
theorem D1 {g:Gh}{c:Cf}{ρ:Operand->AV}{a:Act}{v:AV}(e:ρ x=v)(h:∀x,Au g c (ρ x) (a.eval x)):Au g c v (a.eval x):=e▸h x
theorem X0 (h:u.oneCell'=true):u.cells= #[u]:=by
 cases u<;>first |rfl |(simp[Value.oneCell'] at h)
theorem JX (i:Nat)(xs ys:List α)(h:i+xs.length<=ys.length):(DD i xs ys).length=ys.length:=by
 simp[DD];omega
theorem JY (i:Nat)(xs ys:List α)(h:i+xs.length<=ys.length)(j:Nat):(DD i xs ys)[j]? =if j<i then ys[j]? else if j<i+xs.length then xs[j-i]? else ys[j]? :=by
 have e:(ys.take i).length=i:=by rw[LC];omega
 unfold DD;rw[Lq];by_cases b:j<i
 ·rw[if_pos b,NP (by omega),Nq,if_pos b]
 rw[if_neg b,Nm (by omega),e];by_cases d:j<i+xs.length
 ·rw[if_pos d,NP (by omega)]
 rw[if_neg d,Nm (by omega),NV];congr 1;omega
section
variable {P:Program}{tab:Nat->TI}{o:Oper}{a:Act}{g:Gh}{c:Cf}{id:Nat}
theorem U5 {x:AV}(e:Dv x=some cs)(h:Au g c x u):u.cells.size=cs.length/\∀(j:Nat) (y:AV),cs[j]? =some y->∃z,u.cells[j]? =some z/\RA g c y z:=by
 have B:∀ {x:AV} {u:Value},RA g c x u->u.cells.size= [x].length/\∀(j:Nat) (y:AV),[x][j]? =some y->∃z,u.cells[j]? =some z/\RA g c y z:=by
  intro x u h;rw[X0 h.one];refine⟨rfl,fun j y p=> ?_⟩;cases j with |zero=>simp at p;subst p;exact⟨u,rfl,h⟩ |succ j=>simp at p
 cases x with
 |ag xs=>
  simp only[Dv,Lf] at e;subst e;obtain⟨vs,rfl,v,w⟩:=h;exact⟨v,w⟩
 |tu xs=>simp[Dv] at e
 |un=>simp[Dv] at e
 |d x b=>cases x with
  |ag xs=>
   simp only[Dv,Lf] at e;subst e;obtain⟨vs,rfl,v,w⟩:=h;refine⟨by rw[LE];exact v,fun j y p=> ?_⟩;rw[Lp,La] at p;obtain⟨d,C,rfl⟩:=p;have⟨z,E,F⟩:=w j d C;exact⟨z,E,F.toRA⟩
  |tu xs=>simp[Dv] at e
  |_=>simp only[Dv,Lf] at e;subst e;exact B h
 |_=>simp only[Dv,Lf] at e;subst e;exact B h
theorem He.val {w:World}(h:(execOp a.eval o).run P w= .ok (.value u) w'):He P o a w u w':=.inl h
theorem He.skip {w:World}(h:(execOp a.eval o).run P w= .ok .skip w'):He P o a w undef w':=.inr ⟨h,rfl⟩
theorem X3 (p:HR g c){ob:Obj}{v:AV}(w:¬c.kn id)(h:(execOp a.eval o).run P c.w= .ok (.value u) (c.w.alloc ob))
  (C:∀d,CP c d->d.φ id=c.w.heap.size->d.w=c.w.alloc ob->OK g d id ao)
  (E:∀d,CP c d->d.φ id=c.w.heap.size->d.w=c.w.alloc ob->d.hp id=some ao->d.kn id->Au g d v u):CU P o a g c id v [(id,ao)]:=by
 have B:∀k,k<c.w.heap.size->(c.w.alloc ob).heap[k]? =c.w.heap[k]? :=fun k F=>(heap_alloc_old c.w ob F);have e:=CP.new (ao:=ao) (kn:=fun k=>c.kn k\/k=id) p w (w':=c.w.alloc ob) (b:=c.w.heap.size) rfl rfl rfl (by simp) B (Lc _) (fun _ h=>.inl h);refine⟨upd id c.w.heap.size c.φ,u,c.w.alloc ob,.val h,e,HR.new p e w (Lc _) (by simp) (.inr rfl) B (C _ e (Ap _ _ _) rfl),E _ e (Ap _ _ _) rfl (Ap _ _ _) (.inr rfl)⟩
theorem ij {T:Nat}(d:vs.size=cs.length)(h:∀(j:Nat) (y:AV),cs[j]? =some y->∃z,vs[j]? =some z/\RA g c y z):
  ∀b,CP c b->b.φ id=c.w.heap.size->b.w=c.w.alloc (.cells vs T)->OK g b id (.bx cs):=by
 intro b e p v;refine⟨T,vs,?_,d,fun j y w=> ?_⟩
 ·rw[p,v];exact heap_alloc_new _ _
 have⟨z,B,C⟩:=h j y w;exact⟨z,B,C.ext e⟩
theorem il:∀b,CP c b->b.φ id=c.w.heap.size->b.w=w'->b.hp id=some (.bx cs)->b.kn id->Au g b (.pt id 0) (.pointer (some ⟨c.w.heap.size,0,none⟩)):=by
 intro b _ e _ p v;rw[<-e];exact RA.pt id 0 v fun o d=>by rw[p] at d;cases d;rfl
theorem rX (e:HR g c)(p:Ad P tab){T:Nat}(v:o.op= .alloc T)(w:(tab T).ok=true)(B:¬c.kn id):CU P o a g c id (.pt id 0) [(id,.bx ((tab T).zero.map AV.v))]:=by
 have⟨i,z,C,I,J,E,F,K,G⟩:=p.info T w;have H:(execOp a.eval o).run P c.w= .ok (.value (.pointer (some ⟨c.w.heap.size,0,none⟩))) (c.w.alloc (.cells (tab T).zero.toArray T)):=by
  unfold execOp;simp[v,Instr.alloc,zeroValue,typeInfo,C,E,newVar,newRow,F]
 refine X3 e B H (ij (by simp) fun j y b=> ?_) il;rw[Lp,La] at b;obtain⟨x,d,rfl⟩:=b;exact⟨x,by simpa using d,RA.v x (G.1 x (Lz d))⟩
theorem Q6 (b:HR g c){T:Nat}(d:o.op= .box T x){y:AV}(e:Au g c y (a.eval x))(p:Dv y=some cs)(v:¬c.kn id):CU P o a g c id (.pt id 0) [(id,.bx cs)]:=by
 have⟨w,B⟩:=U5 p e;have C:(execOp a.eval o).run P c.w= .ok (.value (.pointer (some ⟨c.w.heap.size,0,none⟩))) (c.w.alloc (.cells (a.eval x).cells T)):=by
  unfold execOp;simp[d,Instr.box,newVar,newRow]
 exact X3 b v C (ij w B) il
theorem io (p:Ad P tab){T:Nat}(B:(tab T).ok=true)(w:World)(b off:Nat)(t:TypeId)(d:Array Value)(u:Value)(C:w.heap[b]? =some (.cells d t (0,0)))(E:u.cells.size=(tab T).size)(F:off+u.cells.size<=d.size)
  (G:∀v∈u.cells.toList,v.oneCell'=true):(storeVar T ⟨b,off,none⟩ u).run P w= .ok () (w.setRow b (DD off u.cells.toList d.toList).toArray):=by
 have e:=run_storeCells_at P b off t u.cells.toList 0 d w C (by simpa using F) G;simp only[NW] at e;simp[storeVar,p.sizeOf B,E,e,DD]
theorem ip (B:HR g c){b:AO}{C cur':Array Value}{T:TypeId}(hi:c.hp i=some ao)(M:ao.fz=false)(I:c.w.heap[c.φ i]? =some (.cells C T (0,0)))(N:cur'.size=C.size)
  (h:(execOp a.eval o).run P c.w= .ok .skip (c.w.setRow (c.φ i) cur')) (O:ao.isRw=false->b.isRw=false)
  (Q:∀p sz d E F,b= .rw p sz d E F->∃es v br G,ao= .rw es sz v br G/\v<=d/\(v=d->es.length=p.length))
  (R:∀w,CP c w->w.φ i=c.φ i->w.w.heap[c.φ i]? =some (.cells cur' T (0,0))->OK g w i b):CU P o a g c id .un [(i,b)]:=by
 have J:(c.w.setRow (c.φ i) cur').heap[c.φ i]? =some (.cells cur' T (0,0)):=setRow_heap c.w (c.φ i) C _ T _ I;have K:∀k,k<c.w.heap.size->k≠c.φ i->(c.w.setRow (c.φ i) cur').heap[k]? =c.w.heap[k]? :=fun k _ S=>setRow_other c.w (c.φ i) k _ S;have H:CP c ⟨upd i (some b) c.hp,upd i (c.φ i) c.φ,c.w.setRow (c.φ i) cur',fun k=>c.kn k\/k=id⟩:=by
  refine CP.chg B hi M rfl rfl rfl (by simp) K (.inl rfl) (fun _ h=>.inl h) (fun h=>⟨rfl,O h⟩) fun p sz d E F e=> ?_;have⟨es,v,br,G,U,V,X⟩:=Q p sz d E F e;refine⟨es,v,br,G,U,V,fun e=>⟨rfl,X e,fun Y T0 L=> ?_⟩⟩;rw[I] at L;cases L;exact⟨cur',J,N⟩
 refine⟨_,undef,_,.skip h,H,HR.chg B hi H K (.inl rfl) (by simpa using(B.dom i _ hi).2.2) (R _ H (Ap _ _ _) J),trivial⟩
theorem rY (E:HR g c)(K:Ad P tab){T:Nat}(L:o.op= .store T x y)(M:(tab T).ok=true)(N:Au g c (.pt i off) (a.eval x))(hi:c.hp i=some (.bx cs))
  (O:Au g c vy (a.eval y)) (Q:Dv vy=some xs) (hn:xs.length=(tab T).size) (F:off+xs.length<=cs.length):CU P o a g c id .un [(i,.bx (DD off xs cs))]:=by
 have⟨e,_,_⟩:=N.pt;have⟨T',vs,G,R,H⟩:=E.obj i _ hi;have⟨S,I⟩:=U5 Q O;have U:∀v∈(a.eval y).cells.toList,v.oneCell'=true:=fun v V=>by
  have⟨j,w⟩:=N3.1 V;have X:=(Lb.1 w).1;simp only[NR] at X;have⟨z,Y,Z⟩:=I j _ (Le (show j<xs.length by omega));rw[NT,Y] at w;cases w;exact Z.one
 have aa:=io K M c.w (c.φ i) off T' vs (a.eval y) G (by omega) (by omega) U;have ab:(execOp a.eval o).run P c.w= .ok .skip (c.w.setRow (c.φ i) (DD off (a.eval y).cells.toList vs.toList).toArray):=by
  unfold execOp;simp only[L,e,Instr.storeAt,Instr.sureAddr,Sem.run_bind,Sem.run_pure,Result.andThen_ok,aa]
 have B:off+(a.eval y).cells.toList.length<=vs.toList.length:=by simp;omega
 refine ip E hi rfl G (by rw[Ng,JX _ _ _ B];simp) ab (fun _=>rfl) (fun _ _ _ _ _ e=>by cases e) fun c' C ag hw=>⟨T',_,by rw[ag];exact hw,?_,fun j z b=> ?_⟩
 ·rw[Ng,JX _ _ _ B,JX _ _ _ F];simpa using R
 rw[Nx,JY _ _ _ B];rw[JY _ _ _ F] at b;simp only[NR,S];by_cases J:j<off
 ·rw[if_pos J] at b⊢;have⟨u,d,p⟩:=H j z b;exact⟨u,by simpa using d,p.ext C⟩
 rw[if_neg J] at b⊢;by_cases d:j<off+xs.length
 ·rw[if_pos d] at b⊢;have⟨u,p,e4⟩:=I _ _ b;exact⟨u,by simpa using p,e4.ext C⟩
 rw[if_neg d] at b⊢;have⟨u,d,p⟩:=H j z b;exact⟨u,by simpa using d,p.ext C⟩
theorem U6 {x:AV}{d:D}{b:Bool}{is:List Nat}(O:HR g c)(Q:c.hp=hp)(h:RA g c x u)(e:Ce hp x=some (d,b,is))(I:Nat->Prop)(G:∀k,Im g c b k->I k)
  (R:∀i∈is,I (c.φ i)):RC c.w I d u:=by
 unfold Ce at e;split at e
 ·cases e;cases h with |v _ h=>exact .nl none 0
 ·cases e;cases h with |v _ h=>exact .v _ h
 ·cases e
 ·cases e
 ·cases e;cases h with
  |d _ _ _ h=>exact h.mono (fun _ _=>rfl) G
 ·rename_i i ver off n;split at e;rotate_left
  ·cases e
  rename_i es sz v br fz hi;split at e;rotate_left
  ·cases e
  rename_i S;cases e;subst S;rw[<-Q] at hi;obtain⟨h1,_,p,T,C,H,U,rfl⟩:=Au.so (show Au g c (.so i _ off n) u from h) hi;have⟨V,X,T',vs,J,K,Y,h6,h7,L⟩:=O.obj i _ hi;rw[H] at K;cases K;have ab:off+C=J:=by
   have:(off+C)*sz=J*sz:=U.symm.trans Y;exact BW V this
  have Z:((es.drop off).take n).length=n:=by rw[LC,Nv];omega
  have M:RC c.w I (.sl ((es.drop off).take n)) (.slice (some ⟨c.φ i,off*sz,none⟩) ((es.drop off).take n).length C):=by
   refine RC.sl _ _ _ _ sz (fun k j=>p.getD ((off+k)*sz+j) undef) (R i (by simp)) (by omega) (fun k cs B=> ?_) (fun k j cs d B E=> ?_) (fun k j cs d B E=> ?_)
   ·exact X _ _ (ME _ _ _ _ _ B).2
   ·have⟨u,w,N⟩:=L (off+k) j cs d (ME _ _ _ _ _ B).2 E;have F:(off+k)*sz+j<p.size:=by
     rcases LY ((off+k)*sz+j) p.size with h |h
     ·exact h
     rw[Bc h] at w;cases w
    simp[World.cell?,H,Array.getD,F,<-Nj]
   have⟨u,w,N⟩:=L (off+k) j cs d (ME _ _ _ _ _ B).2 E;have F:(off+k)*sz+j<p.size:=by
    rcases LY ((off+k)*sz+j) p.size with h |h
    ·exact h
    rw[Bc h] at w;cases w
   have aa:p.getD ((off+k)*sz+j) undef=u:=(by simp[Array.getD,F] at w⊢;exact w);show RC c.w I d (p.getD ((off+k)*sz+j) undef);rw[aa];exact N.mono (fun _ _=>rfl) G
  rw[Z] at M;exact M
 cases e
end
end
section
section
variable {P:Program}{tab:Nat->TI}{o:Oper}{a:Act}{g:Gh}{c:Cf}{id:Nat}{ρ:Operand->AV}
theorem iq (d:HR g c)(b:o.op= .move x\/o.op= .assign x){v:AV}(e:Au g c v (a.eval x)):CU P o a g c id v []:=by
 refine CU.pure d (u:=a.eval x) ?_ e;rcases b with b |b<;>simp[execOp,b]
theorem rZ (b:HR g c){z:Operand}(d:o.op= .pick x y z){t:Bool}(e:Au g c (.v (.bool t)) (a.eval x)){v:AV}(p:Au g c v (if t then a.eval y else a.eval z)):CU P o a g c id v []:=by
 refine CU.pure b (u:=if t then a.eval y else a.eval z) ?_ p;unfold execOp
 have:=e.v.1;simp only[d,this,asBool,Sem.run_bind,Sem.run_pure,Result.andThen_ok]
theorem ir (d:HR g c){b:UnOp}{T:TypeId}(e:o.op= .unOp b T x)(p:(Op.unary b (a.eval x)).run P c.w= .ok u c.w){v:AV}(w:Au g c v u):CU P o a g c id v []:=by
 refine CU.pure d (u:=u) ?_ w;unfold execOp;simp only[e,Sem.run_bind,p,Result.andThen_ok,Sem.run_pure]
theorem rd (w:World){b:BinOp}(e:b≠ .shl/\b≠ .shr){k:IntKind}{x y:Int}{T:TypeId}(h:KL b k x y=some u):(binOp b T (.int k x) (.int k y)).run P w= .ok u w/\u.oneCell'=true:=by
 cases b<;>simp only[KL,Lf] at h
 case shl=>simp at e
 case shr=>simp at e
 case quo=>
  split at h
  ·cases h
  cases h;rename_i d;simp[binOp,Op.intDiv,d,Value.oneCell']
 case rem=>
  split at h
  ·cases h
  cases h;rename_i d;simp[binOp,Op.intDiv,d,Value.oneCell']
 all_goals (subst h;simp[binOp,Op.intArith,Op.intBits,Op.intCmp,Value.oneCell'])
theorem rf (w:World){b:BinOp}{x y:ByteArray}{T:TypeId}(h:Ml b x y=some u):(binOp b T (.string x) (.string y)).run P w= .ok u w/\u.oneCell'=true:=by
 cases b<;>simp only[Ml,Lf] at h
 case add=>
  split at h
  ·cases h;rename_i d
   have:¬(((x.size+y.size:Nat):Int) > IntKind.i64.max):=by
    simp only[maxLen] at d;simp[IntKind.max,IntKind.bits,IntKind.signed];omega
   simp only[binOp,Op.stringOp,if_neg this];simp[Value.oneCell']
  cases h
 all_goals first |(subst h;simp[binOp,Op.stringOp,Value.oneCell']) |cases h
theorem rg (w:World){d:BinOp}{x y:Value}{T:TypeId}(h:Ge d x y=some u):(binOp d T x y).run P w= .ok u w/\u.oneCell'=true:=by
 unfold Ge at h;split at h
 ·rename_i k m B n;split at h
  ·split at h
   ·cases h
   cases h;rename_i b;simp[binOp,Op.shift,b,Value.oneCell']
  ·split at h
   ·cases h
   cases h;rename_i b;simp[binOp,Op.shift,b,Value.oneCell']
  rename_i e p;split at h
  ·rename_i v;subst v;exact rd w ⟨e,p⟩ h
  cases h
 ·exact rf w h
 cases h
theorem rh (w:World){d:BinOp}{T:TypeId}{v:Value}(b:¬(u= .nilIface/\v= .nilIface))(h:∀cs ds,¬(u= .agg cs/\v= .agg ds)):(eqGuard d T x y u v).run P w= .ok () w:=by
 unfold eqGuard;split
 ·simp only[BI,Nr,if_false];split
  ·exact absurd ⟨rfl,rfl⟩ b
  ·exact absurd ⟨rfl,rfl⟩ (h _ _)
  rfl
 ·simp only[BI,Nr,if_false];split
  ·exact absurd ⟨rfl,rfl⟩ b
  ·exact absurd ⟨rfl,rfl⟩ (h _ _)
  rfl
 simp only[Oy,if_true];rfl
theorem Mo (d:HR g c){b:BinOp}{T:TypeId}(e:o.op= .binOp b T x y T')(p:∀cs ds,¬(a.eval x= .agg cs/\a.eval y= .agg ds))(w:¬(a.eval x= .nilIface/\a.eval y= .nilIface))(B:(binOp b T (a.eval x) (a.eval y)).run P c.w= .ok u c.w){v:AV}(C:Au g c v u):CU P o a g c id v []:=by
 refine CU.pure d (u:=u) ?_ C;unfold execOp;simp only[e,Sem.run_bind,rh (P:=P) c.w w p,B,Result.andThen_ok,Sem.run_pure]
theorem ri (h:u.oneCell'=true)(cs:Array Value):u≠ .agg cs:=by
 rintro rfl;simp[Value.oneCell'] at h
theorem rj (v:HR g c)(b:Ad P tab)(w:o.op= .convert s t x)(B:(tab s).ok=true){k k':IntKind}{n:Int}(e:(tab t).kind= .int k)(C:Au g c (.v (.int k' n)) (a.eval x)):CU P o a g c id (.v (.int k (k.wrap n))) []:=by
 have⟨d,E,G⟩:=b.kind s B;have⟨H,F,p⟩:=b.kind t (b.okOf (by rw[e];simp));rw[e] at p;subst p;refine CU.pure v (u:=.int k (k.wrap n)) ?_ (RA.v _ rfl);unfold execOp;simp[w,C.v.1,convert,run_underlying E,run_underlying F,Conv.intToInt]
theorem rm (e:HR g c)(b:Ad P tab)(p:o.op= .convert s t x)(v:(tab s).ok=true){n:ByteArray}(w:(tab t).kind= .string)(B:Au g c (.v (.string n)) (a.eval x)):CU P o a g c id (.v (.string n)) []:=by
 have⟨d,C,E⟩:=b.kind s v;refine CU.pure e (u:=.string n) ?_ (RA.v _ rfl);unfold execOp;simp[p,B.v.1,convert,run_underlying C,run_underlying (b.string w)]
theorem iu:∀ {es:List (List D)} {b:List UInt8},TF es=some b->∃d:List Int,es=d.map (fun n=>[D.v (.int .u8 n)])/\b=d.map fun n=>UInt8.ofNat n.toNat
 |[],b,h=>by
  simp only[TF,Lf] at h;exact⟨[],rfl,h.symm⟩
 |e::r,b,h=>by
  unfold TF at h;split at h
  ·cases‹_::_= []›
  ·rename_i n w p;cases p;obtain⟨l,v,rfl⟩:=La.1 h;obtain⟨d,rfl,rfl⟩:=iu v;exact⟨n::d,rfl,rfl⟩
  cases h
theorem rp (b:List Int)(s:ByteArray):b.foldl (fun r n=>r.push (UInt8.ofNat n.toNat)) s=⟨s.data++(b.map fun n=>UInt8.ofNat n.toNat).toArray⟩:=by
 induction b generalizing s with
 |nil=>simp
 |cons n b d=>
  rw[Bs,d];simp[ByteArray.push]
theorem rq (B:HR g c)(w:Ad P tab)(L:o.op= .convert s t x)(M:(tab t).kind= .string)(N:(tab s).kind= .slice)(E:(tab (tab s).elem).kind= .int .u8){b v:Nat}{es:List (List D)}{O:Bool}(hi:c.hp i=some (.rw es 1 v br O))(Q:v=ver){F:List UInt8}(R:TF ((es.drop off).take b)=some F)(S:Au g c (.so i ver off b) (a.eval x)):CU P o a g c id (.v (.string ⟨F.toArray⟩)) []:=by
 subst Q;have⟨d,U,G⟩:=w.kind (tab s).elem (w.okOf (by rw[E];simp));rw[E] at G;subst G;obtain⟨e,H,rfl⟩:=iu R;refine CU.pure B (u:=.string ⟨(e.map fun n:Int=>UInt8.ofNat n.toNat).toArray⟩) ?_ (RA.v _ rfl);have⟨ag,_,ak,T,C,I,h4,V⟩:=Au.so S hi;have⟨_,hw,T',vs,C',J,e2,e3,e4,X⟩:=B.obj i _ hi;rw[I] at J;cases J;have Y:e.length=b:=by
  have:=congrArg List.length H;simp only[LC,Nv,LE] at this;omega
 have Z:(loadCells ⟨c.φ i,off*1,none⟩ b).run P c.w= .ok (e.map (Value.int .u8)).toArray c.w:=by
  have:=run_loadCells_list (P:=P) c.w ⟨c.φ i,off*1,none⟩ (e.map (Value.int .u8)) (fun j u p=>by
   rw[Lp,La] at p;obtain⟨n,p,rfl⟩:=p;have ap:=(Lb.1 p).1;have K:((es.drop off).take b)[j]? =some [D.v (.int .u8 n)]:=(by rw[H,Lp,p];rfl);rw[Nq,ifp,NV] at K;have⟨u,aa,ab⟩:=X (off+j) 0 _ _ K rfl;cases ab;rw[IQ];simp only[World.cell?,I];simpa using aa)
  rw[LE,Y] at this;exact this
 unfold execOp;simp only[L,V,Sem.run_bind,run_convert_bytes_string c.w s t _ _ _ _ (w.slice N) U (w.string M),run_bytesToString c.w _ b C e Z,Result.andThen_ok,Sem.run_pure];rw[rp];simp
theorem rt (e:Ad P tab){T:TypeId}(p:(tab T).kind= .struct)(v:(tab T).offs[f]? =some (off,n))(L:n≠0)(bl o:Nat)(w:World):
  (Instr.fieldAt T (.pointer (some ⟨bl,o,none⟩)) f).run P w= .ok (.pointer (some ⟨bl,o+off,none⟩)) w:=by
 have⟨d,E,B⟩:=e.kind T (e.okOf (by rw[p];decide));rw[p] at B;obtain⟨F,rfl,M,G⟩:=B;have C:f<F.size:=by
  have:=(Lb.1 v).1;omega
 have⟨H,I,b⟩:=G f _ (LD C);rw[v] at b;simp only[Lf,LB] at b;have⟨J,N⟩:=b;have K:¬H.size=0:=by omega
 simp[Instr.fieldAt,run_underlying E,LD C,Instr.sureAddr,fieldPlace,sizeOf,typeInfo,I,K,IQ,J]
theorem iv (b:HR g c)(d:Ad P tab){T:TypeId}(e:o.op= .fieldAddr T x f)(w:(tab T).kind= .struct)(B:(tab T).offs[f]? =some (off,n))(C:n≠0){bl p:Nat}(E:a.eval x= .pointer (some ⟨bl,p,none⟩)){v:AV}
  (F:Au g c v (.pointer (some ⟨bl,p+off,none⟩))):CU P o a g c id v []:=by
 refine CU.pure b ?_ F;unfold execOp;simp only[e,E,rt d w B C,Sem.run_bind,Result.andThen_ok,Sem.run_pure]
theorem ru (E:HR g c)(e:Ad P tab){T:TypeId}(F:o.op= .fieldAddr T x f)(p:(tab T).kind= .struct)(w:(tab T).offs[f]? =some (off,n))(Q:n≠0)(G:a.eval x= .pointer (some ad)){v:AV}
  (H:Au g c v (.pointer (some (ad.add off)))):CU P o a g c id v []:=by
 have⟨d,I,B⟩:=e.kind T (e.okOf (by rw[p];decide));rw[p] at B;obtain⟨J,rfl,R,K⟩:=B;have C:f<J.size:=by
  have:=(Lb.1 w).1;omega
 have⟨L,M,b⟩:=K f _ (LD C);rw[w] at b;simp only[Lf,LB] at b;have⟨N,S⟩:=b;have O:¬L.size=0:=by omega
 refine CU.pure E ?_ H;unfold execOp;simp[F,G,Instr.fieldAt,run_underlying I,LD C,Instr.sureAddr,fieldPlace,sizeOf,typeInfo,M,O,N]
theorem J9 {x:AV}(h:EI x=some n)(d:Au g c x u):∃k,u= .int k (n:Int):=by
 unfold EI Xy at h;split at h
 ·rename_i m b;split at b
  ·rename_i k p;cases b;split at h
   ·rename_i e;cases h;exact⟨k,by rw[d.v.1,Int.toNat_of_nonneg e]⟩
   cases h
  cases b
 cases h
theorem rv (b:Ad P tab){T:TypeId}(e:(tab T).kind= .slice)(v:(tab (tab T).elem).ok=true)(bl p d cap n:Nat)(k:IntKind)(B:n<d)(w:World):
  (Instr.indexAt T (.slice (some ⟨bl,p,none⟩) d cap) (.int k n)).run P w= .ok (.pointer (some ⟨bl,p+n*(tab (tab T).elem).size,none⟩)) w:=by
 simp[Instr.indexAt,run_underlying (b.slice e),asIntOf,B,b.sizeOf v,IQ]
theorem iw (d:HR g c)(e:Ad P tab){T:TypeId}{i:Operand}(w:o.op= .indexAddr T x i)(B:(tab T).kind= .slice)(C:(tab (tab T).elem).ok=true){bl p b:Nat}{k:IntKind}(E:a.eval x= .slice (some ⟨bl,p,none⟩) b cap)(hi:a.eval i= .int k n)(F:n<b){v:AV}
  (G:Au g c v (.pointer (some ⟨bl,p+n*(tab (tab T).elem).size,none⟩))):CU P o a g c id v []:=by
 refine CU.pure d ?_ G;unfold execOp;simp only[w,E,hi,rv e B C bl p b cap n k F,Sem.run_bind,Result.andThen_ok,Sem.run_pure]
theorem rz (b:Ad P tab){T:TypeId}{p:Nat}(v:(tab T).kind= .array p)(k:IntKind)(C:n<p)(w:World):
  (Instr.indexAt T (.pointer (some ad)) (.int k n)).run P w= .ok (.pointer (some (ad.add (n*(tab (tab T).elem).size)))) w:=by
 have⟨d,E,B⟩:=b.kind T (b.okOf (by rw[v];intro e;cases e));rw[v] at B;obtain⟨rfl,F,_⟩:=B;simp[Instr.indexAt,run_underlying E,asIntOf,C,b.sizeOf F,Instr.sureAddr]
theorem r7 (d:HR g c)(e:Ad P tab){T:TypeId}{i:Operand}(p:o.op= .indexAddr T x i){b:Nat}(w:(tab T).kind= .array b){k:IntKind}(B:a.eval x= .pointer (some ad))(hi:a.eval i= .int k n)(C:n<b){v:AV}
  (E:Au g c v (.pointer (some (ad.add (n*(tab (tab T).elem).size))))):CU P o a g c id v []:=by
 refine CU.pure d ?_ E;unfold execOp;simp only[p,B,hi,rz e w k C,Sem.run_bind,Result.andThen_ok,Sem.run_pure]
theorem r8 (d:HR g c)(e:Ad P tab){T:TypeId}{i:Operand}(p:o.op= .index T x i)(v:(tab T).kind= .string){s:ByteArray}{k:IntKind}(w:a.eval x= .string s)(hi:a.eval i= .int k n){b:UInt8}(B:s[n]? =some b):CU P o a g c id (.v (.int .u8 b.toNat)) []:=by
 refine CU.pure d (u:=.int .u8 b.toNat) ?_ (RA.v _ rfl);unfold execOp;have C:(0:Int)<=n:=by omega
 simp[p,w,hi,Instr.index,asIntOf,run_underlying (e.string v),C,B]
theorem U7 (G:Bool){e:Nat}(p:∀x,Au g c (ρ x) (a.eval x))(b:IN ρ e lo hi=some (l,h))(I:e<=cap)(w:World):
  (Instr.sliceBounds G e cap (lo.map a.eval) (hi.map a.eval) none).run P w= .ok (l,h,cap) w/\l<=h/\h<=e:=by
 unfold IN at b;split at b;rotate_left
 ·cases b
 rename_i J K v d;split at b;rotate_left
 ·cases b
 rename_i C;cases b;refine⟨?_,C⟩;have⟨E,L⟩:=C;cases lo with
 |none=>
  simp only[Lf] at v;subst v;cases hi with
  |none=>
   simp only[Lf] at d;subst d;simp[Instr.sliceBounds]
  |some y=>
   have⟨k,B⟩:=J9 d (p y)
   have:h<=cap:=(by omega);simp[Instr.sliceBounds,Instr.sliceBound,asIntOf,B,this]
 |some x=>
  have⟨M,F⟩:=J9 v (p x);cases hi with
  |none=>
   simp only[Lf] at d;subst d;simp[Instr.sliceBounds,Instr.sliceBound,asIntOf,F,E]
  |some y=>
   have⟨k,B⟩:=J9 d (p y);have H:h<=cap:=(by omega);simp[Instr.sliceBounds,Instr.sliceBound,asIntOf,B,F,H,E]
theorem r9 (b:HR g c)(d:Ad P tab){T:TypeId}(e:o.op= .slice T x lo hi none)(p:(tab T).kind= .string)(v:∀x,Au g c (ρ x) (a.eval x)){s:ByteArray}(w:a.eval x= .string s)(B:IN ρ s.size lo hi=some (l,h)):CU P o a g c id (.v (.string (s.extract l h))) []:=by
 have⟨C,_,_⟩:=U7 (P:=P) false v B (Lc _) c.w;refine CU.pure b (u:=.string (s.extract l h)) ?_ (RA.v _ rfl);unfold execOp;simp[e,w,Instr.sliceAt,Instr.slice,run_underlying (d.string p),C]
theorem X4 (e:HR g c)(d:Ad P tab){T:TypeId}(p:o.op= .slice T x lo hi none)(w:(tab T).kind= .slice)(B:(tab (tab T).elem).ok=true)(C:∀x,Au g c (ρ x) (a.eval x)){b:Nat}(E:a.eval x= .slice A b cap)(F:b<=cap)(G:IN ρ b lo hi=some (l,h)){v:AV}
  (H:Au g c v (.slice (if cap=l then A else A.map (·.add (l*(tab (tab T).elem).size))) (h-l) (cap-l))):CU P o a g c id v []:=by
 have⟨I,_,_⟩:=U7 (P:=P) true C G F c.w;refine CU.pure e ?_ H;unfold execOp;simp[p,E,Instr.sliceAt,Instr.slice,run_underlying (d.slice w),I,d.sizeOf B]
theorem iy (b:HR g c)(d:o.op= .extract x i)(e:a.eval x= .tuple vs)(hi:vs[i]? =some u){v:AV}(p:Au g c v u):CU P o a g c id v []:=by
 refine CU.pure b (u:=u) ?_ p;unfold execOp;simp[d,e,Instr.extract,hi]
theorem X5 (b:HR g c){T:TypeId}(d:o.op= .call { callee:=.builtin .len,args:= #[x],argTypes:= #[T] })(h:∀e,(Builtin.len_ #[T] e #[a.eval x]).run P c.w= .ok (goInt n) c.w):CU P o a g c id (.v (.int .i64 n)) []:=by
 refine CU.pure b (u:=.int .i64 n) ?_ (RA.v _ rfl);unfold execOp;simp[d,resolve,invoke,builtin,h,goInt]
theorem Q7 (b:HR g c)(d:o.op= .nilCheck x){p:Addr}(e:a.eval x= .pointer (some p)){v:AV}(w:Au g c v (a.eval x)):CU P o a g c id v []:=by
 refine CU.pure b (u:=a.eval x) ?_ w;unfold execOp;simp[d,e]
theorem sA (v:HR g c){f:FuncId}{first b:Array Operand}(w:o.op= .makeFunc (.func f) first b)(B:first.size=0)(C:∀(j:Nat) (x:Operand),b[j]? =some x->RA g c (ρ x) (a.eval x)):CU P o a g c id (.fn f (b.toList.map ρ)) []:=by
 have E:first= #[]:=BK B;subst E;have F:(Array.ofFn (n:=b.size) fun j=>(b.map a.eval).getD j undef)=b.map a.eval:=by
  apply Ih
  ·simp
  intro i d G;simp at d G;simp
 refine CU.pure v (u:=.func (.func f) #[] (Array.ofFn (n:=b.size) fun j=>(b.map a.eval).getD j undef)) ?_ ?_
 ·unfold execOp;rw[F];simp[w,Instr.makeFunc]
 refine RA.fn f _ (fun j=>(b.map a.eval).getD j undef) b.size (by simp) fun j y e=> ?_
 rw[Lp,La] at e;obtain⟨x,d,rfl⟩:=e;rw[NT] at d
 have:=C j x d;have p:j<b.size:=(LW.1 d).1;have H:b[j]=x:=by
  rw[LD p] at d;exact LM d
 simpa [p,H] using this
end
end
section
theorem iz (off:Nat):∀(l:List Value) (k:Nat) (b:Array Value),off+k+l.length<=b.size->
  ((l.zipIdx k).foldl (fun cs (x:Value × Nat)=>cs.setIfInBounds (off+x.2) x.1) b).toList=DD (off+k) l b.toList
 |[],k,b,_=>by simp[DD]
 |x::l,k,b,h=>by
  simp only[Lh] at h;rw[IC,Bs,iz off l (k+1) _ (by simp;omega)];have p:off+k+(x::l).length<=b.toList.length:=by simp;omega
  have v:off+(k+1)+l.length<=(b.setIfInBounds (off+k) x).toList.length:=by simp;omega
  apply BN;intro j;rw[JY _ _ _ p,JY _ _ _ v];simp only[OE,BO,Lh];by_cases d:j<off+k
  ·rw[ifp,ifn,if_pos d]
  rw[if_neg d];by_cases w:j=off+k
  ·subst w;rw[ifp,if_pos rfl,if_pos (by simp;omega),ifp];simp
  rw[ifn];by_cases e:j<off+k+(l.length+1)
  ·rw[ifp,if_pos e]
   have:j-(off+k)=j-(off+(k+1))+1:=(by omega);rw[this,BG]
  rw[ifn,ifn,if_neg e]
theorem i8 (b:Nat->Option (Nat × Nat))(cells:Array Value)(i:Nat)(v:Value)(d:List (Nat × Value))(hp:b i=some (off,n))(B:v.cells.size=n)(C:off+n<=cells.size):
  Instr.fill b cells ((i,v)::d)=Instr.fill b (DD off v.cells.toList cells.toList).toArray d:=by
 have p:¬(v.cells.size≠n\/off+v.cells.size > cells.size):=by omega
 have e:=iz off v.cells.toList 0 cells (by simp;omega);simp only[NW] at e;have w:v.cells.zipIdx.foldl (fun cs (x:Value × Nat)=>cs.setIfInBounds (off+x.2) x.1) cells=(DD off v.cells.toList cells.toList).toArray:=by
  rw[<-e,<-Array.foldl_toList,Array.toList_zipIdx]
 simp only[Instr.fill,hp];rw[if_neg (by simpa using p)];exact congrArg (fun x=>Instr.fill b x d) w
section
variable {P:Program}{tab:Nat->TI}{o:Oper}{a:Act}{g:Gh}{c:Cf}{id:Nat}{ρ:Operand->AV}
theorem bC (E:List (Nat × Nat))(B:Nat->Option (Nat × Nat))(H:∀i p,E[i]? =some p->B i=some p)(I:∀x,Au g c (ρ x) (a.eval x)):
  ∀(J:List (Nat × Operand)) (cs e:List AV) (vs:Array Value),vs.size=cs.length->(∀(j:Nat) (y:AV),cs[j]? =some y->∃z,vs[j]? =some z/\RA g c y z)->MD E ρ cs J=some e->
   ∃v,Instr.fill B vs (J.map fun p=>(p.1,a.eval p.2))=some v/\v.size=e.length/\∀(j:Nat) (y:AV),e[j]? =some y->∃z,v[j]? =some z/\RA g c y z
 |[],cs,e,vs,F,h,b=>by
  simp only[MD,Lf] at b;subst b;exact⟨vs,rfl,F,h⟩
 |(i,x)::r,cs,e,vs,F,h,b=>by
  unfold MD at b;split at b;rotate_left
  ·cases b
  rename_i off n xs N O;split at b;rotate_left
  ·cases b
  rename_i U;have⟨Q,R⟩:=U5 O (I x);have K:off+(a.eval x).cells.toList.length<=vs.toList.length:=by simp;omega
  have L:off+xs.length<=cs.length:=by omega
  have⟨v,S,T⟩:=bC E B H I r (DD off xs cs) e (DD off (a.eval x).cells.toList vs.toList).toArray
   (by rw[Ng,JX _ _ _ K,JX _ _ _ L];simpa using F)
   (fun j y d=>by
    rw[Nx,JY _ _ _ K];rw[JY _ _ _ L] at d;simp only[NR,Q];by_cases M:j<off
    ·rw[if_pos M] at d⊢;have⟨z,C,w⟩:=h j y d;exact⟨z,by simpa using C,w⟩
    rw[if_neg M] at d⊢;by_cases C:j<off+xs.length
    ·rw[if_pos C] at d⊢;have⟨z,w,G⟩:=R _ _ d;exact⟨z,by simpa using w,G⟩
    rw[if_neg C] at d⊢;have⟨z,w,G⟩:=h j y d;exact⟨z,by simpa using w,G⟩) b
  refine⟨v,?_,T⟩;rw[Li,i8 B vs i (a.eval x) _ (H i _ N) (by omega) (by omega)];exact S
theorem i9 {α e:Type}(f:α->Option e):∀(l:List α),(∀(i:Nat) (x:α),l[i]? =some x->∃y,f x=some y)->∃ys,l.mapM f=some ys/\ys.length=l.length/\∀(i:Nat) (x:α) (y:e),l[i]? =some x->f x=some y->ys[i]? =some y
 |[],_=>⟨[],rfl,rfl,fun i x y h=>by simp at h⟩
 |x::l,h=>by
  have⟨y,p⟩:=h 0 x rfl;have⟨ys,v,B,C⟩:=i9 f l fun i z b=>h (i+1) z (by simpa using b);refine⟨y::ys,by simp[List.mapM_cons,p,v],by simp[B],fun i z w b d=> ?_⟩;cases i with |zero=>simp at b;subst b;rw[p] at d;simpa using d |succ i=>exact C i z w (by simpa using b) d
theorem sB (hr:HR g c)(G:Ad P tab){T:TypeId}{e:Array (Nat × Operand)}(ho:o.op= .build T e)(L:(tab T).ok=true)(hg:(tab T).agg=true)(M:∀x,Au g c (ρ x) (a.eval x))
  (B:MD (tab T).offs ρ ((tab T).zero.map AV.v) e.toList=some cs):CU P o a g c id (.ag cs) []:=by
 have⟨it,z,N,h2,h3,O,Q,h6,h7⟩:=G.info T L;have⟨d,R,C⟩:=G.kind T L;have S:∀(j:Nat) (y:AV),((tab T).zero.map AV.v)[j]? =some y->∃u,z.cells[j]? =some u/\RA g c y u:=by
  intro j y U;rw[Lp,La] at U;obtain⟨x,v,rfl⟩:=U;exact⟨x,by rw[Q];simpa using v,RA.v x (h7.1 x (Lz v))⟩
 have ab:(e.map fun(i,x)=>(i,a.eval x)).toList=e.toList.map fun p=>(p.1,a.eval p.2):=by simp
 have V:∀b,P.built T (e.toList.map fun p=>(p.1,a.eval p.2))=some b->b.size=cs.length->(∀(j:Nat) (y:AV),cs[j]? =some y->∃u,b[j]? =some u/\RA g c y u)->CU P o a g c id (.ag cs) []:=by
  intro b hb hs hc;refine CU.pure hr (u:=.agg b) ?_ ⟨b,rfl,hs,hc⟩;unfold execOp
  have:=run_build (P:=P) c.w T (e.map fun(i,x)=>(i,a.eval x)) b (by rw[ab];exact hb);simp only[ho,Sem.run_bind,this,Result.andThen_ok,Sem.run_pure]
 have X:z.cells.size=((tab T).zero.map AV.v).length:=by rw[Q];simp
 cases H:(tab T).kind<;>simp only[TI.agg,H,Nr] at hg
 case struct=>
  rw[H] at C;obtain⟨E,rfl,Y,F⟩:=C;have⟨pl,e3,e4,e5⟩:=i9 (fun f:Field=>(P.info? f.type).map fun i=>(f.offset,i.size)) E.toList (fun i f B=>by
   have⟨Z,v,_⟩:=F i f (by simpa using B);exact⟨_,by rw[v];rfl⟩)
  have⟨b,v,I,J⟩:=bC (tab T).offs (fun i=>pl.toArray[i]?) (fun i p hp=>by
   have ag:=(Lb.1 hp).1;have aa:i<E.size:=(by omega);have⟨Z,K,w⟩:=F i _ (LD aa)
   have:=e5 i E[i] (E[i].offset,Z.size) (by simp[aa]) (by simp[K]);rw[hp] at w;simp only[Lf] at w;rw[w];simpa using this) M e.toList _ _ z.cells X S B
  exact V b (by simp only[Program.built,N,R,O,e3];exact v) I J
 case array n=>
  rw[H] at C;obtain⟨rfl,Y,F⟩:=C;have⟨ie,ze,K,w,_⟩:=G.info _ Y;have⟨b,v,I,J⟩:=bC (tab T).offs (fun i=>some (i*ie.size,ie.size)) (fun i p hp=>by
   rw[F i p hp,w]) M e.toList _ _ z.cells X S B
  exact V b (by simp only[Program.built,N,R,O,K];exact v) I J
theorem jA (sz:Nat)(F:0<sz):∀(vs:List Value) (k:Nat) (b:Array Value),(k+vs.length)*sz<=b.size->(∀v∈vs,v.cells.size=sz)->
  ∃d,Instr.fill (fun i=>some (i*sz,sz)) b ((vs.zipIdx k).map fun p=>(p.2,p.1))=some d/\d.size=b.size/\(∀j,j<k*sz->d[j]? =b[j]?)/\
   ∀(i j:Nat) (v:Value),vs[i]? =some v->j<sz->d[(k+i)*sz+j]? =v.cells[j]?
 |[],k,b,_,_=>⟨b,rfl,rfl,fun _ _=>rfl,fun i j v h=>by simp at h⟩
 |v::vs,k,b,h,C=>by
  have G:=C v (by simp);simp only[Lh] at h;have H:(k+1+vs.length)*sz<=b.size:=by
   have:k+1+vs.length=k+(vs.length+1):=(by omega);rw[this];exact h
  have I:k*sz+sz<=b.size:=by
   have:(k+1)*sz<=(k+1+vs.length)*sz:=LS _ (by omega);rw[Nj,Bo] at this;omega
  have w:k*sz+v.cells.toList.length<=b.toList.length:=by simp;omega
  have⟨d,J,K,E,L⟩:=jA sz F vs (k+1) (DD (k*sz) v.cells.toList b.toList).toArray (by rw[Ng,JX _ _ _ w];simpa using H) fun u M=>C u (by simp[M]);refine⟨d,?_,?_,fun j B=> ?_,fun i j u hi B=> ?_⟩
  ·rw[IC,Li,i8 _ b k v _ rfl G I];exact J
  ·rw[K,Ng,JX _ _ _ w];simp
  ·rw[E j (by rw[Nj];omega),Nx,JY _ _ _ w,if_pos B];simp
  cases i with
  |zero=>
   simp only[Nf,Lf] at hi;subst hi;rw[NW,E _ (by rw[Nj];omega),Nx,JY _ _ _ w,ifn,if_pos (by simp;omega)];simp
  |succ i=>
   have e:k+(i+1)=k+1+i:=(by omega);rw[e];exact L i j u (by simpa using hi) B
theorem Im.or {b b':Bool}(h:Im g c b k):Im g c (b||b') k:=by
 cases b with
 |true=>exact h
 |false=>cases b' with |true=>exact h.weak |false=>exact h
theorem Im.or' {b b':Bool}(h:Im g c b' k):Im g c (b||b') k:=by rw[Bool.or_comm];exact h.or
theorem U8 {x:AV}{d:D}{b:Bool}{is:List Nat}(e:Ce hp x=some (d,b,is)):∀i∈is,∃es sz v p,hp i=some (.rw es sz v b p):=by
 unfold Ce at e;split at e
 ·cases e;simp
 ·cases e;simp
 ·cases e
 ·cases e
 ·cases e;simp
 ·split at e
  ·rename_i es sz v br p hi;split at e
   ·cases e;intro i h;simp only[Lt] at h;subst h;exact⟨es,sz,v,p,hi⟩
   cases e
  cases e
 cases e
theorem X6 {hp:Hp}(v:HR g c)(w:c.hp=hp)(I:Nat->Prop):∀ {xs:List AV} {ds:List D} {b:Bool} {is:List Nat} (vs:Nat->Value),DR hp xs=some (ds,b,is)->(∀(j:Nat) (x:AV),xs[j]? =some x->RA g c x (vs j))->
  (∀k,Im g c b k->I k)->(∀i∈is,I (c.φ i))->ds.length=xs.length/\∀(j:Nat) (d:D),ds[j]? =some d->RC c.w I d (vs j)
 |[],ds,b,is,vs,h,_,_,_=>by
  simp only[DR,Lf,LB] at h;obtain⟨rfl,_⟩:=h;exact⟨rfl,fun j d h=>by simp at h⟩
 |x::xs,ds,b,is,vs,h,B,C,E=>by
  unfold DR at h;split at h
  ·rename_i d L M N O Q F G;cases h;have H:=U6 v w (B 0 x rfl) F I (fun k p=>C k p.or) fun i hi=>E i (by simp[hi]);have⟨J,K⟩:=X6 v w I (fun j=>vs (j+1)) G (fun j y e=>B (j+1) y (by simpa using e)) (fun k p=>C k p.or') fun i hi=>E i (by simp[hi]);refine⟨by simp[J],fun j y e=> ?_⟩;cases j with |zero=>simp at e;subst e;exact H |succ j=>exact K j y (by simpa using e)
  cases h
theorem U9 {hp:Hp}:∀ {xs:List AV} {ds:List D} {b:Bool} {is:List Nat},DR hp xs=some (ds,b,is)->∀i∈is,∃es sz v br e,hp i=some (.rw es sz v br e)
 |[],ds,b,is,h=>by
  simp only[DR,Lf,LB] at h;obtain⟨_,_,rfl⟩:=h;simp
 |x::xs,ds,b,is,h=>by
  unfold DR at h;split at h
  ·rename_i d E F G H I w B;cases h;intro i hi;rcases Ly.1 hi with p |p
   ·have⟨es,sz,v,e,C⟩:=U8 w i p;exact⟨es,sz,v,_,e,C⟩
   exact U9 B i p
  cases h
theorem X7 (M:HR g c)(N:c.hp=hp)(I:Nat->Prop){x:AV}{d:D}{b:Bool}{is:List Nat}(h:Ek hp x=some (d,b,is))(C:Au g c x u)
  (F:∀k,Im g c b k->I k) (O:∀i∈is,I (c.φ i)):Dj c.w I d u/\(∀ds,d≠ .tu ds)/\(G3 d).length=u.cells.size/\∀(j:Nat) (e:D),(G3 d)[j]? =some e->∃y,u.cells[j]? =some y/\RC c.w I e y:=by
 have T:∀ {d:D} {u:Value},RC c.w I d u->Dj c.w I d u/\(∀ds,d≠ .tu ds)/\(G3 d).length=u.cells.size/\∀(j:Nat) (e:D),(G3 d)[j]? =some e->∃y,u.cells[j]? =some y/\RC c.w I e y:=by
  intro d u h;have w:G3 d= [d]:=by cases h<;>rfl
  have U:Dj c.w I d u:=by
   unfold Dj;split
   ·cases h
   exact h
  refine⟨U,fun ds e=> ?_,?_,?_⟩
  ·subst e;cases h
  ·rw[w,X0 h.one];rfl
  rw[w,X0 h.one];intro j e p;cases j with |zero=>simp at p;subst p;exact⟨u,rfl,h⟩ |succ j=>simp at p
 have G:∀ {cs:List D} {vs:Array Value},vs.size=cs.length->(∀(j:Nat) (e:D),cs[j]? =some e->∃y,vs[j]? =some y/\RC c.w I e y)->Dj c.w I (.ag cs) (.agg vs)/\(∀ds,D.ag cs≠ .tu ds)/\(G3 (.ag cs)).length=(Value.agg vs).cells.size/\∀(j:Nat) (e:D),(G3 (.ag cs))[j]? =some e->∃y,(Value.agg vs).cells[j]? =some y/\RC c.w I e y:=
  fun Q w=>⟨⟨_,rfl,Q,w⟩,fun ds=>by simp,Q.symm,w⟩
 unfold Ek at h;split at h
 ·rename_i cs;have⟨⟨ds,H,ab⟩,V,R⟩:=La.1 h;simp only[LB] at R;obtain⟨rfl,rfl,rfl⟩:=R;obtain⟨vs,rfl,J,E⟩:=C;have S:∀(j:Nat) (x:AV),cs[j]? =some x->vs[j]? =some (vs.getD j undef)/\RA g c x (vs.getD j undef):=by
   intro j x K;have⟨y,v,B⟩:=E j x K;have L:=(LW.1 v).1
   have:vs.getD j undef=y:=by
    rw[LD L] at v;simpa [Array.getD,L] using v
   rw[this];exact⟨v,B⟩
  have⟨g3,X⟩:=X6 M N I (fun j=>vs.getD j undef) V (fun j x K=>(S j x K).2) F O;refine G (by omega) fun j e p=> ?_;have L:=(Lb.1 p).1;exact⟨_,(S j _ (Le (show j<cs.length by omega))).1,X j e p⟩
 ·rename_i cs H;cases h;obtain⟨vs,rfl,J,E⟩:=C;cases hp:J0 cs with
  |true=>exact G J fun j e p=>let ⟨y,v,B⟩:=E j e p;⟨y,v,B.plain (LP.1 hp e (Lz p))⟩
  |false=>exact G J fun j e p=>let ⟨y,v,B⟩:=E j e p;⟨y,v,B.mono (fun _ _=>rfl) (by simpa [hp] using F)⟩
 rename_i Y Z;have aa:RA g c x u:=by
  cases x with
  |ag cs=>exact absurd rfl (Y cs)
  |un=>simp[Ce] at h
  |tu cs=>simp[Ce] at h
  |d y H=>cases y with |ag cs=>exact absurd rfl (Z cs H) |tu cs=>simp[Ce] at h |_=>exact C
  |_=>exact C
 exact T (U6 M N aa h I F O)
theorem X8 {x:AV}{d:D}{b:Bool}{is:List Nat}(h:Ek hp x=some (d,b,is)):∀i∈is,∃es sz v br e,hp i=some (.rw es sz v br e):=by
 unfold Ek at h;split at h
 ·have⟨⟨ds,C,E⟩,w,p⟩:=La.1 h;simp only[LB] at p;obtain⟨rfl,rfl,rfl⟩:=p;exact U9 w
 ·cases h;simp
 intro i hi;have⟨es,sz,v,e,B⟩:=U8 h i hi;exact⟨es,sz,v,_,e,B⟩
end
end
section
section
variable {P:Program}{tab:Nat->TI}{o:Oper}{a:Act}{g:Gh}{c:Cf}{id:Nat}{ρ:Operand->AV}
theorem Im.frozen (E:HR g c){kn:Nat->Prop}{is:List Nat}(hi:i∈is){es sz v br fz}(h:c.hp i=some (.rw es sz v br fz))(b:Bool):Im g ⟨CC (frz c.hp is) c.hp,c.φ,c.w,kn⟩ b (c.φ i):=by
 have⟨_,F,J⟩:=E.dom i _ h;have K:∀(is:List Nat) (B:Hp),(i∈is\/∃es sz v br,B i=some (.rw es sz v br true))->∃es sz v br,CC (Ab.frz c.hp is) B i=some (.rw es sz v br true):=by
  intro is;induction is with
  |nil=>
   intro B d;rcases d with d |d
   ·simp at d
   ·exact d
  |cons j r G=>
   intro B d;unfold Ab.frz;split
   ·rename_i L M N O T U;simp only[CC];refine G _ ?_;by_cases e:i=j
    ·subst e;exact .inr ⟨_,_,_,_,Ap _ _ _⟩
    rcases d with d |⟨V,X,Y,Z,d⟩
    ·rcases Lr.1 d with w |w
     ·exact absurd w e
     exact .inl w
    exact .inr ⟨_,_,_,_,by rw[Ai _ _ e];exact d⟩
   rename_i Q;refine G _ ?_;rcases d with d |d
   ·rcases Lr.1 d with w |w
    ·subst w;exact absurd h (Q _ _ _ _ _)
    exact .inl w
   exact .inr d
 have⟨L,M,N,O,H⟩:=K is c.hp (.inl hi);have R:=(CP.frz E c.kn (fun i h=>h) is).2;refine⟨J,fun S=> ?_,fun j p C hp e=> ?_,fun _=>F.1⟩
 ·exact F.2 S
 by_cases I:j=i
 ·subst I;simp only[H,Lf] at C;subst C;simp[AO.fz] at hp
 exact R.inj j i p _ C H I e
theorem VA {hp:Hp}(B:HR g c)(C:c.hp=hp)(I:Nat->Prop):∀ {xs:List AV} {ds:List D} {b:Bool} {is:List Nat} (p:Nat->Value),Cj hp xs=some (ds,b,is)->(∀(j:Nat) (x:AV),xs[j]? =some x->Au g c x (p j))->
  (∀k,Im g c b k->I k)->(∀i∈is,I (c.φ i))->ds.length=xs.length/\∀(j:Nat) (d:D),ds[j]? =some d->Dj c.w I d (p j)/\(∀ds,d≠ .tu ds)/\(G3 d).length=(p j).cells.size/\∀(k:Nat) (e:D),(G3 d)[k]? =some e->∃y,(p j).cells[k]? =some y/\RC c.w I e y
 |[],ds,b,is,p,h,_,_,_=>by
  simp only[Cj,Lf,LB] at h;obtain⟨rfl,_⟩:=h;exact⟨rfl,fun j d h=>by simp at h⟩
 |x::xs,ds,b,is,p,h,E,F,G=>by
  unfold Cj at h;split at h
  ·rename_i d N O Q R S H J;cases h;have K:=X7 B C I H (E 0 x rfl) (fun k w=>F k w.or) fun i hi=>G i (by simp[hi]);have⟨L,M⟩:=VA B C I (fun j=>p (j+1)) J (fun j y v=>E (j+1) y (by simpa using v)) (fun k w=>F k w.or') fun i hi=>G i (by simp[hi]);refine⟨by simp[L],fun j y v=> ?_⟩;cases j with |zero=>simp at v;subst v;exact K |succ j=>exact M j y (by simpa using v)
  cases h
theorem TG {hp:Hp}:∀ {xs:List AV} {ds:List D} {b:Bool} {is:List Nat},Cj hp xs=some (ds,b,is)->∀i∈is,∃es sz v br p,hp i=some (.rw es sz v br p)
 |[],ds,b,is,h=>by
  simp only[Cj,Lf,LB] at h;obtain⟨_,_,rfl⟩:=h;simp
 |x::xs,ds,b,is,h=>by
  unfold Cj at h;split at h
  ·rename_i d C E F G H w B;cases h;intro i hi;rcases Ly.1 hi with e |e
   ·exact X8 w i e
   exact TG B i e
  cases h
theorem jB:∀(xs ys:List (Nat × AO)) (h:Hp),CC (xs++ys) h=CC ys (CC xs h)
 |[],_,_=>rfl
 |(_,_)::xs,ys,_=>jB xs ys _
theorem CU.after {b:List (Nat × AO)}{v:AV}(d:CP c ⟨CC b c.hp,c.φ,c.w,c.kn⟩)(h:CU P o a g ⟨CC b c.hp,c.φ,c.w,c.kn⟩ id v δ):CU P o a g c id v (b++δ):=by
 have⟨e,u,w',p,w,B,C⟩:=h;refine⟨e,u,w',p,?_⟩;rw[jB];exact⟨d.trans w,B,C⟩
theorem sC {t:Nat}(b:0<sz):t=t / sz*sz+t%sz/\t%sz<sz:=⟨by have:=Nat.div_add_mod t sz;rw[BC] at this;omega,On _ b⟩
theorem sD (B:HR g c)(M:Ad P tab){T:TypeId}{e:Array (Nat × Operand)}(U:o.op= .buildSlice T n e)(w:(tab T).kind= .slice)(V:e.toList.map (·.1)=List.range n)(ab:(tab (tab T).elem).ok=true)
  (I:0<(tab (tab T).elem).size) (hn:n*(tab (tab T).elem).size<=16777216) (ag:∀x,Au g c (ρ x) (a.eval x))  {b:Bool} {is:List Nat} (X:Cj c.hp (e.toList.map fun p=>ρ p.2)=some (ds,b,is))
  (N:EX (tab (tab T).elem).size (ds.map G3)=true) (ak:¬c.kn id):CU P o a g c id (.so id 0 0 n) (frz c.hp is++[(id,.rw (ds.map G3) (tab (tab T).elem).size 0 b false)]):=by
 have⟨Y,ap⟩:=CP.frz B c.kn (fun i h=>h) is;refine CU.after Y ?_;generalize hS:(tab (tab T).elem).size=sz at *;have J:e.toList.length=n:=by have:=congrArg List.length V;simpa using this
 have aq:∀i∈is,Im g ⟨CC (frz c.hp is) c.hp,c.φ,c.w,c.kn⟩ b (c.φ i):=fun i hi=>by
  have⟨es,s,v,br,fz,C⟩:=TG X i hi;exact Im.frozen B hi C b
 have⟨hl,Z⟩:=VA B rfl (Im g ⟨CC (frz c.hp is) c.hp,c.φ,c.w,c.kn⟩ b) (fun j=>(((e.toList.map fun p=>a.eval p.2))[j]?).getD undef) X (fun j x hx=>by
  rw[Lp,La] at hx;obtain⟨p,C,rfl⟩:=hx;rw[Lp,C];exact ag p.2) (fun k w=>w.ext Y) aq
 have aa:ds.length=n:=by rw[hl,LE,J]
 have⟨i,z,C,K,h3,h4,h5,h6,h7⟩:=M.info _ ab;rw[hS] at K h6;have ar:(e.map fun(i,x)=>(i,a.eval x)).toList=((e.toList.map fun p=>a.eval p.2).zipIdx 0).map fun p=>(p.2,p.1):=by
  apply BN;intro k;rw[Array.toList_map,Lp,Lp,O3,Lp];cases w:e.toList[k]? with
  |none=>simp
  |some p=>
   have O:(e.toList.map (·.1))[k]? =some p.1:=(by rw[Lp,w];rfl);have F:k<n:=by
    have:=(Lb.1 w).1;omega
   rw[V,Bk F] at O;simp only[Lf] at O;simp[<-O]
 have av:∀v∈(e.toList.map fun p=>a.eval p.2),v.cells.size=sz:=by
  intro v hv;have⟨j,G⟩:=N3.1 hv;have F:=(Lb.1 G).1;simp only[LE] at F;have aE:ds[j]? =some ds[j]:=Le (by omega);have⟨_,_,E,_⟩:=Z j _ aE;have g2:(G3 ds[j]).length=sz:=by
   have:=LP.1 N (G3 ds[j]) (LH (LZ _));simpa using this
  rw[G] at E;simpa [g2] using E.symm
 have⟨H,k1,Q,k3,k4⟩:=jA sz I (e.toList.map fun p=>a.eval p.2) 0 ((Array.range (n*sz)).map (z.cells[· %z.cells.size]!)) (by simp[J]) av;rw[<-ar] at k1;have a0:(execOp a.eval o).run P c.w= .ok (.value (.slice (some ⟨c.w.heap.size,0,none⟩) n n)) (c.w.alloc (.cells H (tab T).elem)):=by
  unfold execOp;by_cases h0:n=0
  ·subst h0;have e0:e.toList= []:=LV J;have e1:e= #[]:=(by simpa using e0);subst e1;have e2:H= #[]:=BK (by rw[Q];simp);subst e2;simp[U,Instr.buildSlice,run_underlying (M.slice w),sizeOf,typeInfo,C,Instr.fill,newRow];congr 2;exact BK (by simp)
  have a1:¬n*i.size=0:=by
   rw[K]
   have:=Nat.mul_pos (Nat.pos_of_ne_zero h0) I;omega
  have:=run_buildSlice (P:=P) c.w T (tab T).elem n (e.map fun(i,x)=>(i,a.eval x)) H i z (M.slice w) C h4 (by rw[K];omega) a1 (by rw[K];exact k1);simp only[U,Sem.run_bind,this,Result.andThen_ok,Sem.run_pure]
 refine X3 ap ak a0 (fun c' he L R=>⟨I,fun i cs hi=> ?_,(tab T).elem,H,n,?_,by rw[Q];simp,by simp[aa],?_,fun i j cs d hi G=> ?_⟩) fun c' he L R hh a2=> ?_
 ·have:=LP.1 N cs (Lz hi);simpa using this
 ·rw[L,R];exact heap_alloc_new _ _
 ·have:n*1<=n*sz:=Nat.mul_le_mul_left _ I;simp only[maxLen];omega
 ·rw[Lp,La] at hi;obtain⟨S,E,rfl⟩:=hi;have⟨_,_,g2,g3⟩:=Z i S E;have⟨y,g4,g5⟩:=g3 j d G;have F:i<n:=by
   have:=(Lb.1 E).1;omega
  have g6:(e.toList.map fun p=>a.eval p.2)[i]? =some (((e.toList.map fun p=>a.eval p.2)[i]?).getD undef):=by
   rw[Le (by simpa [J] using F)];rfl
  have a3:j<sz:=by
   have e1:=(Lb.1 G).1;have e2:(G3 S).length=sz:=by
    have:=LP.1 N (G3 S) (LH (Lz E));simpa using this
   omega
  have:=k4 i j _ g6 a3;rw[NE] at this;exact⟨y,by rw[this];exact g4,RC.ext he g5⟩
 refine RA.so id 0 0 n _ a2 ⟨_,_,rfl⟩ fun es s v br fz B=> ?_
 rw[hh] at B;cases B;refine⟨Lc _,fun _=>⟨by simp[aa],H,(tab T).elem,n,?_,by rw[Q];simp,by rw[L,BQ]⟩⟩;rw[L,R];exact heap_alloc_new _ _
end
end
section
section
variable {P:Program}{tab:Nat->TI}{o:Oper}{a:Act}{g:Gh}{c:Cf}{id:Nat}{ρ:Operand->AV}
def Hg (m sz:Nat)(f:Nat->Nat->Value):List Value:=(List.range (m*sz)).map fun t=>f (t / sz) (t%sz)
theorem bD {m:Nat}{f:Nat->Nat->Value}{t:Nat}{v:Value}(b:0<sz)(h:(Hg m sz f)[t]? =some v):t / sz<m/\t%sz<sz/\v=f (t / sz) (t%sz)/\t=t / sz*sz+t%sz:=by
 unfold Hg at h;rw[Lp] at h;by_cases d:t<m*sz
 ·rw[Bk d] at h;simp only[LQ,Lf] at h;refine⟨(Nat.div_lt_iff_lt_mul b).2 d,On _ b,h.symm,(sC b).1⟩
 rw[Nk (by simp;omega)] at h;cases h
theorem bE {m:Nat}{f:Nat->Nat->Value}(hi:i<m)(b:j<sz):(Hg m sz f)[i*sz+j]? =some (f i j):=by
 have d:i*sz+j<m*sz:=by
  have:(i+1)*sz<=m*sz:=LS _ hi;rw[Nj] at this;omega
 have e:0<sz:=by omega
 have p:(i*sz+j) / sz=i:=by rw[BC,Nat.mul_add_div e,ID b];rfl
 have v:(i*sz+j)%sz=j:=by rw[BC,Nat.mul_add_mod,BV b]
 unfold Hg;rw[Lp,Bk d];simp[p,v]
theorem TH (m sz:Nat)(f:Nat->Nat->Value):(Hg m sz f).length=m*sz:=by simp[Hg]
def bF (g:Gh)(c:Cf)(u:Value)(ys:List (List D))(b:Bool)(sz:Nat):Prop:=(ys= []/\∃A e,u= .slice A 0 e)\/ (ys≠[]/\∃(v p e:Nat) (f:Nat->Nat->Value),u= .slice (some ⟨v,p,none⟩) ys.length e/\(∀i j,i<ys.length->j<sz->c.w.cell? ⟨v,p+(i*sz+j),none⟩=some (f i j)/\(f i j).oneCell'=true)/\ ∀(i j:Nat) (cs:List D) (d:D),ys[i]? =some cs->cs[j]? =some d->RC c.w (Im g c b) d (f i j))
theorem TJ {es:List (List D)}(h:EX sz es=true){cs:List D}(hi:es[i]? =some cs):cs.length=sz:=by
 have:=LP.1 h cs (Lz hi);simpa using this
theorem jC (hr:HR g c){y:AV}{b:Bool}{is:List Nat}(Q:Au g c y u)(h:GL c.hp y=some (ys,b,is))(Y:EX sz ys=true):bF g c u ys b sz:=by
 unfold GL at h;split at h
 ·cases h;have F:=Q.dsl;generalize I:D.sl ys=dd at F;cases F with
  |nl A R=>cases I;exact .inl ⟨rfl,A,R,rfl⟩
  |sl es bl p R w Z hI hc G hm F=>
   cases I;by_cases M:ys= []
   ·subst M;exact .inl ⟨rfl,_,_,rfl⟩
   ·have S:w=sz:=by
     have hp:0<ys.length:=NA.2 M;have e:ys[0]? =some ys[0]:=Le hp;rw[<-G 0 _ e,TJ Y e]
    subst S;have ak:∀(i j:Nat) (cs:List D) (d:D),ys[i]? =some cs->cs[j]? =some d->RC c.w (Im g c (_&& !KK ys)) d (Z i j):=fun i j cs d e B=>by
     cases hp:KK ys with |true=>exact(F i j cs d e B).plain (LP.1 (LP.1 hp cs (Lz e)) d (Lz B)) |false=>simpa using F i j cs d e B
    refine .inr ⟨M,bl,p,R,Z,rfl,fun i j hi H=> ?_,ak⟩;have e:ys[i]? =some ys[i]:=Le hi;have J:=G i _ e;have B:ys[i][j]? =some (ys[i][j]'(by omega)):=Le (by omega)
    have:=hm i j _ _ e B;rw[Ny] at this;exact⟨this,(F i j _ _ e B).one⟩
  |v x h1=>cases I
  |pt _ _ _ _ _ _ _ _=>cases I
  |mp _ _ _ _ _ _ _ _ _=>cases I
 ·rename_i i v off n;split at h;rotate_left
  ·cases h
  rename_i es w ver br fz hi;split at h;rotate_left
  ·cases h
  rename_i hv;cases h;subst hv;obtain⟨h1,_,E,T,C,aa,h3,rfl⟩:=Au.so (show Au g c (.so i _ off n) u from Q) hi;have⟨M,G,T',vs,C',ab,h5,h6,h7,h8⟩:=hr.obj i _ hi;rw[aa] at ab;cases ab;have J:((es.drop off).take n).length=n:=by rw[LC,Nv];omega
  by_cases N:(es.drop off).take n= []
  ·rw[N] at J;simp only[Lu] at J;subst J;exact .inl ⟨N,_,_,rfl⟩
  have S:w=sz:=by
   have hp:0<((es.drop off).take n).length:=NA.2 N;have e:((es.drop off).take n)[0]? =some ((es.drop off).take n)[0]:=Le hp;rw[<-G _ _ (ME _ _ _ _ _ e).2,TJ Y e]
  subst S;have ag:∀k j,k<n->j<w->∃u d cs,E[(off+k)*w+j]? =some u/\es[off+k]? =some cs/\cs[j]? =some d/\RC c.w (Im g c b) d u:=by
   intro k j U H;have e:es[off+k]? =some es[off+k]:=Le (by omega);have aq:=G _ _ e;have B:es[off+k][j]? =some (es[off+k][j]'(by omega)):=Le (by omega);have⟨u,O,K⟩:=h8 _ _ _ _ e B;exact⟨u,_,_,O,e,B,K⟩
  refine .inr ⟨N,c.φ i,off*w,C,fun k j=>E.getD ((off+k)*w+j) undef,by rw[J],fun k j U H=> ?_,fun k j cs d U H=> ?_⟩
  ·have⟨u,d,cs,e,_,_,K⟩:=ag k j (by omega) H;have L:=(LW.1 e).1;have V:E.getD ((off+k)*w+j) undef=u:=by
    rw[LD L] at e;simpa [Array.getD,L] using e
   show c.w.cell? _=some (E.getD ((off+k)*w+j) undef)/\(E.getD ((off+k)*w+j) undef).oneCell'=true;rw[V];refine⟨?_,K.one⟩;have e6:off*w+(k*w+j)=(off+k)*w+j:=(by rw[Nj];omega);simp[World.cell?,aa,e6,e]
  have X:=(ME _ _ _ _ _ U);have ap:j<w:=by
   have:=(Lb.1 H).1
   have:=G _ _ X.2;omega
  have⟨u,d',ar,e,B,O,K⟩:=ag k j X.1 ap;rw[X.2] at B;cases B;rw[H] at O;cases O;have L:=(LW.1 e).1;have V:E.getD ((off+k)*w+j) undef=u:=by
   rw[LD L] at e;simpa [Array.getD,L] using e
  show RC c.w (Im g c b) d (E.getD ((off+k)*w+j) undef);rw[V];exact K
 ·cases h;exact .inl ⟨rfl,none,0,Q.v.1⟩
 cases h
theorem jD (d:Ad P tab){T E:TypeId}(e:(tab T).kind= .slice)(v:(tab (tab T).elem).ok=true)(b:Option Addr)(n cap:Nat)(A:Option Addr)(B:Nat)(h:n<=cap)(w:World):
  (Builtin.append_ #[T,T] E #[.slice b n cap,.slice A 0 B]).run P w= .ok (.slice b n cap) w:=by
 have C:(Builtin.firstCells (tab (tab T).elem).size 0 (.slice A 0 B)).run P w= .ok #[] w:=by
  cases A<;>simp[Builtin.firstCells,loadCells,loadCellsFrom]
 cases b with
 |none=>simp[Builtin.append_,run_underlying (d.slice e),d.sizeOf v,Builtin.lenOf,h,C]
 |some p=>simp[Builtin.append_,run_underlying (d.slice e),d.sizeOf v,Builtin.lenOf,h,C,storeCells]
theorem sE (w:World)(t G e C:TypeId)(i:TypeInfo)(H:P.underlying t=some (.slice e))(hi:P.info? e=some i)
  (p d B:Nat) (v:Array Value) (I:w.heap[p]? =some (.cells v C (0,0)))
  (ad:Addr) (m E:Nat) (b:List Value) (J:b.length=m*i.size) (K:∀(j:Nat) (u:Value),b[j]? =some u->w.cell? (ad.add j)=some u) (L:∀u∈b,u.oneCell'=true)
  (M:d+m<=B) (N:d*i.size+b.length<=v.size):
  (Builtin.append_ #[t,t] G #[.slice (some ⟨p,0,none⟩) d B,.slice (some ad) m E]).run P w=
   .ok (.slice (some ⟨p,0,none⟩) (d+m) B) (w.setRow p (DD (d*i.size) b v.toList).toArray):=by
 have O:=run_firstCells_some (P:=P) w i.size m ad m E b J K;have F:=run_storeCells_at P p (d*i.size) C b 0 v w I (by simpa using N) L;simp only[NW] at F;simp[Builtin.append_,run_underlying H,sizeOf,typeInfo,hi,Builtin.lenOf,M,O,Addr.add_lit,F,DD]
theorem VB {T:TypeId}(b:o.op= .call { callee:=.builtin .append,args:= #[x,y],argTypes:= #[T,T] }){w:World}(h:∀d,(Builtin.append_ #[T,T] d #[a.eval x,a.eval y]).run P w= .ok u w'):(execOp a.eval o).run P w= .ok (.value u) w':=by
 unfold execOp;simp[b,resolve,invoke,builtin,h]
theorem bG (w:HR g c){w0:World}(e:w0.heap=c.w.heap)(K:w0.os=c.w.os)(L:w0.tape=c.w.tape)(M:w0.output=c.w.output){cells:Array Value}{T:TypeId}{C:Nat}{es:List (List D)}(B:¬c.kn id)(N:0<sz)(O:∀(i:Nat) (cs:List D),es[i]? =some cs->cs.length=sz)
  (E:cells.size=C*sz) (Y:es.length=n) (Z:n<=C) (Q:C<=maxLen) (R:∀(i j:Nat) (cs:List D) (d:D),es[i]? =some cs->cs[j]? =some d->∃u,cells[i*sz+j]? =some u/\RC c.w (Im g c br) d u)
  (h:(execOp a.eval o).run P c.w= .ok (.value (.slice (some ⟨c.w.heap.size,0,none⟩) n C)) (w0.alloc (.cells cells T))) (S:c.w.drawn<=w0.drawn:=by first |exact Lc _ |exact BB _):CU P o a g c id (.so id ver 0 n) [(id,.rw es sz ver br false)]:=by
 have F:(w0.alloc (.cells cells T)).heap[c.w.heap.size]? =some (.cells cells T (0,0)):=by rw[<-e];exact heap_alloc_new _ _
 have G:∀k,k<c.w.heap.size->(w0.alloc (.cells cells T)).heap[k]? =c.w.heap[k]? :=fun k H=>by
  rw[<-e] at H⊢;exact heap_alloc_old w0 _ H
 have I:c.w.heap.size<(w0.alloc (.cells cells T)).heap.size:=by rw[<-e];simp
 have p:=CP.new (ao:=.rw es sz ver br false) (kn:=fun k=>c.kn k\/k=id) w B (w':=w0.alloc (.cells cells T)) (b:=c.w.heap.size) K L M (BR I) G (Lc _) (fun _ h=>.inl h) S;refine⟨upd id c.w.heap.size c.φ,_,_,.val h,p,HR.new w p B (Lc _) I (.inr rfl) G ⟨N,O,T,cells,C,?_,E,by omega,Q,fun i j cs d hi U=> ?_⟩,?_⟩
 ·simp only[Ap];exact F
 ·have⟨u,V,X⟩:=R i j cs d hi U;exact⟨u,V,RC.ext p X⟩
 refine RA.so id ver 0 n _ (.inr rfl) ⟨_,_,rfl⟩ fun aa s v br fz J=> ?_
 simp only[CC,Ap,Lf,AO.rw.injEq] at J;obtain⟨rfl,rfl,rfl,rfl,rfl⟩:=J;refine⟨Lc _,fun _=>⟨by omega,cells,T,C,?_,by rw[E,NE],?_⟩⟩
 ·simp only[Ap];exact F
 simp only[Ap,BQ]
theorem append_nil (F:HR g c)(w:Ad P tab){T:TypeId}(G:o.op= .call { callee:=.builtin .append,args:= #[x,y],argTypes:= #[T,T] })(H:(tab T).kind= .slice)(I:(tab (tab T).elem).ok=true)(J:0<(tab (tab T).elem).size)
  (K:a.eval x= .slice none 0 0)  {b:Bool} (O:bF g c (a.eval y) ys b (tab (tab T).elem).size) (L:EX (tab (tab T).elem).size ys=true) (hb:ys.length*(tab (tab T).elem).bytes<=140737488355328) (M:ys.length<=maxLen) (Q:¬c.kn id) {v:AV} 
  (e:(if ys.length=0 then some (.v (.slice none 0 0),[]) else some (.so id 0 0 ys.length,[(id,.rw ys (tab (tab T).elem).size 0 b false)]))=some (v,δ)):CU P o a g c id v δ:=by
 rcases O with⟨rfl,A,B,E⟩ |⟨R,S,p,B,f,E,U,V⟩
 ·simp only[Lu,if_true,Lf,LB] at e;obtain⟨rfl,rfl⟩:=e;exact CU.pure F (VB G fun X=>by rw[K,E];exact jD w H I none 0 0 A B (Lc _) c.w) (RA.v _ rfl)
 have Y:0<ys.length:=NA.2 R;rw[ifn] at e;simp only[Lf,LB] at e;obtain⟨rfl,rfl⟩:=e;have⟨i,z,Z,aa,h3,h4,h5,h6,h7⟩:=w.info _ I;generalize hS:(tab (tab T).elem).size=sz at *;have ab:=run_append_nil (P:=P) c.w T o.type (tab T).elem i z (w.slice H) Z h4 ⟨S,p,none⟩ ys.length B (Hg ys.length sz f) (by rw[TH,aa]) (fun t v e=>by
  obtain⟨e1,e2,rfl,e4⟩:=bD J e;rw[IQ]
  have:=(U _ _ e1 e2).1;rw[<-e4] at this;exact this) Y (by simp only[maxLen] at M;omega) (by rw[h3];omega)
 have ag:=grownCap_ge c.w ys.length 0 (tab T).elem;have ak:=grownCap_le_maxLen c.w ys.length 0 (tab T).elem M;refine bG F (w0:=c.w.drew) rfl rfl rfl rfl Q J (fun i cs hi=>TJ L hi) (C:=grownCap c.w ys.length 0 (tab T).elem) ?_ rfl ag ak (fun i j cs d hi N=> ?_) (VB G fun X=>by rw[K,E];exact ab)
 ·rw[Oe,size_zeroCells,h5];simp only[Ng,TH,h6,<-Nj];congr 1;omega
 have ap:=(Lb.1 hi).1;have aq:j<sz:=by
  have:=(Lb.1 N).1;rw[TJ L hi] at this;exact this
 refine⟨f i j,?_,V i j cs d hi N⟩
 have:=bE (f:=f) ap aq;have ar:=(Lb.1 this).1;rw[NN (by simpa using ar)];simpa using this
theorem sF (V:HR g c)(I:Ad P tab){T:TypeId}(ho:o.op= .call { callee:=.builtin .append,args:= #[x,y],argTypes:= #[T,T] })(E:(tab T).kind= .slice)(he:(tab (tab T).elem).ok=true)(a1:0<(tab (tab T).elem).size)
   {es:List (List D)} {b:Bool} (hi:c.hp i=some (.rw es (tab (tab T).elem).size ver br false)) (hx:Au g c (.so i ver 0 n) (a.eval x)) (hn:n<=es.length) (hs:bF g c (a.eval y) ys b (tab (tab T).elem).size) (ba:EX (tab (tab T).elem).size ys=true)
  (hb:(n+ys.length)*(tab (tab T).elem).bytes<=140737488355328) (hm:n+ys.length<=maxLen):CU P o a g c id (.so i (ver+1) 0 (n+ys.length)) [(i,.rw (es.take n++ys) (tab (tab T).elem).size (ver+1) (br||b) false)]:=by
 generalize hS:(tab (tab T).elem).size=sz at *;have⟨_,O,w,Q,C,h2,X,h4⟩:=Au.so hx hi;have⟨h0,hz,b5,vs,C',h5,h6,h7,h8,h9⟩:=V.obj i _ hi;rw[h2] at h5;cases h5;rw[NE] at X;rw[BQ] at h4;have bb:C=C':=BW h0 (X.symm.trans h6);subst bb;have bd:=(V.dom i _ hi).2.2;have b6:(es.take n++ys).length=n+ys.length:=by rw[Ld,LC];omega
 have a0:∀(k:Nat) (cs:List D),(es.take n++ys)[k]? =some cs->cs.length=sz:=by
  intro k cs B;by_cases O:k<n
  ·rw[NP (by rw[LC];omega),Nq,if_pos O] at B;exact hz k cs B
  rw[Nm (by rw[LC];omega)] at B;exact TJ ba B
 have a2:∀ {L:Array Value} {H:Cf} {f:Nat->Nat->Value},CP c H->(∀t,t<n*sz->L[t]? =w[t]?)->(∀k j,k<ys.length->j<sz->L[n*sz+(k*sz+j)]? =some (f k j))->(∀(i j:Nat) (cs:List D) (d:D),ys[i]? =some cs->cs[j]? =some d->RC c.w (Im g c b) d (f i j))->
   ∀(k j:Nat) (cs:List D) (d:D),(es.take n++ys)[k]? =some cs->cs[j]? =some d->∃u,L[k*sz+j]? =some u/\RC H.w (Im g H (br||b)) d u:=by
  intro L H f J ag ak Y k j cs d B R;have be:j<sz:=by
   have:=(Lb.1 R).1;rw[a0 k cs B] at this;exact this
  by_cases O:k<n
  ·rw[NP (by rw[LC];omega),Nq,if_pos O] at B;have⟨u,F,S⟩:=h9 k j cs d B R;refine⟨u,?_,(RC.ext J S).mono (fun _ _=>rfl) fun _ hh=>hh.or⟩;rw[ag _ (by
    have:(k+1)*sz<=n*sz:=LS _ O;rw[Nj] at this;omega)]
   exact F
  rw[Nm (by rw[LC];omega),LC,B8 hn] at B;have bg:=(Lb.1 B).1;refine⟨f (k-n) j,?_,(RC.ext J (Y _ _ _ _ B R)).mono (fun _ _=>rfl) fun _ hh=>hh.or'⟩;have F:k*sz+j=n*sz+((k-n)*sz+j):=by
   have:k=n+(k-n):=(by omega);rw[<-Ny,<-Nj,<-this]
  rw[F];exact ak _ _ bg be
 have bl:∀ {H:Cf} {L:Array Value} {C2:Nat} {K:Nat},H.kn i->H.hp i=some (.rw (es.take n++ys) sz (ver+1) (br||b) false)->H.φ i=K->H.w.heap[K]? =some (.cells L Q (0,0))->L.size=C2*sz->Au g H (.so i (ver+1) 0 (n+ys.length)) (.slice (some ⟨K,0,none⟩) (n+ys.length) C2):=by
  intro H L C2 K bo hh a3 hw M;refine RA.so i (ver+1) 0 (n+ys.length) _ bo ⟨_,_,rfl⟩ fun U s v Z aa ap=> ?_;rw[hh] at ap;cases ap;exact⟨Lc _,fun _=>⟨by omega,L,Q,C2,by rw[a3];exact hw,by rw[M,NE],by rw[a3,BQ]⟩⟩
 have b7:∀U aq v' Z aa,AO.rw (es.take n++ys) sz (ver+1) (br||b) false= .rw U aq v' Z aa->∃a4 v bs fz,AO.rw es sz ver br false= .rw a4 aq v bs fz/\v<=v'/\(v=v'->a4.length=U.length):=by
  intro U aq v' Z aa e;cases e;exact⟨es,ver,br,false,rfl,by omega,fun e=>by omega⟩
 have a5:∀ {L:Array Value} {f:Nat->Nat->Value},L.size=w.size->n+ys.length<=C->(∀t,t<n*sz->L[t]? =w[t]?)->(∀k j,k<ys.length->j<sz->L[n*sz+(k*sz+j)]? =some (f k j))->(∀(i j:Nat) (cs:List D) (d:D),ys[i]? =some cs->cs[j]? =some d->RC c.w (Im g c b) d (f i j))->
   (execOp a.eval o).run P c.w= .ok (.value (.slice (some ⟨c.φ i,0,none⟩) (n+ys.length) C)) (c.w.setRow (c.φ i) L)->CU P o a g c id (.so i (ver+1) 0 (n+ys.length)) [(i,.rw (es.take n++ys) sz (ver+1) (br||b) false)]:=by
  intro L f M aE ag ak Y ab;have ar:(c.w.setRow (c.φ i) L).heap[c.φ i]? =some (.cells L Q (0,0)):=setRow_heap c.w (c.φ i) w _ Q _ h2;have av:∀k,k<c.w.heap.size->k≠c.φ i->(c.w.setRow (c.φ i) L).heap[k]? =c.w.heap[k]? :=fun k _ E=>setRow_other c.w (c.φ i) k _ E;have J:CP c ⟨upd i (some (.rw (es.take n++ys) sz (ver+1) (br||b) false)) c.hp,upd i (c.φ i) c.φ,c.w.setRow (c.φ i) L,fun k=>c.kn k\/k=id⟩:=by
   refine CP.chg V hi rfl rfl rfl rfl (by simp) av (.inl rfl) (fun _ h=>.inl h) (fun h=>by cases h) fun U aq v' Z aa e=> ?_;cases e;exact⟨es,ver,br,false,rfl,by omega,fun e=>by omega⟩
  refine⟨_,_,_,.val ab,J,HR.chg V hi J av (.inl rfl) (by simpa using bd) ⟨h0,a0,Q,L,C,?_,by rw[M,X],by omega,h8,a2 J ag ak Y⟩,bl (.inl O) (Ap _ _ _) (Ap _ _ _) ar (by rw[M,X])⟩;simp only[Ap];exact ar
 rcases hs with⟨rfl,A,cx,hy⟩ |⟨b8,K,p,cx,f,hy,Y,hd⟩
 ·have bx:c.w.setRow (c.φ i) w=c.w:=setRow_self c.w (c.φ i) w Q (0,0) h2;refine a5 (L:=w) (f:=fun _ _=>undef) rfl (by simp;omega) (fun _ _=>rfl) (fun k j E _=>by simp at E) (fun i j cs d hi _=>by simp at hi) (VB ho fun ty=> ?_);rw[h4,hy,bx];exact jD I E he _ n C A cx (by omega) c.w
 have⟨it,z,g1,g2,g3,g4,g5,g6,g7⟩:=I.info _ he;rw[hS] at g2 g6;have a6:∀(t:Nat) (v:Value),(Hg ys.length sz f)[t]? =some v->c.w.cell? ((⟨K,p,none⟩:Addr).add t)=some v:=fun t v N=>by
  obtain⟨F,S,rfl,e4⟩:=bD a1 N;rw[IQ]
  have:=(Y _ _ F S).1;rw[<-e4] at this;exact this
 have b0:∀v∈Hg ys.length sz f,v.oneCell'=true:=fun v N=>by
  have⟨t,I⟩:=N3.1 N;obtain⟨F,S,rfl,_⟩:=bD a1 I;exact(Y _ _ F S).2
 have a7:n*sz+ys.length*sz=(n+ys.length)*sz:=by rw[Nj]
 by_cases aE:n+ys.length<=C
 ·have a8:n*sz+(Hg ys.length sz f).length<=w.size:=by rw[TH,X,a7];exact LS _ aE
  have ab:=sE (P:=P) c.w T o.type (tab T).elem Q it (I.slice E) g1 (c.φ i) n C w h2 ⟨K,p,none⟩ ys.length cx (Hg ys.length sz f) (by rw[TH,g2]) a6 b0 aE (by rw[g2];exact a8);rw[g2] at ab;have hl:n*sz+(Hg ys.length sz f).length<=w.toList.length:=by simpa using a8
  refine a5 (L:=(DD (n*sz) (Hg ys.length sz f) w.toList).toArray) (f:=f) (by rw[Ng,JX _ _ _ hl];simp) aE (fun t I=> ?_) (fun k j B R=> ?_) hd (VB ho fun ty=>by rw[h4,hy];exact ab)
  ·rw[Nx,JY _ _ _ hl,if_pos I];simp
  have F:=bE (f:=f) B R;have S:=(Lb.1 F).1;rw[Nx,JY _ _ _ hl,ifn,ifp,Nat.add_sub_cancel_left];exact F
 have b1:∀(t:Nat) (v:Value),(w.toList.take (n*sz))[t]? =some v->c.w.cell? ((⟨c.φ i,0,none⟩:Addr).add t)=some v:=fun t v N=>by
  rw[Nq] at N;split at N
  ·rw[IQ,NE];simp[World.cell?,h2];simpa using N
  cases N
 have b2:n*sz<=w.size:=by rw[X];exact LS _ (by omega)
 have ab:=run_append_grow (P:=P) c.w T o.type (tab T).elem it z (I.slice E) g1 g4 ⟨c.φ i,0,none⟩ n C (w.toList.take (n*sz)) (by rw[g2,LC];simp;omega) b1 ⟨K,p,none⟩ ys.length cx (Hg ys.length sz f) (by rw[TH,g2]) a6 (by omega)
  (by simp only[maxLen] at hm;omega) (growslice_fits (by omega) (by rw[g3];exact hb))
 have b9:=grownCap_ge c.w (n+ys.length) C (tab T).elem;have b3:=grownCap_le_maxLen c.w (n+ys.length) C (tab T).elem hm;generalize hG:grownCap c.w (n+ys.length) C (tab T).elem=G at *;generalize M:(w.toList.take (n*sz)).toArray++(Hg ys.length sz f).toArray++Builtin.zeroCells z.cells (G-(n+ys.length))=L at *;have a9:L.size=G*sz:=by
  rw[<-M,Oe,Oe,size_zeroCells,g5];simp only[Ng,TH,g6,LC,NR,B8 b2];rw[a7,<-Nj];congr 1;omega
 have ag:∀t,t<n*sz->L[t]? =w[t]? :=fun t I=>by
  rw[<-M,Ii,NN (by simp;omega)];simp[I]
 have ak:∀k j,k<ys.length->j<sz->L[n*sz+(k*sz+j)]? =some (f k j):=fun k j B R=>by
  have F:=bE (f:=f) B R;have S:=(Lb.1 F).1;rw[<-M,Ii,Br (by simp;omega),NN (by simp;omega)];have e3:n*sz+(k*sz+j)-(w.toList.take (n*sz)).toArray.size=k*sz+j:=by simp;omega
  rw[e3];simpa using F
 have ar:(c.w.drew.alloc (.cells L (tab T).elem)).heap[c.w.heap.size]? =some (.cells L (tab T).elem (0,0)):=heap_alloc_new c.w.drew _;have av:∀k,k<c.w.heap.size->(c.w.drew.alloc (.cells L (tab T).elem)).heap[k]? =c.w.heap[k]? :=fun k E=>heap_alloc_old c.w.drew _ E;have b4:c.w.heap.size<(c.w.drew.alloc (.cells L (tab T).elem)).heap.size:=by simp
 have J:CP c ⟨upd i (some (.rw (es.take n++ys) sz (ver+1) (br||b) false)) c.hp,upd i c.w.heap.size c.φ,c.w.drew.alloc (.cells L (tab T).elem),fun k=>c.kn k\/k=id⟩:=by
  refine CP.chg V hi rfl rfl rfl rfl (by simp) (fun k E _=>av k E) (.inr (Lc _)) (fun _ h=>.inl h) (fun h=>by cases h) fun U aq v' Z aa e=> ?_;cases e;exact⟨es,ver,br,false,rfl,by omega,fun e=>by omega⟩
 refine⟨_,_,_,.val (VB ho fun ty=>by rw[h4,hy];exact ab),J,HR.chg V hi J (fun k E _=>av k E) (.inr (Lc _)) b4 ⟨h0,a0,(tab T).elem,L,G,?_,a9,by omega,b3,a2 J ag ak hd⟩,?_⟩
 ·simp only[Ap];exact ar
 refine RA.so i (ver+1) 0 (n+ys.length) _ (.inl O) ⟨_,_,rfl⟩ fun U s v Z aa ap=> ?_
 simp only[CC,Ap,Lf,AO.rw.injEq] at ap;obtain⟨rfl,rfl,rfl,rfl,rfl⟩:=ap;exact⟨Lc _,fun _=>⟨by omega,L,(tab T).elem,G,by simp only[Ap];exact ar,by rw[a9,NE],by simp only[Ap,BQ]⟩⟩
end
end
section
section
variable {P:Program}{tab:Nat->TI}{o:Oper}{a:Act}{g:Gh}{c:Cf}{id:Nat}{ρ:Operand->AV}
theorem sG (N:HR g c)(Z:Ad P tab){T:Nat}(ho:o.op= .store T x y)(aa:(tab T).ok=true){b:Bool}{es:List (List D)}{cs:List D}(hx:Au g c (.pr i ver k off) (a.eval x))(hi:c.hp i=some (.rw es sz ver br false))
  (F:es[k]? =some cs) (hy:Au g c vy (a.eval y)) (ab:Dv vy=some xs) (hd:ds.length=xs.length/\∀(j:Nat) (d:D),ds[j]? =some d->RC c.w (Im g c b) d ((a.eval y).cells.getD j undef)) (hn:xs.length=(tab T).size) (hf:off+xs.length<=cs.length):
  CU P o a g c id .un [(i,.rw (es.set k (DD off ds cs)) sz ver (br||b) false)]:=by
 have⟨e,_⟩:=hx.pr hi;have⟨h0,H,T',vs,C,O,h2,h3,ag,ak⟩:=N.obj i _ hi;have⟨h4,h5⟩:=U5 ab hy;have ap:cs.length=sz:=H k cs F;have a2:k<es.length:=(Lb.1 F).1;have aq:∀v∈(a.eval y).cells.toList,v.oneCell'=true:=fun v hv=>by
  have⟨j,w⟩:=N3.1 hv;have I:=(Lb.1 w).1;simp only[NR] at I;have⟨z,J,K⟩:=h5 j _ (Le (show j<xs.length by omega));rw[NT,J] at w;cases w;exact K.one
 have ar:(k+1)*sz<=C*sz:=LS _ (by omega);rw[Nj,Bo] at ar;have av:=io Z aa c.w (c.φ i) (k*sz+off) T' vs (a.eval y) O (by omega) (by omega) aq;have aE:(execOp a.eval o).run P c.w= .ok .skip (c.w.setRow (c.φ i) (DD (k*sz+off) (a.eval y).cells.toList vs.toList).toArray):=by
  unfold execOp;simp only[ho,e,Instr.storeAt,Instr.sureAddr,Sem.run_bind,Sem.run_pure,Result.andThen_ok,av]
 have L:k*sz+off+(a.eval y).cells.toList.length<=vs.toList.length:=by simp;omega
 have⟨g1,g2⟩:=hd;have Q:off+ds.length<=cs.length:=by omega
 refine ip N hi rfl O (by rw[Ng,JX _ _ _ L];simp) aE (fun h=>by cases h) (fun a3 a4 v' a5 a6 e=>by cases e;exact⟨es,ver,br,false,rfl,Lc _,fun _=>by simp⟩) fun R S a0 hw=>
  ⟨h0,fun E a1 p=> ?_,T',_,C,by rw[a0];exact hw,by rw[Ng,JX _ _ _ L];simpa using h2,by simpa using h3,ag,fun E j a1 d p w=> ?_⟩
 ·rw[BO] at p;split at p
  ·cases p;rw[JX _ _ _ Q,ap]
  exact H _ _ p
 rw[Nx,JY _ _ _ L];simp only[NR,h4];rw[BO] at p;have G:∀ {U:List D},es[E]? =some U->U[j]? =some d->∃u,vs.toList[E*sz+j]? =some u/\RC R.w (Im g R (br||b)) d u:=fun J K=>by
  have⟨u,h8,h9⟩:=ak E j _ d J K;exact⟨u,by simpa using h8,(RC.ext S h9).mono (fun _ _=>rfl) fun _ M=>M.or⟩
 split at p
 ·rename_i V;subst V;cases p;have B:=w;rw[JY _ _ _ Q] at B;by_cases X:j<off
  ·rw[if_pos X] at B;rw[ifp];exact G F B
  rw[if_neg X] at B;rw[ifn];by_cases Y:j<off+ds.length
  ·rw[if_pos Y] at B;rw[ifp];have e2:k*sz+j-(k*sz+off)=j-off:=(by omega);rw[e2];have I:j-off<(a.eval y).cells.size:=(by omega);refine⟨(a.eval y).cells.getD (j-off) undef,?_,(RC.ext S (g2 _ _ B)).mono (fun _ _=>rfl) fun _ M=>M.or'⟩;simp[Array.getD,I]
  rw[if_neg Y] at B;rw[ifn];exact G F B
 rename_i V;have a7:j<sz:=by
  have:=(Lb.1 w).1;rw[H _ _ p] at this;exact this
 by_cases q:E<k
 ·have:(E+1)*sz<=k*sz:=LS _ q;rw[Nj,Bo] at this;rw[ifp];exact G p w
 have:(k+1)*sz<=E*sz:=LS _ (by omega);rw[Nj,Bo] at this;rw[ifn,ifn];exact G p w
theorem bH {hp:Hp}{i:Nat}:∀(is:List Nat) (b:Hp),JU i is=true->CC (frz hp is) b i=b i
 |[],_,_=>rfl
 |j::r,b,h=>by
  unfold JU at h;split at h
  ·cases h
  rename_i d;unfold frz;split
  ·exact(bH r _ h).trans (Ai _ _ d)
  exact bH r _ h
theorem sH (e:HR g c)(G:Ad P tab){T:Nat}(H:o.op= .store T x y)(I:(tab T).ok=true){b:Bool}{es:List (List D)}{cs:List D}{is:List Nat}(J:Au g c (.pr i ver k off) (a.eval x))(hi:c.hp i=some (.rw es sz ver br false))
  (p:es[k]? =some cs) (B:Au g c vy (a.eval y)) (C:Dv vy=some xs) (E:DR c.hp xs=some (ds,b,is)) (K:xs.length=(tab T).size) (L:off+xs.length<=cs.length) (M:JU i is=true):
  CU P o a g c id .un (frz c.hp is++[(i,.rw (es.set k (DD off ds cs)) sz ver (br||b) false)]):=by
 have⟨d,N⟩:=CP.frz e c.kn (fun i h=>h) is;refine CU.after d ?_;have O:∀i∈is,Im g ⟨CC (frz c.hp is) c.hp,c.φ,c.w,c.kn⟩ b (c.φ i):=fun i hi=>by
  have⟨es,s,v,br,X,Q⟩:=U9 E i hi;exact Im.frozen e hi Q b
 have⟨Y,R⟩:=U5 C B;have S:∀(j:Nat) (x:AV),xs[j]? =some x->RA g c x ((a.eval y).cells.getD j undef):=fun j x U=>by
  have⟨z,w,V⟩:=R j x U;have F:=(LW.1 w).1
  have:(a.eval y).cells.getD j undef=z:=by
   rw[LD F] at w;simpa [Array.getD,F] using w
  rw[this];exact V
 have g:=X6 e rfl (Im g ⟨CC (frz c.hp is) c.hp,c.φ,c.w,c.kn⟩ b) (fun j=>(a.eval y).cells.getD j undef) E S (fun k p=>p.ext d) O;exact sG N G H I (J.ext d) ((bH is c.hp M).trans hi) p (B.ext d) C g K L
theorem bI {xs:List Value}(h:J7 cs=some xs)(p:vs.size=cs.length)(w:∀(j:Nat) (y:AV),cs[j]? =some y->∃z,vs[j]? =some z/\RA g c y z):vs=xs.toArray:=by
 have B:∀(cs:List AV) (xs:List Value),J7 cs=some xs->cs=xs.map AV.v:=by
  intro cs;induction cs with
  |nil=>intro xs h;simp[J7] at h;subst h;rfl
  |cons x r C=>
   intro xs h;cases x with
   |v x=>
    simp only[J7,La] at h;obtain⟨ys,b,rfl⟩:=h;rw[C ys b];rfl
   |_=>simp[J7] at h
 have e:=B cs xs h;subst e;apply IH;apply BN;intro j;by_cases d:j<xs.length
 ·have⟨z,b,E⟩:=w j (.v xs[j]) (by simp[d]);rw[NT,b];cases E;simp[d]
 rw[Nk (by simp at p⊢;omega),Nk (by simpa using d)]
theorem X9 {x:AV}(b:GK x=some cs)(h:Au g c x u):∃vs:Array Value,u= .agg vs/\vs.size=cs.length/\∀(j:Nat) (y:AV),cs[j]? =some y->∃z,vs[j]? =some z/\RA g c y z:=by
 unfold GK at b;split at b
 ·cases b;exact h
 ·cases b;obtain⟨vs,rfl,p,v⟩:=h;refine⟨vs,rfl,by rw[LE];exact p,fun j y e=> ?_⟩;rw[Lp,La] at e;obtain⟨d,w,rfl⟩:=e;have⟨z,B,C⟩:=v j d w;exact⟨z,B,C.toRA⟩
 cases b
theorem jE {x:AV}(h:TD x=true)(b:Au g c x u):∃p,u= .pointer (some p):=by
 unfold TD at h;split at h
 ·rw[b.pt.1];exact⟨_,rfl⟩
 ·rename_i i ver k off;cases(show RA g c (.pr i ver k off) u from b) with
  |pr _ _ _ _ _ _ d _=>exact d
 ·have:=b.dpt;cases this with |pt=>exact⟨_,rfl⟩
 cases h
theorem jF {T:TypeId}(hp:P.underlying T=some .bool)(s t:Bool)(w:World):(Op.equal T (.bool s) (.bool t)).run P w= .ok (s==t) w:=by
 have e:Op.equal T (.bool s) (.bool t)=Op.equalIn (9999+1) T (.bool s) (.bool t):=rfl;rw[e,Op.equalIn];simp[run_underlying hp]
theorem jG {T e:TypeId}(hp:P.underlying T=some (.pointer e))(p:Addr)(w:World):(Op.equal T (.pointer (some p)) (.pointer none)).run P w= .ok false w:=by
 have e:Op.equal T (.pointer (some p)) (.pointer none)=Op.equalIn (9999+1) T (.pointer (some p)) (.pointer none):=rfl;rw[e,Op.equalIn];simp[run_underlying hp]
theorem YA (w:World)(d:Nat)(t e:TypeId)(a:Option Addr)(n c n' b:Nat)(h:P.underlying t=some (.slice e)):
  (Op.equalIn (d+1) t (.slice a n c) (.slice none n' b)).run P w= .ok a.isNone w:=by
 cases a<;>simp[Op.equalIn,run_underlying h]
theorem sI {x:AV}(h:Xx x=true)(d:Au g c x u):∃p n m,u= .slice (some p) n m:=by
 unfold Xx at h;split at h
 ·have:=d.dsl;cases this with |sl es b o e sz v w B C E F=>exact⟨_,_,_,rfl⟩
 cases h
theorem sJ {x:AV}(h:Mm x=true)(b:Au g c x u):∃r,u= .map (some r):=by
 unfold Mm at h;split at h
 ·rename_i i;cases(show RA g c (.mo i) u from b) with
  |mo _ _ _=>exact⟨_,rfl⟩
 cases h
theorem bJ (e:HR g c){p:BinOp}{T:TypeId}(w:o.op= .binOp p T x y T'){z:Value}(e1:a.eval x=u)(e2:a.eval y=z)(d:z= .slice none 0 0\/z= .map none)(B:(Op.equal T u z).run P c.w= .ok false c.w){v:AV}(h:TE p=some v):CU P o a g c id v []:=by
 have C:∀cs,z≠ .agg cs:=fun cs=>by rcases d with rfl |rfl<;>simp
 have E:z≠ .nilIface:=by rcases d with rfl |rfl<;>simp
 have F:(binOp .eql T u z).run P c.w= .ok (.bool false) c.w:=by
  rcases d with rfl |rfl<;>cases u<;>simp[binOp,B]
 have G:(binOp .neq T u z).run P c.w= .ok (.bool true) c.w:=by
  rcases d with rfl |rfl<;>cases u<;>simp[binOp,B]
 unfold TE at h;split at h
 ·cases h;exact Mo e w (fun cs ds b=>C ds (e2▸b.2)) (fun b=>E (e2▸b.2)) (u:=.bool false) (by rw[e1,e2];exact F) (RA.v _ rfl)
 ·cases h;exact Mo e w (fun cs ds b=>C ds (e2▸b.2)) (fun b=>E (e2▸b.2)) (u:=.bool true) (by rw[e1,e2];exact G) (RA.v _ rfl)
 cases h
theorem Q8 (K:HR g c)(H:Ad P tab){F:BinOp}{T:TypeId}(E:o.op= .binOp F T x y T'){v:AV}(N:Au g c vx (a.eval x))(O:Au g c vy (a.eval y))(h:Pd tab F T vx vy=some v):CU P o a g c id v []:=by
 unfold Pd at h;split at h
 ·rename_i s t;have w:=N.v.1;have C:=O.v.1;have hp:(tab T).kind= .bool->P.underlying T=some .bool:=fun I=>by
   have⟨d,B,M⟩:=H.kind T (H.okOf (by rw[I];decide));rw[I] at M;subst M;exact B
  split at h
  ·rename_i I;cases h;exact Mo K E (by simp[w]) (by simp[w]) (u:=.bool (s==t)) (by rw[w,C];simp[binOp,jF (hp I)]) (RA.v _ rfl)
  ·rename_i I;cases h;exact Mo K E (by simp[w]) (by simp[w]) (u:=.bool !(s==t)) (by rw[w,C];simp[binOp,jF (hp I)]) (RA.v _ rfl)
  cases h
 ·rename_i s t _;simp only[La] at h;obtain⟨u,B,rfl⟩:=h;have⟨w,o1⟩:=N.v;have⟨C,_⟩:=O.v;have Q:∀(F:BinOp) (z:Value) (G:Bool),(F= .eql/\G=true)\/(F= .neq/\G=false)->o.op= .binOp F T x y T'->a.eval x=z->a.eval y=z->(z= .slice none 0 0\/z= .pointer none)->(Op.equal T z z).run P c.w= .ok true c.w->CU P o a g c id (.v (.bool G)) []:=by
   intro F z G R E w C S L;refine Mo K E (fun cs ds J=>by rcases S with rfl |rfl<;>(rw[w] at J;cases J.1)) (fun J=>by rcases S with rfl |rfl<;>(rw[w] at J;cases J.1)) (u:=.bool G) ?_ (RA.v _ rfl);rw[w,C];rcases R with⟨rfl,rfl⟩ |⟨rfl,rfl⟩<;>rcases S with rfl |rfl<;>simp[binOp,L]
  unfold JV at B;split at B
  ·split at B
   ·rename_i I;have L:(Op.equal T (.slice none 0 0) (.slice none 0 0)).run P c.w= .ok true c.w:=by
     have:=YA (P:=P) c.w 9999 T (tab T).elem none 0 0 0 0 (H.slice I);exact this
    split at B
    ·cases B;exact Q .eql _ true (.inl ⟨rfl,rfl⟩) E w C (.inl rfl) L
    ·cases B;exact Q .neq _ false (.inr ⟨rfl,rfl⟩) E w C (.inl rfl) L
    cases B
   cases B
  ·split at B
   ·rename_i I;have⟨d,U,X⟩:=H.kind T (H.okOf (by rw[I];decide));rw[I] at X;obtain⟨e,rfl⟩:=X;have L:(Op.equal T (.pointer none) (.pointer none)).run P c.w= .ok true c.w:=by
     have V:Op.equal T (.pointer none) (.pointer none)=Op.equalIn (9999+1) T (.pointer none) (.pointer none):=rfl;rw[V,Op.equalIn];simp[run_underlying U]
    split at B
    ·cases B;exact Q .eql _ true (.inl ⟨rfl,rfl⟩) E w C (.inr rfl) L
    ·cases B;exact Q .neq _ false (.inr ⟨rfl,rfl⟩) E w C (.inr rfl) L
    cases B
   cases B
  have⟨M,U⟩:=rg (P:=P) (T:=T) c.w B;refine Mo K E (fun cs ds J=> ?_) (fun J=> ?_) (u:=u) (by rw[w,C];exact M) (RA.v _ U)
  ·rw[w] at J;exact ri o1 _ J.1
  rw[w,C] at J;obtain⟨rfl,rfl⟩:=J;simp[Ge] at B
 ·rename_i Y _ _;split at h
  ·rename_i hp;have⟨p,w⟩:=jE hp.1 N;have C:=O.v.1;have⟨d,B,M⟩:=H.kind T (H.okOf (by rw[hp.2];decide));rw[hp.2] at M;obtain⟨e,rfl⟩:=M;split at h
   ·cases h;exact Mo K E (by simp[w]) (by simp[w]) (u:=.bool false) (by rw[w,C];simp[binOp,jG B]) (RA.v _ rfl)
   ·cases h;exact Mo K E (by simp[w]) (by simp[w]) (u:=.bool true) (by rw[w,C];simp[binOp,jG B]) (RA.v _ rfl)
   cases h
  cases h
 ·rename_i Y _ _;split at h
  ·rename_i hp;have⟨p,n,m,w⟩:=sI hp.1 N;exact bJ K E (e1:=w) (e2:=O.v.1) (.inl rfl) (YA (P:=P) c.w 9999 T (tab T).elem (some p) n m 0 0 (H.slice hp.2)) h
  cases h
 ·rename_i Y _ _;split at h
  ·rename_i hp;have⟨r,w⟩:=sJ hp.1 N;have⟨q,hq⟩:=NJ.1 hp.2;have⟨kt,f1,_⟩:=H.mkey T q hq;exact bJ K E (e1:=w) (e2:=O.v.1) (.inr rfl) (by
    have V:Op.equal T (.map (some r)) (.map none)=Op.equalIn (9999+1) T (.map (some r)) (.map none):=rfl;rw[V,Op.equalIn];simp[run_underlying f1]) h
  cases h
 split at h;rotate_left
 ·cases h
 rename_i Z cs ds aa ag ak;split at h
 ·rename_i xs ys ap aq;split at h
  ·rename_i b hb;have⟨vs,w,n1,q1⟩:=X9 ag N;have⟨us,C,n2,q2⟩:=X9 ak O;have w1:=bI ap n1 q1;have w2:=bI aq n2 q2;subst w1;subst w2;have L:=H.flat T Z aa xs ys b hb c.w;have ar:=H.guard T Z aa;have ab:∀(F:BinOp) (G:Bool),(F= .eql/\G=b)\/(F= .neq/\G= !b)->o.op= .binOp F T x y T'->CU P o a g c id (.v (.bool G)) []:=by
    intro F G R E;refine CU.pure K (u:=.bool G) ?_ (RA.v _ rfl);unfold execOp;have hg:(eqGuard F T x y (.agg xs.toArray) (.agg ys.toArray)).run P c.w= .ok () c.w:=by
     rcases R with⟨rfl,_⟩ |⟨rfl,_⟩<;>simp[eqGuard,program,Sem.run,ar]
    have av:(binOp F T (.agg xs.toArray) (.agg ys.toArray)).run P c.w= .ok (.bool G) c.w:=by
     rcases R with⟨rfl,rfl⟩ |⟨rfl,rfl⟩<;>simp[binOp,L]
    simp only[E,w,C,Sem.run_bind,hg,av,Result.andThen_ok,Sem.run_pure]
   split at h
   ·cases h;exact ab .eql b (.inl ⟨rfl,rfl⟩) E
   ·cases h;exact ab .neq (!b) (.inr ⟨rfl,rfl⟩) E
   cases h
  cases h
 cases h
theorem sK (b:HR g c)(d:Ad P tab){e:BinOp}{T:TypeId}(p:o.op= .binOp e T x y T'){v:AV}(w:Au g c vx (a.eval x))(B:Au g c vy (a.eval y))(h:Fz tab c.hp e T vx vy=some v):CU P o a g c id v []:=by
 unfold Fz at h;split at h
 ·split at h
  ·rename_i es sz ver br H hi;split at h
   ·rename_i F;obtain⟨rfl,G⟩:=F;have⟨_,_,I,J,C,_,_,E⟩:=Au.so w hi;exact bJ b p (e1:=E) (e2:=B.v.1) (.inl rfl) (YA (P:=P) c.w 9999 T (tab T).elem _ _ _ 0 0 (d.slice G)) h
   cases h
  cases h
 exact Q8 b d p w B h
end
end
section
section
variable {P:Program}{tab:Nat->TI}{o:Oper}{a:Act}{g:Gh}{c:Cf}{id:Nat}{ρ:Operand->AV}
theorem VC {w:World}{r:Nat}{es:Array MapEntry}{b:Nat}(d:w.heap[r]? =some (.map es b)):(getObj r).run P w= .ok (.map es b) w:=by
 simp[getObj,Sem.run,d]
theorem VD {w:World}{r:Nat}{es:Array MapEntry}{b:Nat}(ob:Obj)(d:w.heap[r]? =some (.map es b)):(setObj r ob).run P w= .ok () { w with heap:=w.heap.setIfInBounds r ob }:=by
 simp[setObj,Sem.run,d]
theorem sL {w:World}{r:Nat}{o o':Obj}(d:w.heap[r]? =some o):(w.heap.setIfInBounds r o')[r]? =some o'/\∀b,b≠r->(w.heap.setIfInBounds r o')[b]? =w.heap[b]? :=by
 have e:r<w.heap.size:=(LW.1 d).1;exact⟨by simp[e],fun b p=>by simp[Ne.symm p]⟩
theorem jH {x:AV}(h:GM x=true)(e:Au g c x u):Dk g c x u:=by
 cases x with
 |tu cs=>cases h
 |d x b=>cases x with |tu cs=>cases h |_=>exact e
 |_=>exact e
theorem VE {x:AV}(h:Es x=some kv)(b:Au g c x u):u=kv:=by
 unfold Es at h;split at h
 ·rename_i cs d;obtain⟨xs,e,rfl⟩:=La.1 h;obtain⟨vs,rfl,p,v⟩:=X9 d b;rw[bI e p v]
 split at h
 ·cases h;exact b.v.1
 cases h
theorem bK {q:Bool × List TK}{x:Value}:∀ {es:List (Value × AV)} {r:Option (Nat × AV)},D5 q x es=some r->J8 q x (es.map (·.1))=some (r.map (·.1))/\∀i v,r=some (i,v)->∃y,es[i]? =some (y,v)/\KN q x y=some true
 |[],r,h=>by cases h;exact⟨rfl,fun i v h=>by cases h⟩
 |(y,v)::es,r,h=>by
  unfold D5 at h;simp only[Li];unfold J8;split at h
  ·rename_i e;cases h;exact⟨rfl,fun i B h=>by cases h;exact⟨y,rfl,e⟩⟩
  ·rename_i e;split at h
   ·rename_i i w C;cases h;have⟨b,d⟩:=bK C;rw[b];exact⟨rfl,fun F B h=>by cases h;exact d i w rfl⟩
   rename_i o E;have⟨b,d⟩:=bK h;rw[b];cases r with
   |none=>exact⟨rfl,fun i v h=>by cases h⟩
   |some p=>exact absurd h (E p.1 p.2)
  cases h
theorem IR (v:HR g c)(b:Au g c (.mo i) (a.eval m))(hi:c.hp i=some (.mo es dl)):
  a.eval m= .map (some (c.φ i))/\c.kn i/\∃en k,c.w.heap[c.φ i]? =some (.map en k)/\en.size=es.length/\(dl=false->k=en.size/\∀(i:Nat) (e:MapEntry),en[i]? =some e->e.born=i)/\
   en.toList.map (·.key)=es.map (·.1)/\∀(i:Nat) (x:Value) (y:AV),es[i]? =some (x,y)->∃e,en[i]? =some e/\e.key=x/\Dk g c y e.val:=by
 generalize a.eval m=u at b;cases(show RA g c (.mo i) u from b) with
 |mo _ w H=>
  have⟨en,k,B,C,E,d⟩:=v.obj i _ hi;refine⟨rfl,w,en,k,B,C,E,?_,d⟩;apply BN;intro j;by_cases p:j<es.length
  ·have⟨e,F,G,_⟩:=d j es[j].1 es[j].2 (by simp[p]);simp[p,F,G]
  rw[Nk (by simp;omega),Nk (by simp;omega)]
theorem TL (ht:Ad P tab){T:Nat}(hq:(tab T).mkey=some q)(hw:Gg q kv=true)(hf:D5 q kv es=some r)
  (hen:en.toList.map (·.key)=es.map (·.1)) (hs:en.size=es.length):∃kt,P.underlying T=some (.map kt (tab T).elem)/\(tab (tab T).elem).ok=true/\(∀w e,(Instr.checkKey e 10000 kt kv).run P w= .ok () w)/\
   ((r=none/\∀w,(Instr.findKey kt kv en.toList).run P w= .ok none w)\/∃i v e y,r=some (i,v)/\es[i]? =some (y,v)/\y=kv/\en[i]? =some e/\e.key=kv/\Instr.sameBits 10000 kv kv=true/\∀w,(Instr.findKey kt kv en.toList).run P w= .ok (some (i,e.val)) w):=by
 obtain⟨kt,h1,h2,h3⟩:=ht.mkey T q hq;obtain⟨h4,h5,h6⟩:=h3 kv hw;obtain⟨h7,h8⟩:=bK hf;refine⟨kt,h1,h2,h4,?_⟩;have h9:=h6 en.toList (r.map (·.1)) (by rw[hen];exact h7);cases r with
 |none=>exact .inl ⟨rfl,h9⟩
 |some p=>
  obtain⟨i,v⟩:=p;obtain⟨y,e1,e2⟩:=h8 i v rfl;obtain⟨e3,e4⟩:=h5 y e2;have hlt:=(Lb.1 e1).1;have hlt2:i<en.size:=by omega
  have hk:en[i].key=y:=by
   have:=congrArg (·[i]?) hen;simp only[Lp,e1,LQ] at this;simpa [hlt2] using this
  refine .inr ⟨i,v,en[i],y,rfl,e1,e3,by simp,hk.trans e3,e4,fun w=> ?_⟩
  have:=h9 w;simpa [hlt2] using this
theorem sM (v:HR g c){T:Nat}(b:o.op= .makeMap T none)(w:¬c.kn id):CU P o a g c id (.mo id) [(id,.mo [] false)]:=by
 have B:(execOp a.eval o).run P c.w= .ok (.value (.map (some c.w.heap.size))) (c.w.alloc (.map #[] 0)):=by
  unfold execOp;simp[b,Instr.makeMap,newObj,Sem.run]
 refine X3 v w B (fun C E d p=>⟨#[],0,?_,rfl,fun _=>⟨rfl,fun i e h=>by simp at h⟩,fun i x y h=>by simp at h⟩) fun C E d p F G=> ?_
 ·rw[d,p];exact heap_alloc_new _ _
 rw[<-d];exact RA.mo id G fun o b=>by rw[F] at b;cases b;rfl
theorem YB (C:Ad P tab){T:Nat}(h:(tab T).ok=true)(b:JW (tab T)=some z)(c:Cf)(w:World):∃u,(zeroValue T).run P w= .ok u w/\Dk g c z u:=by
 have⟨i,u,E,_,_,F,d,_,G,H,I⟩:=C.info T h;refine⟨u,by simp[zeroValue,typeInfo,E,F],?_⟩;unfold JW at b;split at b
 ·rename_i e;cases b;obtain⟨vs,rfl⟩:=H e;simp only[Value.cells] at d;subst d;refine⟨_,rfl,by simp,fun j x p=> ?_⟩;rw[Lp,La] at p;obtain⟨y,v,rfl⟩:=p;exact⟨y,by simpa using v,RA.v y (G y (Lz v))⟩
 rename_i e;split at b
 ·rename_i J K;cases b;have B:=I (by simpa using e);rw[X0 B,K] at d
  have:u=J:=by simpa using d
  subst this;exact RA.v u B
 cases b
theorem Q9 {x:AV}{v:Value}{b:AV}(e:Dk g c x u)(p:Dk g c b v):Au g c (.tu [x,b]) (.tuple #[u,v]):=by
 refine⟨#[u,v],rfl,rfl,fun j y d=> ?_⟩
 match j with
 |0=>cases d;exact⟨u,rfl,e⟩
 |1=>cases d;exact⟨v,rfl,p⟩
 |j+2=>simp at d
theorem Dk.at_ {x:AV}(h:Dk g c x u):Au g c x u:=by
 cases x with
 |tu cs=>cases h
 |d x b=>cases x with
  |tu cs=>cases h with |d _ _ _ e=>cases e
  |_=>exact h
 |_=>exact h
theorem jI (b:HR g c)(p:Ad P tab){T:Nat}{k:Operand}{ok:Bool}(w:o.op= .lookup T x k ok)(M:(tab T).mkey=some q)(N:Es vk=some kv)(O:Au g c vk (a.eval k))(Q:JW (tab (tab T).elem)=some z)(R:Gg q kv=true)
     (S:Au g c (.mo i) (a.eval x)) (hi:c.hp i=some (.mo es dl))  (U:D5 q kv es=some r) {v:AV}
  (B:v=(match r with |none=>if ok then .tu [z,.v (.bool false)] else z |some (_,v)=>if ok then .tu [v,.v (.bool true)] else v)):CU P o a g c id v []:=by
 have⟨C,_,en,kk,V,X,_,Y,Z⟩:=IR b S hi;have E:=VE N O;have⟨kt,F,f2,G,f4⟩:=TL p M R U Y X;have H:=VC (P:=P) V;have⟨I,z1,J⟩:=YB (g:=g) p f2 Q c c.w;rcases f4 with⟨rfl,d⟩ |⟨j,v',e,y,rfl,g1,rfl,g2,g3,g4,d⟩
 ·refine CU.pure b (u:=if ok then .tuple #[I,.bool false] else I) ?_ ?_
  ·unfold execOp;simp only[w,C,E,Instr.lookup,Sem.run_bind,run_underlying F,Result.andThen_ok,H,Sem.run_pure,G,d,z1]
  subst B;cases ok
  ·exact J.at_
  exact Q9 J (RA.v _ rfl)
 have⟨e',K,k2,L⟩:=Z j _ v' g1;rw[g2] at K;cases K;refine CU.pure b (u:=if ok then .tuple #[e.val,.bool true] else e.val) ?_ ?_
 ·unfold execOp;simp only[w,C,E,Instr.lookup,Sem.run_bind,run_underlying F,Result.andThen_ok,H,Sem.run_pure,G,d]
 subst B;cases ok
 ·exact L.at_
 exact Q9 L (RA.v _ rfl)
theorem sN {b:Bool}{ag:Bool}{cs:List D}(p:u.cells.size=cs.length)(F:ag=true->∃vs,u= .agg vs)(G:ag=false->u.cells= #[u])(w:∀(j:Nat) (d:D) (x:Value),cs[j]? =some d->u.cells[j]? =some x->RC c.w (Im g c b) d x):Dk g c (Eb b (ag,cs)) u:=by
 cases ag with
 |true=>
  obtain⟨vs,rfl⟩:=F rfl;refine⟨vs,rfl,p,fun j d B=> ?_⟩;have C:j<vs.size:=by
   have:=(Lb.1 B).1
   have:vs.size=cs.length:=p;omega
  exact⟨vs[j],by simp[C],w j d _ B (by simp[Value.cells,C])⟩
 |false=>
  have E:=G rfl;rw[E] at p
  match cs,p with
  |[d],_=>
   have e:=w 0 d u rfl (by rw[E];rfl);show Dk g c (CE b d) u;cases d with |ag _=>cases e |tu _=>cases e |v x=>exact RC.toRA e |sl x=>exact RC.toRA e |pt x y=>exact RC.toRA e |mp x=>exact RC.toRA e
theorem jJ {I:Nat->Prop}{w:World}{x:Value}(h:x.oneCell'=true):RC w I (KO x) x:=by
 unfold KO;split
 ·exact .nl _ _
 exact .v _ h
theorem sO (J:Ad P tab){T:Nat}{b:Bool}(h:(tab T).ok=true)(B:JW (tab T)=some z)(c:Cf)(w:World):∃u,(zeroValue T).run P w= .ok u w/\Dk g c (Pe b (tab T)) u:=by
 have⟨u,K,E⟩:=YB (g:=g) J h B c w;refine⟨u,K,?_⟩;unfold JW at B;unfold Pe;split at B
 ·rename_i F;cases B;rw[F];obtain⟨vs,rfl,L,M⟩:=E;refine⟨vs,rfl,by simpa using L,fun j d H=> ?_⟩;rw[Lp,La] at H;obtain⟨y,N,rfl⟩:=H;have⟨U,O,Q⟩:=M j (.v y) (by simp[N]);cases Q with |v _ G=>exact⟨y,O,jJ G⟩
 rename_i F;have R:(tab T).agg=false:=by simpa using F
 rw[R];split at B
 ·rename_i y e;cases B;rw[e];obtain⟨rfl,G⟩:=Au.v (g:=g) (c:=c) (x:=y) (u:=u) E;split
  ·rename_i S;cases S;exact E
  have p:=RC.toRA (g:=g) (c:=c) (b:=b) (jJ (w:=c.w) (I:=Im g c b) G);show Dk g c (CE b (KO u)) u;cases C:KO u with |ag _=>exact absurd C (by unfold KO;split<;>simp) |tu _=>exact absurd C (by unfold KO;split<;>simp) |v x=>rw[C] at p;exact p |sl x=>rw[C] at p;exact p |pt x o=>rw[C] at p;exact p |mp x=>rw[C] at p;exact p
 cases B
theorem jK (G:HR g c)(H:Ad P tab){T:Nat}{k:Operand}{ok:Bool}(I:o.op= .lookup T x k ok)(hq:(tab T).mkey=some q)(aa:Es vk=some kv)(ab:Au g c vk (a.eval k))(hz:JW (tab (tab T).elem)=some z)(hw:Gg q kv=true)
  {es:List (Value × Bool × List D)} {b:Bool} (J:Au g c (.d (.mp es) b) (a.eval x))  (hf:D5 q kv (Fe b es)=some r) {v:AV}
  (K:v=(match r with |none=>if ok then .tu [Pe b (tab (tab T).elem),.v (.bool false)] else Pe b (tab (tab T).elem) |some (_,v)=>if ok then .tu [v,.v (.bool true)] else v)):CU P o a g c id v []:=by
 generalize L:a.eval x=u at J;cases(show RA g c (.d (.mp es) b) u from J) with
 |d _ _ _ hc=>
  cases hc with
  |mp _ rr en kk hI h1 h2 M h4=>
   have N:=VE aa ab;have hs:en.size=(Fe b es).length:=(by simp[Fe,h2]);have ag:en.toList.map (·.key)=(Fe b es).map (·.1):=by
    apply BN;intro j;by_cases hj:j<es.length
    ·have O:j<en.size:=(by omega);obtain⟨p,Q⟩:∃p,es[j]? =some p:=⟨_,Le hj⟩;have⟨w,B,C⟩:=p
     have:=(M j w B C en[j] Q (by simp[O])).1;simp[Fe,Q,O,this]
    rw[Nk (by simp;omega),Nk (by simp[Fe];omega)]
   have⟨kt,R,f2,S,f4⟩:=TL H hq hw hf ag hs;have U:=VC (P:=P) h1;have⟨V,z1,X⟩:=sO (g:=g) (b:=b) H f2 hz c c.w;rcases f4 with⟨rfl,E⟩ |⟨j,v',e,y,rfl,F,ey,Y,g3,g4,E⟩
   ·refine CU.pure G (u:=if ok then .tuple #[V,.bool false] else V) ?_ ?_
    ·unfold execOp;simp only[I,L,N,Instr.lookup,Sem.run_bind,run_underlying R,Result.andThen_ok,U,Sem.run_pure,S,E,z1]
    subst K;cases ok
    ·exact X.at_
    exact Q9 X (RA.v _ rfl)
   subst ey;have Z:Dk g c v' e.val:=by
    unfold Fe at F;rw[Lp,La] at F;have⟨⟨w,B,C⟩,g5,g6⟩:=F;simp only[LB] at g6;obtain⟨_,rfl⟩:=g6;have⟨_,q1,q2,q3⟩:=M j w B C e g5 Y;exact sN q1 q2 q3 fun i d u hd hu=>h4 j i w B C e d u g5 Y hd hu
   refine CU.pure G (u:=if ok then .tuple #[e.val,.bool true] else e.val) ?_ ?_
   ·unfold execOp;simp only[I,L,N,Instr.lookup,Sem.run_bind,run_underlying R,Result.andThen_ok,U,Sem.run_pure,S,E]
   subst K;cases ok
   ·exact Z.at_
   exact Q9 Z (RA.v _ rfl)
theorem sP (C:HR g c)(d:Ad P tab){T:Nat}{k:Operand}{ok:Bool}(E:o.op= .lookup T x k ok)(F:(tab T).mkey=some q)(G:Es vk=some kv)(H:Au g c vk (a.eval k))(I:JW (tab (tab T).elem)=some z)(J:Gg q kv=true)
  (K:Au g c (.v (.map none)) (a.eval x)) {v:AV} (L:v=if ok then .tu [z,.v (.bool false)] else z):CU P o a g c id v []:=by
 have M:=K.v.1;have N:=VE G H;have⟨O,Q,R,S,U⟩:=TL d F J (es:=[]) (r:=none) rfl (en:= #[]) rfl rfl;have⟨p,V,B⟩:=YB (g:=g) d R I c c.w;have b:∀w,(Instr.findKey O kv []).run P w= .ok none w:=by
  rcases U with⟨_,b⟩ |⟨j,X,e,y,h,_⟩
  ·exact b
  cases h
 refine CU.pure C (u:=if ok then .tuple #[p,.bool false] else p) ?_ ?_
 ·unfold execOp;simp only[E,M,N,Instr.lookup,Sem.run_bind,run_underlying Q,Result.andThen_ok,Sem.run_pure,S,b,V]
 subst L;cases ok
 ·exact B.at_
 exact Q9 B (RA.v _ rfl)
theorem VF (w:HR g c){d:List (Value × AV)}{B:Bool}{en':Array MapEntry}{k':Nat}(hi:c.hp i=some (.mo es dl))(F:c.w.heap[c.φ i]? =some (.map en k)){v:AV}
  (h:He P o a c.w u { c.w with heap:=c.w.heap.setIfInBounds (c.φ i) (.map en' k') }) (G:en'.size=d.length) (H:B=false->k'=en'.size/\∀(i:Nat) (e:MapEntry),en'[i]? =some e->e.born=i)
  (I:∀(j:Nat) (x:Value) (y:AV),d[j]? =some (x,y)->∃e,en'[j]? =some e/\e.key=x/\Dk g c y e.val) (J:∀C,CP c C->Au g C v u):CU P o a g c id v [(i,.mo d B)]:=by
 have⟨K,L⟩:=sL (o':=.map en' k') F;have E:∀b,b<c.w.heap.size->b≠c.φ i->(c.w.heap.setIfInBounds (c.φ i) (.map en' k'))[b]? =c.w.heap[b]? :=fun b _ M=>L b M;have p:CP c ⟨upd i (some (.mo d B)) c.hp,upd i (c.φ i) c.φ,{ c.w with heap:=c.w.heap.setIfInBounds (c.φ i) (.map en' k') },fun k=>c.kn k\/k=id⟩:=
  CP.chg w hi rfl rfl rfl rfl (by simp) E (.inl rfl) (fun _ h=>.inl h) (fun _=>⟨rfl,rfl⟩) fun _ _ _ _ _ e=>by cases e
 refine⟨_,u,_,h,p,HR.chg w hi p E (.inl rfl) (by simpa using(w.dom i _ hi).2.2) ?_,J _ p⟩;exact⟨en',k',by simp only[Ap];exact K,G,H,fun j x y N=>let ⟨e,e1,e2,e3⟩:=I j x y N;⟨e,e1,e2,e3.ext p⟩⟩
theorem bL {v:AV}{e:MapEntry}(d:en[j]? =some e)(G:en.size=es.length)(f:MapEntry->MapEntry)(p:f e={ e with key:=kv,val:=u })(w:Dk g c v u)
  (B:∀(i:Nat) (x:Value) (y:AV),es[i]? =some (x,y)->∃e,en[i]? =some e/\e.key=x/\Dk g c y e.val):
  ∀(i:Nat) (x:Value) (y:AV),(es.set j (kv,v))[i]? =some (x,y)->∃e,(en.modify j f)[i]? =some e/\e.key=x/\Dk g c y e.val:=by
 intro i x y h;have H:=(LW.1 d).1;rw[BO] at h;split at h
 ·rename_i b;subst b;rw[ifp] at h;cases h;refine⟨{ e with key:=kv,val:=u },?_,rfl,w⟩;rw[Bh];simp[d,p]
 rename_i b;have⟨C,E,F⟩:=B i x y h;exact⟨C,by rw[Bh,if_neg b];exact E,F⟩
theorem bM (f:MapEntry->MapEntry)(b:∀e,(f e).born=e.born)(h:k=en.size/\∀(i:Nat) (e:MapEntry),en[i]? =some e->e.born=i):k=(en.modify j f).size/\∀(i:Nat) (e:MapEntry),(en.modify j f)[i]? =some e->e.born=i:=by
 refine⟨by simpa using h.1,fun i e hi=> ?_⟩;rw[Bh] at hi;split at hi
 ·obtain⟨d,p,rfl⟩:=La.1 hi;rw[b];exact h.2 i d p
 exact h.2 i e hi
theorem jL {v:AV}{b:Nat}(d:en.size=es.length)(p:Dk g c v u)
  (w:∀(i:Nat) (x:Value) (y:AV),es[i]? =some (x,y)->∃e,en[i]? =some e/\e.key=x/\Dk g c y e.val):
  ∀(i:Nat) (x:Value) (y:AV),(es++[(kv,v)])[i]? =some (x,y)->∃e,(en.push ⟨kv,u,b⟩)[i]? =some e/\e.key=x/\Dk g c y e.val:=by
 intro i x y h;rw[Bw] at h;rw[Ic];split at h
 ·rw[ifn];exact w i x y h
 rename_i B
 have:i=es.length:=by
  have:=(Lb.1 h).1;simp at this;omega
 subst this;simp only[BS,Nf,Lf,LB] at h;obtain⟨rfl,rfl⟩:=h;rw[if_pos d.symm];exact⟨_,rfl,rfl,p⟩
theorem jM (h:k=en.size/\∀(i:Nat) (e:MapEntry),en[i]? =some e->e.born=i):k+1=(en.push ⟨kv,u,k⟩).size/\∀(i:Nat) (e:MapEntry),(en.push ⟨kv,u,k⟩)[i]? =some e->e.born=i:=by
 refine⟨by simp[h.1],fun i e hi=> ?_⟩;rw[Ic] at hi;split at hi
 ·rename_i b;cases hi;rw[b];exact h.1
 exact h.2 i e hi
theorem jN (h:Instr.sameBits 10000 kv kv=true)(w:World):(Instr.keyThatStays kv kv).run P w= .ok kv w:=by
 simp[Instr.keyThatStays,h]
theorem jO (C:HR g c)(L:Ad P tab){T:Nat}{k:Operand}(B:o.op= .mapUpdate T m k x\/o.op= .insert T m k x)(M:(tab T).mkey=some q)(Y:Es vk=some kv)(Z:Au g c vk (a.eval k))(N:Gg q kv=true)
  (hx:Au g c vx (a.eval x)) (aa:GM vx=true)  {O:List (Value × AV)}  (hm:Au g c (.mo i) (a.eval m)) (hi:c.hp i=some (.mo es dl)) (d:Ec q kv vx es=some O):CU P o a g c id .un [(i,.mo O dl)]:=by
 have⟨e1,_,en,E,p,b,Q,R,S⟩:=IR C hm hi;have e2:=VE Y Z;have U:=VC (P:=P) p;have V:=jH aa hx;have run:∀(v:Array MapEntry) (w:Nat),(Instr.mapUpdate T (.map (some (c.φ i))) kv (a.eval x)).run P c.w= .ok () { c.w with heap:=c.w.heap.setIfInBounds (c.φ i) (.map v w) }->He P o a c.w undef { c.w with heap:=c.w.heap.setIfInBounds (c.φ i) (.map v w) }:=by
  intro v w h;refine .inr ⟨?_,rfl⟩;unfold execOp;rcases B with B |B<;>simp only[B,e1,e2,Sem.run_bind,h,Result.andThen_ok,Sem.run_pure]
 unfold Ec at d;split at d
 ·rename_i j v0 F;cases d;have⟨kt,G,f2,H,I⟩:=TL L M N F R b;rcases I with⟨h,_⟩ |⟨j',v',e,y,h,g1,rfl,X,g3,g4,J⟩
  ·cases h
  cases h;refine VF (en':=en.modify j fun e=>{ e with key:=y,val:=a.eval x }) (k':=E) C hi p (run _ _ ?_) (by simp[b]) (fun K=>bM (fun e=>{ e with key:=y,val:=a.eval x }) (fun _=>rfl) (Q K)) (bL X b _ rfl V S) fun _ _=>trivial
  simp only[Instr.mapUpdate,Sem.run_bind,run_underlying G,Result.andThen_ok,U,H,J,X,LQ,Nw,g3,jN g4,VD _ p]
 ·rename_i F;cases d;have⟨kt,G,f2,H,I⟩:=TL L M N F R b;rcases I with⟨h,J⟩ |⟨j',v',e,y,h,_⟩
  ·refine VF (en':=en.push ⟨kv,a.eval x,E⟩) (k':=E+1) C hi p (run _ _ ?_) (by simp[b]) (fun K=>jM (Q K)) (jL b V S) fun _ _=>trivial
   simp only[Instr.mapUpdate,Sem.run_bind,run_underlying G,Result.andThen_ok,U,H,J,VD _ p]
  cases h
 cases d
theorem jP (C:HR g c)(J:Ad P tab){T:Nat}{k:Operand}(K:o.op= .mapEntry T m k)(X:(tab T).mkey=some q)(Y:Es vk=some kv)(Z:Au g c vk (a.eval k))(hz:JW (tab (tab T).elem)=some z)(hw:Gg q kv=true)
    (hm:Au g c (.mo i) (a.eval m)) (hi:c.hp i=some (.mo es false))  (hf:D5 q kv es=some r) {v:AV} 
  (p:(match r with |none=>(AV.tu [z,.v (.int .i64 es.length)],[(i,AO.mo (es++[(kv,z)]) false)]) |some (j,v)=>(.tu [v,.v (.int .i64 j)],[(i,.mo (es.set j (kv,v)) false)]))=(v,δ)):CU P o a g c id v δ:=by
 have⟨L,_,en,w,d,b,h3,h4,E⟩:=IR C hm hi;have M:=VE Y Z;have N:=VC (P:=P) d;have⟨F,G⟩:=h3 rfl;have⟨kt,O,f2,Q,f4⟩:=TL J X hw hf h4 b;have⟨R,z1,S⟩:=YB (g:=g) J f2 hz c c.w;rcases f4 with⟨rfl,H⟩ |⟨j,v',e,y,rfl,g1,rfl,B,g3,g4,H⟩
 ·simp only[LB] at p;obtain⟨rfl,rfl⟩:=p;refine VF (en':=en.push ⟨kv,R,w⟩) (k':=w+1) (u:=.tuple #[R,goInt w]) C hi d (.inl ?_) (by simp[b]) (fun _=>jM ⟨F,G⟩) (jL b S E) fun c' I=>Q9 (S.ext I) (by rw[F,b];exact RA.v _ rfl);unfold execOp;simp only[K,L,M,Instr.mapEntry,Sem.run_bind,run_underlying O,Result.andThen_ok,N,Q,H,z1,VD _ d,Sem.run_pure]
 simp only[LB] at p;obtain⟨rfl,rfl⟩:=p;have⟨e',U,k2,V⟩:=E j _ v' g1;rw[B] at U;cases U;have aa:=G j e B;refine VF (en':=en.modify j fun e=>{ e with key:=y }) (k':=w) (u:=.tuple #[e.val,goInt e.born]) C hi d (.inl ?_) (by simp[b]) (fun _=>bM (fun e=>{ e with key:=y }) (fun _=>rfl) ⟨F,G⟩) (bL (u:=e.val) B b _ rfl V E) fun c' I=>Q9 (V.ext I) (by rw[aa];exact RA.v _ rfl);unfold execOp;simp only[K,L,M,Instr.mapEntry,Sem.run_bind,run_underlying O,Result.andThen_ok,N,Q,H,B,LQ,Nw,g3,jN g4,VD _ d,Sem.run_pure]
theorem sQ (p:HR g c){T:Nat}{v:Operand}(F:o.op= .entryStore T m v x)(G:Au g c vx (a.eval x))(H:GM vx=true){vs:AV}(I:EI vs=some j)(J:Au g c vs (a.eval v))
    (K:Au g c (.mo i) (a.eval m)) (hi:c.hp i=some (.mo es false))  {L:AV} (M:es[j]? =some (kv,L)):CU P o a g c id .un [(i,.mo (es.set j (kv,vx)) false)]:=by
 have⟨N,_,en,O,b,w,Q,Y,B⟩:=IR p K hi;have R:=VC (P:=P) b;have⟨S,d⟩:=Q rfl;have⟨ik,U⟩:=J9 I J;have⟨e,C,V,k3⟩:=B j _ _ M;have E:=(LW.1 C).1;have X:en.findIdx? (fun e=>(e.born:Int)==(j:Int))=some j:=by
  rw[Array.findIdx?_eq_some_iff_getElem];refine⟨E,?_,fun i hi=> ?_⟩
  ·have:=d j en[j] (by simp[E]);simp[this]
  have:=d i en[i] (by simp);simp[this];omega
 refine VF (en':=en.modify j fun e=>{ e with val:=a.eval x }) (k':=O) p hi b (.inr ⟨?_,rfl⟩) (by simp[w]) (fun _=>bM (fun e=>{ e with val:=a.eval x }) (fun _=>rfl) ⟨S,d⟩) (bL (u:=a.eval x) C w _ (by rw[<-V]) (jH H G) B) fun _ _=>trivial;unfold execOp
 simp only[F,N,U,Instr.entryStore,Sem.run_bind,Result.andThen_ok,R,asInt,asIntOf,Sem.run_pure,X,VD _ b]
end
end
section
section
variable {P:Program}{tab:Nat->TI}{o:Oper}{a:Act}{g:Gh}{c:Cf}{id:Nat}{ρ:Operand->AV}
theorem bN (b:Ad P tab){T:Nat}(h:(tab T).ok=true):((tab T).zero.map D.v).length=(tab T).size:=by
 have⟨i,z,_,_,_,_,_,d,_⟩:=b.info T h;simpa using d
theorem sR (H:HR g c)(e:Ad P tab){T:Nat}{l k:Operand}(I:o.op= .makeSlice T l k)(J:(tab T).kind= .slice)(v:(tab (tab T).elem).ok=true)(K:0<(tab (tab T).elem).size)(aq:(tab (tab T).elem).bytes<=32768)
  {m:Nat} {w:AV} (L:EI w=some n) (M:EI vk=some m) (N:Au g c w (a.eval l)) (O:Au g c vk (a.eval k)) (Q:n<=m) (R:m<=4294967296) (S:¬c.kn id):
  CU P o a g c id (.so id 0 0 n) [(id,.rw (List.replicate n ((tab (tab T).elem).zero.map D.v)) (tab (tab T).elem).size 0 false false)]:=by
 have⟨U,V⟩:=J9 L N;have⟨X,Y⟩:=J9 M O;have⟨i,z,Z,B,h3,aa,E,h6,h7,h8,h9⟩:=e.info _ v;have hb:(i.bytes:Int)*(m:Int)<=281474976710656:=by
  have:i.bytes*m<=32768*4294967296:=Bm (by omega) R;have h:((i.bytes*m:Nat):Int)<=281474976710656:=by omega
  rwa [ON] at h
 have F:=run_make (P:=P) c.w T (tab T).elem i z (e.slice J) Z aa U X n m (by omega) (by omega) hb (by omega);simp only[Lk] at F;have ab:=bN e v;refine bG (cells:=madeCells z.cells (m*i.size)) (T:=(tab T).elem) H (w0:=c.w) rfl rfl rfl rfl S K (fun i cs hi=> ?_) (C:=m) (by rw[size_madeCells,B]) (by simp) Q (by simp only[maxLen];omega) (fun p j cs d hi G=> ?_) ?_
 ·rw[Ba] at hi;split at hi
  ·cases hi;exact ab
  cases hi
 ·rw[Ba] at hi;split at hi
  ·rename_i ar;cases hi;rw[Lp,La] at G;obtain⟨u,b,rfl⟩:=G;have av:=(Lb.1 b).1;refine⟨u,?_,RC.v u (h7 u (Lz b))⟩;have hs:p*(tab (tab T).elem).size+j<m*i.size:=by
    rw[B]
    have:(p+1)*(tab (tab T).elem).size<=m*(tab (tab T).elem).size:=LS _ (by omega);rw[Nj,Bo] at this;omega
   unfold madeCells;rw[Oa,Oo,if_pos hs];simp only[LQ,Lf];have ag:(p*(tab (tab T).elem).size+j)%z.cells.size=j:=by
    rw[E,Ng,h6,BT,BX];exact BV (by omega)
   rw[ag,E];rw[Lb] at b;have⟨ak,ap⟩:=b;simp[ak,ap]
  cases hi
 unfold execOp;simp only[I,V,Y,Sem.run_bind,F,Result.andThen_ok,Sem.run_pure]
theorem sS {b:Array Value}{m:Nat}(d:b.size=sz)(hi:i<m)(p:j<sz):(Builtin.zeroCells b m)[i*sz+j]? =b[j]? :=by
 unfold Builtin.zeroCells;have v:i*sz+j<m*b.size:=by
  rw[d]
  have:(i+1)*sz<=m*sz:=LS _ (by omega);rw[Nj,Bo] at this;omega
 rw[Oa,Oo,if_pos v];have w:(i*sz+j)%b.size=j:=by
  rw[d,BT,BX];exact BV p
 have e:j<b.size:=by omega
 simp only[LQ,w,LD e];rw[getElem!_pos b j e]
theorem sT (K:HR g c)(b:Ad P tab){T T':Nat}(L:o.op= .call { callee:=.builtin .append,args:= #[x,y],argTypes:= #[T,T'] })(M:Au g c vx (a.eval x))(N:Au g c vy (a.eval y))(O:¬c.kn id){v:AV}(h:G9 tab id T T' vx (EI vy)=some (v,δ)):CU P o a g c id v δ:=by
 unfold G9 at h;split at h;rotate_left
 ·cases h
 rename_i B n E e;split at h;rotate_left
 ·cases h
 rename_i Q;have⟨R,F,S,a0,U,V⟩:=Q;cases h;have⟨X,Y⟩:=J9 e N;have Z:=M.v.1;have⟨i,z,aa,h2,h3,h4,G,h6,h7,h8,h9⟩:=b.info _ F;have hb:n*i.bytes<=281474976710656:=by
  have:n*i.bytes<=4294967296*32768:=Bm V (by omega);omega
 have ab:P.underlying T'=some (.int B):=by
  have⟨d,q1,H⟩:=b.kind T' (b.okOf (by rw[E];simp));rw[E] at H;subst H;exact q1
 have ag:=Lib.run_append_nil_zeros (P:=P) c.w T T' o.type (tab T).elem i z X B (b.slice R) ab aa h4 n U (by omega) (by omega) hb;have ak:=grownCap_ge c.w n 0 (tab T).elem;have ap:=grownCap_le_maxLen c.w n 0 (tab T).elem (by simp only[maxLen];omega);have aq:=bN b F;have I:z.cells.size=(tab (tab T).elem).size:=by rw[G];simpa using h6
 refine bG (cells:=Builtin.zeroCells z.cells n++Builtin.zeroCells z.cells (grownCap c.w n 0 (tab T).elem-n)) (T:=(tab T).elem) K (w0:=c.w.drew) rfl rfl rfl rfl O S (fun i cs hi=> ?_) (C:=grownCap c.w n 0 (tab T).elem) ?_ (by simp) ak ap (fun i' j cs d hi J=> ?_) ?_
 ·rw[Ba] at hi;split at hi
  ·cases hi;exact aq
  cases hi
 ·rw[Oe,size_zeroCells,size_zeroCells,I,<-Nj];congr 1;omega
 ·rw[Ba] at hi;split at hi
  ·rename_i ar;cases hi;rw[Lp,La] at J;obtain⟨u,p,rfl⟩:=J;have av:j<(tab (tab T).elem).size:=(by have:=(Lb.1 p).1;omega);refine⟨u,?_,RC.v u (h7 u (Lz p))⟩;have w:=sS (m:=n) I ar av;have aE:z.cells[j]? =some u:=(by rw[G];simpa using p);rw[aE] at w;rw[NN (LW.1 w).1];exact w
  cases hi
 unfold execOp;simp only[L,resolve,invoke,builtin,List.map_toArray,Li,Lw,Z,Y,Sem.run_bind,ag,Result.andThen_ok,Sem.run_pure]
theorem RB (b:HR g c){d:Array TypeId}(e:o.op= .call { callee:=.builtin .min,args:= #[x,y],argTypes:=d }){k k':IntKind}{p q:Int}(v:Au g c (.v (.int k p)) (a.eval x))(w:Au g c (.v (.int k' q)) (a.eval y)):
  CU P o a g c id (.v (.int k (if q<p then q else p))) []:=by
 refine CU.pure b (u:=.int k (if q<p then q else p)) ?_ (RA.v _ rfl);unfold execOp;simp[e,resolve,invoke,builtin,v.v.1,w.v.1,Builtin.min_,Builtin.min2]
theorem sU (G:HR g c)(b:Ad P tab){T:Nat}{i:Operand}(H:o.op= .index T x i){I:AV}(S:Au g c vx (a.eval x))(hi:Au g c I (a.eval i)){v:AV}(h:IP tab T (GK vx) (EI I)=some (v,δ)):CU P o a g c id v δ:=by
 unfold IP at h;split at h
 ·rename_i aa cs n J U V;have⟨d,K,L⟩:=b.kind T (b.okOf (by rw[J];simp));rw[J] at L;obtain⟨rfl,e,_⟩:=L;have⟨vs,M,h3,N⟩:=X9 U S;have⟨k,O⟩:=J9 V hi;split at h
  ·rename_i Q;split at h
   ·rename_i p;have⟨X,w,B⟩:=La.1 h;cases B;have⟨h7,Y,h9⟩:=Xz w;refine CU.pure G (u:=.agg (vs.extract (n*(tab (tab T).elem).size) (n*(tab (tab T).elem).size+(tab (tab T).elem).size))) ?_ ⟨_,rfl,by simp;omega,fun j y R=> ?_⟩
    ·unfold execOp;simp[H,M,O,Instr.index,asIntOf,run_underlying K,Q,b.sizeOf e,part,b.isAgg e,p]
    rw[Y] at R;have⟨g1,Z⟩:=ME _ _ _ _ _ R;have⟨C,E,F⟩:=N _ _ Z;refine⟨C,?_,F⟩;rw[OR,ifp];exact E
   rename_i p;have⟨X,w,B⟩:=La.1 h;cases B;have⟨C,E,F⟩:=N _ _ w;refine CU.pure G (u:=C) ?_ F.toAt;unfold execOp;simp[H,M,O,Instr.index,asIntOf,run_underlying K,Q,b.sizeOf e,part,b.isAgg e,p,E]
  cases h
 cases h
theorem jQ {T:TypeId}(b:o.op= .call { callee:=.builtin .clear,args:= #[x],argTypes:= #[T] }){w:World}(h:∀d,(Builtin.clear_ #[T] d #[a.eval x]).run P w= .ok u w'):(execOp a.eval o).run P w= .ok (.value u) w':=by
 unfold execOp;simp[b,resolve,invoke,builtin,h]
theorem jR {b:Cf}:Au g b (.tu []) (.tuple #[]):=⟨#[],rfl,rfl,fun j x h=>by simp at h⟩
theorem jS (b:HR g c)(d:Ad P tab){T:Nat}(e:o.op= .call { callee:=.builtin .clear,args:= #[x],argTypes:= #[T] })(p:(tab T).kind= .slice){C:Nat}(v:a.eval x= .slice A 0 C):CU P o a g c id (.tu []) []:=by
 refine CU.pure b (u:=.tuple #[]) (jQ e fun w=> ?_) jR;rw[v];cases A<;>simp[Builtin.clear_,run_underlying (d.slice p)]
theorem sV (B:HR g c){b:AO}{C cur':Array Value}{T:TypeId}(hi:c.hp i=some ao)(M:ao.fz=false)(I:c.w.heap[c.φ i]? =some (.cells C T (0,0)))(N:cur'.size=C.size)
  (h:(execOp a.eval o).run P c.w= .ok (.value (.tuple #[])) (c.w.setRow (c.φ i) cur')) (O:ao.isRw=false->b.isRw=false)
  (Q:∀p sz d E F,b= .rw p sz d E F->∃es v br G,ao= .rw es sz v br G/\v<=d/\(v=d->es.length=p.length))
  (R:∀w,CP c w->w.φ i=c.φ i->w.w.heap[c.φ i]? =some (.cells cur' T (0,0))->OK g w i b):CU P o a g c id (.tu []) [(i,b)]:=by
 have J:(c.w.setRow (c.φ i) cur').heap[c.φ i]? =some (.cells cur' T (0,0)):=setRow_heap c.w (c.φ i) C _ T _ I;have K:∀k,k<c.w.heap.size->k≠c.φ i->(c.w.setRow (c.φ i) cur').heap[k]? =c.w.heap[k]? :=fun k _ S=>setRow_other c.w (c.φ i) k _ S;have H:CP c ⟨upd i (some b) c.hp,upd i (c.φ i) c.φ,c.w.setRow (c.φ i) cur',fun k=>c.kn k\/k=id⟩:=by
  refine CP.chg B hi M rfl rfl rfl (by simp) K (.inl rfl) (fun _ h=>.inl h) (fun h=>⟨rfl,O h⟩) fun p sz d E F e=> ?_;have⟨es,v,br,G,U,V,X⟩:=Q p sz d E F e;refine⟨es,v,br,G,U,V,fun e=>⟨rfl,X e,fun Y T0 L=> ?_⟩⟩;rw[I] at L;cases L;exact⟨cur',J,N⟩
 refine⟨_,.tuple #[],_,.val h,H,HR.chg B hi H K (.inl rfl) (by simpa using(B.dom i _ hi).2.2) (R _ H (Ap _ _ _) J),jR⟩
theorem sW (X:HR g c)(Q:Ad P tab){T:Nat}(ho:o.op= .call { callee:=.builtin .clear,args:= #[x],argTypes:= #[T] })(hk:(tab T).kind= .slice)(Y:(tab (tab T).elem).ok=true)(a7:0<(tab (tab T).elem).size)
    {es:List (List D)} (hx:Au g c (.so i ver off n) (a.eval x)) (hi:c.hp i=some (.rw es sz ver br false)) (B:sz=(tab (tab T).elem).size) (hn:0<n) (a8:off+n<=es.length):
  CU P o a g c id (.tu []) [(i,.rw (es.take off++List.replicate n ((tab (tab T).elem).zero.map D.v)++es.drop (off+n)) sz ver br false)]:=by
 have⟨_,_,J,T',C,R,h4,e1⟩:=Au.so hx hi;have⟨Z,K,T2,vs,C2,aa,g2,g3,g4,g5⟩:=X.obj i _ hi;rw[R] at aa;cases aa;have⟨ti,z,k1,k2,k3,k4,L,M,k7,k8,k9⟩:=Q.info _ Y;have ab:=bN Q Y;let E:List Value:=(Builtin.zeroCells z.cells n).toList;have F:E.length=n*sz:=by
  show(Builtin.zeroCells z.cells n).toList.length=_;rw[NR,size_zeroCells,L,Ng,M,B]
 have N:off*sz+n*sz<=J.size:=by
  rw[g2,<-Nj];exact LS _ (by omega)
 have ag:∀p j,p<n->j<sz->∃v,E[p*sz+j]? =some v/\(tab (tab T).elem).zero[j]? =some v:=by
  intro p j b w;have ak:j<(tab (tab T).elem).zero.length:=by rw[M,<-B];exact w
  refine⟨(tab (tab T).elem).zero[j],?_,by simp[ak]⟩;have G:p*sz+j<n*sz:=by
   have:(p+1)*sz<=n*sz:=LS _ (by omega);rw[Nj,Bo] at this;omega
  show(Builtin.zeroCells z.cells n).toList[p*sz+j]? =_;have aE:(p*sz+j)%z.cells.size=j:=by
   rw[L,Ng,M,<-B,BT,BX];exact BV w
  have a0:n*z.cells.size=n*sz:=by rw[L,Ng,M,B]
  simp only[Builtin.zeroCells];rw[NT,Oa,Oo,if_pos (by rw[a0];exact G)];simp only[LQ,Lf];rw[aE,L];simp[ak]
 have a1:∀v∈E,v.oneCell'=true:=by
  intro v hv;have⟨t,ap⟩:=N3.1 hv;have G:=(Lb.1 ap).1;rw[F] at G;have q:=Nat.div_add_mod t sz;rw[BC] at q;have hd:t / sz<n:=O4 (by rw[BC];exact G);have⟨v',H,O⟩:=ag (t / sz) (t%sz) hd (On _ Z);rw[q] at H;rw[ap] at H;cases H;exact k7 _ (Lz O)
 have aq:=run_storeCells_at P (c.φ i) (off*sz) T' E 0 J c.w R (by simpa [F] using N) a1;simp only[NW] at aq;obtain⟨m,rfl⟩:∃m,n=m+1:=⟨n-1,by omega⟩;have ar:(es.take off++List.replicate (m+1) ((tab (tab T).elem).zero.map D.v)++es.drop (off+(m+1))).length=es.length:=by simp;omega
 refine sV (cur':=(DD (off*sz) E J.toList).toArray) X hi rfl R (by rw[Ng,JX _ _ _ (by rw[F];simpa using N)];simp) (jQ ho fun ty=> ?_) (fun h=>by cases h) (fun a9 ba v' bb bd e=>by cases e;exact⟨es,ver,br,false,rfl,Lc _,fun _=>ar.symm⟩) fun c' a2 a3 hw=>
  ⟨Z,fun p cs b=> ?_,T',_,C2,by rw[a3];exact hw,by rw[Ng,JX _ _ _ (by rw[F];simpa using N)];simpa using g2,by rw[ar];exact g3,g4,fun p j cs d b w=> ?_⟩
 ·rw[e1];simp only[Builtin.clear_,Nx,Nf,Sem.run_bind,run_underlying (Q.slice hk),Result.andThen_ok];have a4:(storeCells ⟨c.φ i,off*sz,none⟩ (Builtin.zeroCells z.cells (m+1)).toList).run P c.w=_:=aq;simp[zeroValue,typeInfo,k1,k4,DD,a4,E]
 ·rw[Bw,Bw] at b;split at b
  ·split at b
   ·rw[Nq] at b;split at b
    ·exact K _ _ b
    cases b
   rw[Ba] at b;split at b
   ·cases b;rw[ab,B]
   cases b
  rw[NV] at b;exact K _ _ b
 rw[Nx,JY _ _ _ (by rw[F];simpa using N)];rw[F];have S:∀ {I:List D},I.length=sz->I[j]? =some d->j<sz:=fun h1 h2=>by have:=(Lb.1 h2).1;omega
 have av:∀ {i0:Nat} {I:List D},es[i0]? =some I->I[j]? =some d->∃u,J.toList[i0*sz+j]? =some u/\RC c'.w (Im g c' br) d u:=fun h6 h7=>by
  have⟨u,h8,h9⟩:=g5 _ j _ d h6 h7;exact⟨u,by simpa using h8,RC.ext a2 h9⟩
 rw[Bw,Bw] at b;simp only[Ld,LC,NL] at b;rw[B8 (by omega)] at b;split at b
 ·rename_i G;split at b
  ·rename_i a5;rw[Nq,if_pos a5] at b;have U:=S (K _ _ b) w
   have:(p+1)*sz<=off*sz:=LS _ (by omega);rw[Nj,Bo] at this;rw[ifp];exact av b w
  rename_i a6;rw[Ba,ifp] at b;cases b;have U:=S (by rw[ab,B]) w;have⟨v,H,O⟩:=ag (p-off) j (by omega) U;have be:p*sz=off*sz+(p-off)*sz:=by rw[<-Nj];congr 1;omega
  have V:(p-off+1)*sz<=(m+1)*sz:=LS _ (by omega);rw[Nj,Bo] at V;rw[ifn,ifp,show p*sz+j-off*sz=(p-off)*sz+j by omega];rw[Lp,O] at w;cases w;exact⟨v,H,RC.v v (k7 v (Lz O))⟩
 rename_i a6;rw[NV] at b;have e0:off+(m+1)+(p-(off+(m+1)))=p:=by omega
 rw[e0] at b;have U:=S (K _ _ b) w;have V:(off+(m+1))*sz<=p*sz:=LS _ (by omega);rw[Nj] at V;rw[ifn,ifn];exact av b w
end
end
section
section
variable {P:Program}{tab:Nat->TI}{o:Oper}{a:Act}{g:Gh}{c:Cf}{id:Nat}{ρ:Operand->AV}
theorem jT {es:List (List D)}{b:Bool}(h:RC c.w (Im g c b) (.sl es) u):∃A d,u= .slice A es.length d/\es.length<=d:=by
 generalize e:D.sl es=B at h;cases h with
 |nl A d=>cases e;exact⟨A,d,rfl,Lg _⟩
 |sl C E p d sz F G w H I J=>cases e;exact⟨_,_,rfl,w⟩
 |v _ _=>cases e
 |pt _ _ _ _ _ _ _ _=>cases e
 |mp _ _ _ _ _ _ _ _ _=>cases e
theorem sX {es:List (List D)}{b:Bool}{B:Nat}(F:RC c.w (Im g c b) (.sl es) (.slice A es.length B))(M:EX sz es=true)(V:l<=h)(N:h<=es.length):
  RC c.w (Im g c b) (.sl ((es.take h).drop l)) (.slice (if B=l then A else A.map (·.add (l*sz))) (h-l) (B-l)):=by
 have C:((es.take h).drop l).length=h-l:=by rw[Nv,LC];omega
 by_cases I:(es.take h).drop l= []
 ·rw[I] at C⊢;simp only[Lu] at C;rw[<-C];exact .nl _ _
 have X:0<h-l:=by rw[<-C];exact NA.2 I
 generalize E:D.sl es=Y at F;generalize J:Value.slice A es.length B=Z at F;cases F with
 |nl A B=>cases E;simp at N;omega
 |sl aa O p ab w Q R hc K S T=>
  cases E;simp only[Value.slice.injEq] at J;obtain⟨rfl,_,rfl⟩:=J;have U:w=sz:=by
   have hp:0<es.length:=(by omega);have L:es[0]? =some es[0]:=Le hp;rw[<-K 0 _ L,TJ M L]
  subst U;have G:∀(i:Nat) (cs:List D),((es.take h).drop l)[i]? =some cs->es[l+i]? =some cs:=fun i cs hi=>by
   rw[NV,Nq] at hi;split at hi
   ·exact hi
   cases hi
  rw[ifn];simp only[LQ,IQ];rw[<-C];refine .sl _ O (p+l*w) _ w (fun i j=>Q (l+i) j) R (by omega) (fun i cs hi=>K _ _ (G i cs hi)) (fun i j cs d hi H=> ?_) fun i j cs d hi H=>T _ _ _ _ (G i cs hi) H
  have:=S _ _ _ _ (G i cs hi) H;have e:p+(l+i)*w+j=p+l*w+i*w+j:=by rw[Nj];omega
  rw[<-e];exact this
 |v _ _=>cases E
 |pt _ _ _ _ _ _ _ _=>cases E
 |mp _ _ _ _ _ _ _ _ _=>cases E
theorem RD {es:List (List D)}{b:Bool}{cs:List D}(E:RC c.w (Im g c b) (.sl es) u)(B:es[n]? =some cs)(H:cs.length=sz):∃e p F,u= .slice (some ⟨e,p,none⟩) es.length F/\RC c.w (Im g c b) (.pt cs 0) (.pointer (some ⟨e,p+n*sz,none⟩)):=by
 generalize w:D.sl es=Q at E;cases E with
 |nl A F=>cases w;simp at B
 |sl R e p I G J K S L M N=>
  cases w;have O:G=sz:=by rw[<-L n cs B,H]
  subst O;exact⟨e,p,I,rfl,RC.pt cs 0 e (p+n*G) (J n) K (fun j d C=>M n j cs d B C) fun j d C=>N n j cs d B C⟩
 |v _ _=>cases w
 |pt _ _ _ _ _ _ _ _=>cases w
 |mp _ _ _ _ _ _ _ _ _=>cases w
theorem bO {cs:List D}{b:Bool}(h:RC c.w (Im g c b) (.pt cs off) u):∃e o,u= .pointer (some ⟨e,o+off,none⟩)/\(∀v,RC c.w (Im g c b) (.pt cs v) (.pointer (some ⟨e,o+v,none⟩)))/\
  ∃p:Nat->Value,(∀(j:Nat) (d:D),cs[j]? =some d->c.w.cell? ⟨e,o+j,none⟩=some (p j))/\∀(j:Nat) (d:D),cs[j]? =some d->RC c.w (Im g c b) d (p j):=by
 cases h with
 |pt _ _ e o p C w B=>exact⟨e,o,rfl,fun v=>.pt cs v e o p C w B,p,w,B⟩
theorem sY {x v:AV}(h:Mn k x=some v)(d:Au g c x u):∃ad,u= .pointer (some ad)/\Au g c v (.pointer (some (ad.add k))):=by
 unfold Mn at h;split at h
 ·rename_i i p;cases h;have⟨w,B,E⟩:=d.pt;exact⟨_,w,by rw[IQ];exact RA.pt i (p+k) B E⟩
 ·rename_i cs p b;cases h;have⟨J,q,C,hp,_⟩:=bO d.dpt;exact⟨_,C,by rw[IQ];exact RA.d _ _ _ (by rw[Ny];exact hp (p+k))⟩
 ·rename_i i ver r p;cases h;cases(show RA g c (.pr i ver r p) u from d) with
  |pr _ _ _ _ _ F hp G=>
   have⟨ad,C⟩:=hp;subst C;refine⟨ad,rfl,RA.pr i ver r (p+k) _ F ⟨_,rfl⟩ fun es sz H br I hi=> ?_⟩;have⟨w,B⟩:=G es sz H br I hi;refine⟨w,fun e=> ?_⟩
   have:=B e;simp only[Value.pointer.injEq,Lf] at this;rw[this,IQ,Ny]
 cases h
theorem Dk.toAt {x:AV}(h:Dk g c x u):Au g c x u:=by
 cases x with
 |tu cs=>cases h
 |d x b=>cases x with
  |tu cs=>cases h with |d _ _ _ e=>cases e
  |_=>exact h
 |_=>exact h
theorem jU {x:AV}(h:GD x=true)(e:Au g c x u):RA g c x u:=by
 cases x with
 |ag cs=>cases h
 |tu cs=>cases h
 |un=>cases h
 |d x b=>cases x with |ag cs=>cases h |tu cs=>cases h |_=>exact e
 |_=>exact e
theorem TM {xs:Array α}{x:α}(h:xs.toList= [x]):xs= #[x]:=by
 cases xs;simp at h;simp[h]
theorem bP {xs:Array α}{x y:α}(h:xs.toList= [x,y]):xs= #[x,y]:=by
 cases xs;simp at h;simp[h]
theorem jV (B:HR g c)(G:Ad P tab)(w:∀x,Au g c (ρ x) (a.eval x))(ab:¬c.kn id){v:AV}(h:CM tab ρ c.hp id o.op=some (v,δ)):CU P o a g c id v δ:=by
 generalize E:o.op=op at h;unfold CM at h;split at h
 case h_1 x=>cases h;exact iq B (.inl E) (w x)
 case h_2 x=>cases h;exact iq B (.inr E) (w x)
 case h_3 x y z=>
  split at h
  ·rename_i t e;cases h;refine rZ B E (t:=t) (D1 e w) ?_;cases t
   ·exact w z
   exact w y
  cases h
 case h_4 T=>
  split at h
  ·rename_i N;cases h;exact rX B G E N ab
  cases h
 case h_5 T x=>
  have⟨cs,F,I⟩:=La.1 h;cases I;exact Q6 B E (w x) F ab
 case h_6 T ps=>
  split at h
  ·rename_i L;have⟨cs,F,I⟩:=La.1 h;cases I;exact sB B G E L.1 L.2 w F
  cases h
 case h_7 T x=>
  split at h;rotate_left
  ·cases h
  rename_i N;split at h
  ·rename_i i off e;split at h
   ·rename_i cs hi;have J:=D1 e w;split at h
    ·rename_i U;have⟨c1,F,I⟩:=La.1 h;cases I;exact ig B G E N J hi (by rw[if_pos U,F];rfl)
    rename_i U;have⟨c1,F,I⟩:=La.1 h;cases I;exact ig B G E N J hi (by rw[if_neg U,F])
   cases h
  ·rename_i cs off b e;have J:=D1 e w;have⟨bl,p,M,_,us,hm,hd⟩:=bO J.dpt;split at h
   ·rename_i U;have⟨c1,F,I⟩:=La.1 h;cases I;exact bB B G E N us M hm hd (by rw[if_pos U,F];rfl)
   rename_i U;have⟨c1,F,I⟩:=La.1 h;cases I;exact bB B G E N us M hm hd (by rw[if_neg U,F];rfl)
  ·rename_i i ver k off e;split at h
   ·rename_i es sz V br fz hi;split at h
    ·rename_i hv;subst hv;have J:=D1 e w;split at h
     ·rename_i cs H;split at h
      ·rename_i U;have⟨c1,F,I⟩:=La.1 h;cases I;exact ii B G E N J hi H (by rw[if_pos U,F];rfl)
      rename_i U;have⟨c1,F,I⟩:=La.1 h;cases I;exact ii B G E N J hi H (by rw[if_neg U,F];rfl)
     cases h
    cases h
   cases h
  cases h
 case h_8 T x y=>
  split at h;rotate_left
  ·cases h
  rename_i N;split at h
  ·rename_i i off xs e K;split at h
   ·rename_i cs hi;split at h
    ·rename_i L;cases h;exact rY B G E N (D1 e w) hi (w y) K L.1 L.2
    cases h
   cases h
  ·rename_i i ver k off xs e K;split at h
   ·rename_i es sz V br ds b is hi hd;split at h
    ·rename_i cs H;split at h
     ·rename_i L;cases h;have⟨hv,ak,R,ap⟩:=L;subst hv;exact sH B G E N (D1 e w) hi H (w y) K hd ak R ap
     cases h
    cases h
   cases h
  cases h
 case h_9 x=>
  split at h
  ·rename_i hp;cases h;have⟨p,M⟩:=jE hp (w x);exact Q7 B E M (w x)
  cases h
 case h_10 op T x y T'=>
  have⟨V,F,I⟩:=La.1 h;cases I;exact sK B G E (w x) (w y) F
 case h_11 op T x=>
  split at h
  ·rename_i b e;cases h
   have:=(D1 e w).v.1;exact ir B E (u:=.bool !b) (by rw[this];simp[Op.unary]) (RA.v _ rfl)
  ·rename_i k n e;cases h
   have:=(D1 e w).v.1;exact ir B E (u:=.int k (k.wrap (0-n))) (by rw[this];simp[Op.unary,Op.intArith]) (RA.v _ rfl)
  cases h
 case h_12 s t x=>
  split at h
  ·rename_i k k' n hs H e;cases h;exact rj B G E hs H (k':=k') (D1 e w)
  ·rename_i n hs H e;cases h;exact rm B G E hs H (D1 e w)
  ·rename_i i ver off a0 hs H e;split at h
   ·rename_i es sz v br fz hi;split at h
    ·rename_i U;obtain⟨F,rfl,h3,h4⟩:=U;have⟨bs,X,h6⟩:=La.1 h;cases h6;exact rq B G E H h3 h4 hi F X (D1 e w)
    cases h
   cases h
  cases h
 case h_13 T x f=>
  split at h;rotate_left
  ·cases h
  rename_i H;split at h;rotate_left
  ·cases h
  rename_i off n O;split at h
  ·cases h
  rename_i hn;split at h
  ·rename_i i p e;cases h;have J:=(D1 e w).pt;exact iv B G E H O hn J.1 (RA.pt i (p+off) J.2.1 J.2.2)
  ·rename_i cs p b e;cases h;have J:=D1 e w;have⟨bl,q,M,hp,_⟩:=bO J.dpt;exact iv B G E H O hn M (RA.d _ _ _ (by rw[Ny];exact hp (p+off)))
  ·rename_i i ver k p e;cases h;have J:=D1 e w;generalize hU:a.eval x=uu at J;cases(show RA g c (.pr i ver k p) uu from J) with
   |pr _ _ _ _ _ a4 hp hv=>
    have⟨ad,M⟩:=hp;subst M;refine ru B G E H O hn hU (RA.pr i ver k (p+off) _ a4 ⟨_,rfl⟩ fun es sz V br fz hi=> ?_);have⟨F,I⟩:=hv es sz V br fz hi;refine⟨F,fun e=> ?_⟩
    have:=I e;simp only[Value.pointer.injEq,Lf] at this;rw[this,IQ,Ny]
  cases h
 case h_14 T x i=>
  split at h
  ·rename_i H;split at h
   ·rename_i es b n e K;split at h
    ·rename_i cs hn;split at h
     ·rename_i L;cases h;have⟨bl,p,cx,M,hv⟩:=RD (D1 e w).dsl hn L.2;have⟨k,hi⟩:=J9 K (w i);exact iw B G E H L.1 M hi (Lb.1 hn).1 (RA.d _ _ _ hv)
     cases h
    cases h
   ·rename_i j ver off a0 n e K;split at h
    ·rename_i es sz V br fz hi;split at h
     ·rename_i L;have⟨ak,R,ap,a1⟩:=L;cases h;subst R;have⟨F,I,a2,T',C,h3,h4,X⟩:=Au.so (D1 e w) hi;have⟨k,ar⟩:=J9 K (w i);refine iw B G E H ap X ar ak (RA.pr j ver (off+n) 0 _ I ⟨_,rfl⟩ fun a3 a5 v2 a6 a7 av=> ?_);rw[hi] at av;cases av;refine⟨Lc _,fun _=> ?_⟩;rw[<-a1,Nj,NW]
     cases h
    cases h
   cases h
  unfold KM at h;split at h
  ·rename_i a0 n H K;split at h
   ·rename_i hn;have⟨V,F,I⟩:=La.1 h;cases I;have⟨k,ar⟩:=J9 K (w i);have⟨ad,M,hv⟩:=sY F (w x);exact r7 B G E H M ar hn hv
   cases h
  cases h
 case h_15 T x i=>
  split at h
  ·rename_i H;split at h
   ·rename_i s n e K;have⟨b,F,I⟩:=La.1 h;cases I;have⟨k,ar⟩:=J9 K (w i);exact r8 B G E H (D1 e w).v.1 ar F
   cases h
  exact sU B G E (w x) (w i) h
 case h_16 T x lo hi=>
  split at h
  ·rename_i s H e;have⟨⟨l,u⟩,F,I⟩:=La.1 h;cases I;exact r9 B G E H w (D1 e w).v.1 F
  ·rename_i es b H e;split at h
   ·rename_i L;have⟨⟨l,u⟩,F,I⟩:=La.1 h;cases I;have hd:=(D1 e w).dsl;have⟨A,cx,M,Y⟩:=jT hd;rw[M] at hd;have⟨_,b1,b2⟩:=U7 (P:=P) true w F Y c.w;exact X4 B G E H L.1 w M Y F (RA.d _ _ _ (sX hd L.2 b1 b2))
   cases h
  ·rename_i j ver off a0 H e;split at h;rotate_left
   ·cases h
   rename_i l u es sz V br fz F hi;split at h;rotate_left
   ·cases h
   rename_i L;have⟨R,ap,a1⟩:=L;subst R;have⟨q1,q2,a2,T',C,q3,q4,q5⟩:=Au.so (D1 e w) hi;have⟨h0,hz,T2,vs,C2,q6,q7,q8,q9,a9⟩:=B.obj j _ hi;rw[q3] at q6;cases q6;have ba:off+C=C2:=BW h0 (q4.symm.trans q7);have Y:a0<=C:=(by omega);have⟨_,b1,b2⟩:=U7 (P:=P) true w F Y c.w;split at h
   case isFalse ak=>
    cases h;refine X4 B G E H ap w q5 Y F ?_
    have:u-l=0:=(by omega);rw[this];exact RA.d _ _ _ (.nl _ _)
   rename_i ak;cases h;have a8:(if C=l then(some ⟨c.φ j,off*sz,none⟩:Option Addr) else(some ⟨c.φ j,off*sz,none⟩:Option Addr).map (·.add (l*sz)))=some ⟨c.φ j,(off+l)*sz,none⟩:=by
    have e5:off*sz+l*sz=(off+l)*sz:=(by rw[Nj]);split
    ·rename_i e6;rcases ak with I |I
     ·subst I;simp
     omega
    simp only[LQ,IQ,e5]
   refine X4 B G E H ap w q5 Y F ?_;rw[<-a1,a8];refine RA.so j ver (off+l) (u-l) _ q2 ⟨_,_,rfl⟩ fun a3 a5 v2 a6 a7 av=> ?_;rw[hi] at av;cases av;exact⟨Lc _,fun _=>⟨by omega,a2,T',C-l,q3,by rw[q4];congr 1;omega,rfl⟩⟩
  ·rename_i H e;split at h
   ·rename_i N;have⟨⟨l,u⟩,F,I⟩:=La.1 h;cases I;have J:=(D1 e w).v.1;have⟨_,b1,b2⟩:=U7 (P:=P) true w F (Lc 0) c.w;refine X4 B G E H N w J (Lc 0) F ?_;have Q:u=0:=(by omega);have K:l=0:=(by omega);subst Q;subst K;exact RA.v _ rfl
   cases h
  cases h
 case h_17 x i=>
  split at h
  ·rename_i vs e;have⟨V,F,I⟩:=La.1 h;cases I;have⟨us,M,_,h3⟩:=(D1 e w);have⟨y,h4,X⟩:=h3 i v F;exact iy B E M h4 X.toAt
  ·rename_i ds b e;have⟨d,F,I⟩:=La.1 h;cases I;have⟨us,M,_,h3⟩:=(D1 e w);have⟨y,h4,X⟩:=h3 i d F;refine iy B E M h4 ?_;unfold Dj at X;split at X
   ·exact X
   exact(RC.toRA X).toAt
  cases h
 case h_18 f first caps=>
  split at h
  ·rename_i h0;cases h;exact sA B E h0.1 fun j x hj=>jU (LP.1 h0.2 _ (LH (by
    have:=Ol hj;simpa using this))) (w x)
  cases h
 case h_19 T n ps=>
  split at h
  ·rename_i L;have⟨F,I,h3,h4,X⟩:=L;split at h
   ·rename_i ds b is hd;split at h
    ·rename_i ag;cases h;exact sD B G E F I h3 h4 X w hd ag ab
    cases h
   cases h
  cases h
 case h_20 args argTypes=>
  split at h;rotate_left
  ·cases h
  rename_i x T Q K;have ea:=TM Q;have et:=TM K;subst ea;subst et;split at h
  ·rename_i es b H e;cases h;have⟨A,cx,M,_⟩:=jT (D1 e w).dsl;exact X5 B E fun ty=>by rw[M];simp[Builtin.len_,run_underlying (G.slice H)]
  ·rename_i j ver off n H e;cases h;generalize hU:a.eval x=uu;have J:RA g c (.so j ver off n) uu:=(by rw[<-hU];have:=w x;rw[e] at this;exact this);cases J with
   |so _ _ _ _ _ _ hp _=>
    obtain⟨A,m,rfl⟩:=hp;exact X5 B E fun ty=>by rw[hU];simp[Builtin.len_,run_underlying (G.slice H)]
  ·rename_i H e;cases h
   have:=(D1 e w).v.1;exact X5 B E (n:=0) fun ty=>by rw[this];simp[Builtin.len_,run_underlying (G.slice H)]
  ·rename_i s H e;cases h
   have:=(D1 e w).v.1;exact X5 B E fun ty=>by rw[this];simp[Builtin.len_,run_underlying (G.string H)]
  cases h
 case h_21 args argTypes=>
  split at h;rotate_left
  ·cases h
  rename_i x y T T' Q K;have ea:=bP Q;have et:=bP K;subst ea;subst et;split at h;rotate_left
  ·exact sT B G E (w x) (w y) ab h
  rename_i L;have⟨hT,H,N,aq⟩:=L;subst hT;split at h
  ·rename_i ys b is e3 e4;split at h
   ·rename_i R;have⟨ag,aE,Y⟩:=R;have J:=(D1 e4 w).v.1;have hb:ys.length*(tab (tab T).elem).bytes<=4294967296*32768:=Bm Y aE;exact append_nil B G E H N aq J (jC B (w y) e3 ag) ag (by omega) (by simp only[maxLen];omega) ab h
   cases h
  ·rename_i ys b is j V off n e3 e4;split at h
   ·rename_i es sz ver br hi;split at h
    ·rename_i R;have⟨F,I,h3,h4,ag,aE,Y⟩:=R;cases h;subst F;subst I;subst h4;have hb:(n+ys.length)*(tab (tab T).elem).bytes<=4294967296*32768:=Bm Y aE;exact sF B G E H N aq hi (D1 e4 w) h3 (jC B (w y) e3 ag) ag (by omega) (by simp only[maxLen];omega)
    cases h
   cases h
  cases h
 case h_22 T=>
  split at h
  ·cases h;exact sM B E ab
  cases h
 case h_23 T x k ok=>
  split at h;rotate_left
  ·cases h
  rename_i q kv z Z aa hz;split at h;rotate_left
  ·cases h
  rename_i S;split at h
  ·rename_i i e;split at h
   ·rename_i es dl hi;have hm:=D1 e w;split at h
    ·rename_i O;cases h;exact jI B G E Z aa (w k) hz S hm hi O rfl
    ·rename_i j V O;cases h;exact jI B G E Z aa (w k) hz S hm hi O rfl
    cases h
   cases h
  ·rename_i es b e;have hm:=D1 e w;split at h
   ·rename_i O;cases h;exact jK B G E Z aa (w k) hz S hm O rfl
   ·rename_i j V O;cases h;exact jK B G E Z aa (w k) hz S hm O rfl
   cases h
  ·rename_i e;cases h;exact sP B G E Z aa (w k) hz S (D1 e w) rfl
  cases h
 case h_24 T m k x=>
  split at h
  ·rename_i q kv Z aa;split at h
   ·rename_i S;split at h
    ·rename_i i e;split at h
     ·rename_i es dl hi;have⟨a3,F,I⟩:=La.1 h;cases I;exact jO B G (.inl E) Z aa (w k) S.1 (w x) S.2 (D1 e w) hi F
     cases h
    cases h
   cases h
  cases h
 case h_25 T m k x=>
  split at h
  ·rename_i q kv Z aa;split at h
   ·rename_i S;split at h
    ·rename_i i e;split at h
     ·rename_i es dl hi;have⟨a3,F,I⟩:=La.1 h;cases I;exact jO B G (.inr E) Z aa (w k) S.1 (w x) S.2 (D1 e w) hi F
     cases h
    cases h
   cases h
  cases h
 case h_26 T m k=>
  split at h
  ·rename_i q kv z Z aa hz;split at h
   ·rename_i S;split at h
    ·rename_i i e;split at h
     ·rename_i es hi;have hm:=D1 e w;split at h
      ·rename_i O;cases h;exact jP B G E Z aa (w k) hz S hm hi O rfl
      ·rename_i j V O;cases h;exact jP B G E Z aa (w k) hz S hm hi O rfl
      cases h
     cases h
    cases h
   cases h
  cases h
 case h_27 T m st x=>
  split at h
  ·rename_i i j e K;split at h
   ·rename_i J;split at h
    ·rename_i es hi;split at h
     ·rename_i k v0 hj;cases h;exact sQ B E (w x) J K (w st) (D1 e w) hi hj
     cases h
    cases h
   cases h
  cases h
 case h_28=>cases h
 case h_29 T l k=>
  split at h
  ·rename_i L;have⟨H,N,aq,aE⟩:=L;split at h
   ·rename_i n m Q K;split at h
    ·rename_i R;cases h;exact sR B G E H N aq aE Q K (w l) (w k) R.1 R.2 ab
    cases h
   cases h
  cases h
 case h_30 args ty=>
  split at h
  ·rename_i x y Q;have ea:=bP Q;subst ea;split at h
   ·rename_i k p k' q K e3;cases h;exact RB B E (k':=k') (D1 K w) (D1 e3 w)
   cases h
  cases h
 case h_31=>cases h
 case h_32 args argTypes=>
  split at h;rotate_left
  ·cases h
  rename_i x T Q K;have ea:=TM Q;have et:=TM K;subst ea;subst et;split at h;rotate_left
  ·cases h
  rename_i L;have⟨H,N,aq⟩:=L;split at h
  ·rename_i e;cases h;exact jS B G E H (D1 e w).v.1
  ·rename_i i ver off n e;split at h
   ·rename_i es sz V br hi;split at h
    ·rename_i R;obtain⟨rfl,hs,Y⟩:=R;have J:=D1 e w;split at h
     ·rename_i h0;cases h;subst h0;have⟨_,_,a2,T',C,h3,h4,Q⟩:=Au.so J hi;exact jS B G E H Q
     rename_i h0;cases h;exact sW B G E H N aq J hi hs (by omega) Y
    cases h
   cases h
  cases h
 case h_33 args argTypes=>
  split at h
  ·rename_i x T Q K;have ea:=TM Q;have et:=TM K;subst ea;subst et;split at h
   ·rename_i H e;cases h;have J:=(D1 e w).v.1;refine CU.pure B (u:=.int .i64 0) ?_ (RA.v _ rfl);unfold execOp;simp[E,resolve,invoke,builtin,J,Builtin.cap_,run_underlying (G.slice H),goInt]
   cases h
  cases h
 case h_34=>cases h
end
end
end Go.Proofs.YtnmkbmefohakmaaGreat.Ab
