/-
 Each operation of the machine is the true one.
-/
import Derived.Laws.BytesString
import Derived.MapKept
import Derived.Lib.AppendZeros
import Derived.Laws.MakeOwn
import Derived.Test.YtnmkbmefohakmaaGreatAbA
set_option linter.all false
namespace Go.Proofs.YtnmkbmefohakmaaGreat.Ab
variable {A:Option Addr}{T T' s t:TypeId}{ad:Addr}{ao:AO}{br dl:Bool}{cap f h i j k l n off sz ver:Nat}{cs xs:List AV}{ds:List D}{en:Array MapEntry}{es:List (Value × AV)}{hi lo:Option Operand}{hp:Hp}{is:List Nat}{kv u:Value}{m x y:Operand}{q:Bool × List TK}{r:Option (Nat × AV)}{vk vx vy z:AV}{vs:Array Value}{w':World}{ys:List (List D)}{α:Type}{δ:List (Nat × AO)}
section
theorem D5 {g:Gh}{c:Cf}{ρ:Operand->AV}{a:Act}{v:AV}(e:ρ x=v)(h:∀x,A6 g c (ρ x) (a.eval x)):A6 g c v (a.eval x):=e▸h x
theorem Wz (h:u.oneCell'=true):u.cells= #[u]:=by
 cases u<;>first |rfl |(simp[Value.oneCell'] at h)
theorem IJ (i:Nat)(xs ys:List α)(h:i+xs.length<=ys.length):(DN i xs ys).length=ys.length:=by
 simp[DN];omega
theorem IK (i:Nat)(xs ys:List α)(h:i+xs.length<=ys.length)(j:Nat):(DN i xs ys)[j]? =if j<i then ys[j]? else if j<i+xs.length then xs[j-i]? else ys[j]? :=by
 have e:(ys.take i).length=i:=by rw[Lx];omega
 unfold DN;rw[Lz];by_cases b:j<i
 ·rw[if_pos b,NK (by omega),Nh,if_pos b]
 rw[if_neg b,Nn (by omega),e];by_cases d:j<i+xs.length
 ·rw[if_pos d,NK (by omega)]
 rw[if_neg d,Nn (by omega),NT];congr 1;omega
section
variable {P:Program}{tab:Nat->TI}{o:Oper}{a:Act}{g:Gh}{c:Cf}{id:Nat}
theorem T3 {x:AV}(e:EB x=some cs)(h:A6 g c x u):u.cells.size=cs.length/\∀(j:Nat) (y:AV),cs[j]? =some y->∃z,u.cells[j]? =some z/\RA g c y z:=by
 have B:∀ {x:AV} {u:Value},RA g c x u->u.cells.size= [x].length/\∀(j:Nat) (y:AV),[x][j]? =some y->∃z,u.cells[j]? =some z/\RA g c y z:=by
  intro x u h;rw[Wz h.one];refine⟨rfl,fun j y p=> ?_⟩;cases j with |zero=>simp at p;subst p;exact⟨u,rfl,h⟩ |succ j=>simp at p
 cases x with
 |ag xs=>
  simp only[EB,Lg] at e;subst e;obtain⟨vs,rfl,v,w⟩:=h;exact⟨v,w⟩
 |tu xs=>simp[EB] at e
 |un=>simp[EB] at e
 |d x b=>cases x with
  |ag xs=>
   simp only[EB,Lg] at e;subst e;obtain⟨vs,rfl,v,w⟩:=h;refine⟨by rw[Lt];exact v,fun j y p=> ?_⟩;rw[Ln,La] at p;obtain⟨d,C,rfl⟩:=p;have⟨z,E,F⟩:=w j d C;exact⟨z,E,F.toRA⟩
  |tu xs=>simp[EB] at e
  |_=>simp only[EB,Lg] at e;subst e;exact B h
 |_=>simp only[EB,Lg] at e;subst e;exact B h
theorem G7.val {w:World}(h:(execOp a.eval o).run P w= .ok (.value u) w'):G7 P o a w u w':=.inl h
theorem G7.skip {w:World}(h:(execOp a.eval o).run P w= .ok .skip w'):G7 P o a w undef w':=.inr ⟨h,rfl⟩
theorem W1 (p:HR g c){ob:Obj}{v:AV}(w:¬c.kn id)(h:(execOp a.eval o).run P c.w= .ok (.value u) (c.w.alloc ob))
  (C:∀d,CR c d->d.φ id=c.w.heap.size->d.w=c.w.alloc ob->OK g d id ao)
  (E:∀d,CR c d->d.φ id=c.w.heap.size->d.w=c.w.alloc ob->d.hp id=some ao->d.kn id->A6 g d v u):CX P o a g c id v [(id,ao)]:=by
 have B:∀k,k<c.w.heap.size->(c.w.alloc ob).heap[k]? =c.w.heap[k]? :=fun k F=>(heap_alloc_old c.w ob F);have e:=CR.new (ao:=ao) (kn:=fun k=>c.kn k\/k=id) p w (w':=c.w.alloc ob) (b:=c.w.heap.size) rfl rfl rfl (by simp) B (Lc _) (fun _ h=>.inl h);refine⟨upd id c.w.heap.size c.φ,u,c.w.alloc ob,.val h,e,HR.new p e w (Lc _) (by simp) (.inr rfl) B (C _ e (At _ _ _) rfl),E _ e (At _ _ _) rfl (At _ _ _) (.inr rfl)⟩
theorem gA {T:Nat}(d:vs.size=cs.length)(h:∀(j:Nat) (y:AV),cs[j]? =some y->∃z,vs[j]? =some z/\RA g c y z):
  ∀b,CR c b->b.φ id=c.w.heap.size->b.w=c.w.alloc (.cells vs T)->OK g b id (.bx cs):=by
 intro b e p v;refine⟨T,vs,?_,d,fun j y w=> ?_⟩
 ·rw[p,v];exact heap_alloc_new _ _
 have⟨z,B,C⟩:=h j y w;exact⟨z,B,C.ext e⟩
theorem gB:∀b,CR c b->b.φ id=c.w.heap.size->b.w=w'->b.hp id=some (.bx cs)->b.kn id->A6 g b (.pt id 0) (.pointer (some ⟨c.w.heap.size,0,none⟩)):=by
 intro b _ e _ p v;rw[<-e];exact RA.pt id 0 v fun o d=>by rw[p] at d;cases d;rfl
theorem qS (e:HR g c)(p:Ad P tab){T:Nat}(v:o.op= .alloc T)(w:(tab T).ok=true)(B:¬c.kn id):CX P o a g c id (.pt id 0) [(id,.bx ((tab T).zero.map AV.v))]:=by
 have⟨i,z,C,I,J,E,F,K,G⟩:=p.info T w;have H:(execOp a.eval o).run P c.w= .ok (.value (.pointer (some ⟨c.w.heap.size,0,none⟩))) (c.w.alloc (.cells (tab T).zero.toArray T)):=by
  unfold execOp;simp[v,Instr.alloc,zeroValue,typeInfo,C,E,newVar,newRow,F]
 refine W1 e B H (gA (by simp) fun j y b=> ?_) gB;rw[Ln,La] at b;obtain⟨x,d,rfl⟩:=b;exact⟨x,by simpa using d,RA.v x (G.1 x (Ly d))⟩
theorem P0 (b:HR g c){T:Nat}(d:o.op= .box T x){y:AV}(e:A6 g c y (a.eval x))(p:EB y=some cs)(v:¬c.kn id):CX P o a g c id (.pt id 0) [(id,.bx cs)]:=by
 have⟨w,B⟩:=T3 p e;have C:(execOp a.eval o).run P c.w= .ok (.value (.pointer (some ⟨c.w.heap.size,0,none⟩))) (c.w.alloc (.cells (a.eval x).cells T)):=by
  unfold execOp;simp[d,Instr.box,newVar,newRow]
 exact W1 b v C (gA w B) gB
theorem gC (p:Ad P tab){T:Nat}(B:(tab T).ok=true)(w:World)(b off:Nat)(t:TypeId)(d:Array Value)(u:Value)(C:w.heap[b]? =some (.cells d t (0,0)))(E:u.cells.size=(tab T).size)(F:off+u.cells.size<=d.size)
  (G:∀v∈u.cells.toList,v.oneCell'=true):(storeVar T ⟨b,off,none⟩ u).run P w= .ok () (w.setRow b (DN off u.cells.toList d.toList).toArray):=by
 have e:=run_storeCells_at P b off t u.cells.toList 0 d w C (by simpa using F) G;simp only[NP] at e;simp[storeVar,p.sizeOf B,E,e,DN]
theorem gD (B:HR g c){b:AO}{C cur':Array Value}(hi:c.hp i=some ao)(M:ao.fz=false)(I:c.w.heap[c.φ i]? =some (.cells C T (0,0)))(N:cur'.size=C.size)
  (h:(execOp a.eval o).run P c.w= .ok .skip (c.w.setRow (c.φ i) cur')) (O:ao.isRw=false->b.isRw=false)
  (Q:∀p sz d E F,b= .rw p sz d E F->∃es v br G,ao= .rw es sz v br G/\v<=d/\(v=d->es.length=p.length))
  (R:∀w,CR c w->w.φ i=c.φ i->w.w.heap[c.φ i]? =some (.cells cur' T (0,0))->OK g w i b):CX P o a g c id .un [(i,b)]:=by
 have J:(c.w.setRow (c.φ i) cur').heap[c.φ i]? =some (.cells cur' T (0,0)):=setRow_heap c.w (c.φ i) C _ T _ I;have K:∀k,k<c.w.heap.size->k≠c.φ i->(c.w.setRow (c.φ i) cur').heap[k]? =c.w.heap[k]? :=fun k _ S=>setRow_other c.w (c.φ i) k _ S;have H:CR c ⟨upd i (some b) c.hp,upd i (c.φ i) c.φ,c.w.setRow (c.φ i) cur',fun k=>c.kn k\/k=id⟩:=by
  refine CR.chg B hi M rfl rfl rfl (by simp) K (.inl rfl) (fun _ h=>.inl h) (fun h=>⟨rfl,O h⟩) fun p sz d E F e=> ?_;have⟨es,v,br,G,U,V,X⟩:=Q p sz d E F e;refine⟨es,v,br,G,U,V,fun e=>⟨rfl,X e,fun Y T0 L=> ?_⟩⟩;rw[I] at L;cases L;exact⟨cur',J,N⟩
 refine⟨_,undef,_,.skip h,H,HR.chg B hi H K (.inl rfl) (by simpa using(B.dom i _ hi).2.2) (R _ H (At _ _ _) J),trivial⟩
theorem qT (E:HR g c)(K:Ad P tab){T:Nat}(L:o.op= .store T x y)(M:(tab T).ok=true)(N:A6 g c (.pt i off) (a.eval x))(hi:c.hp i=some (.bx cs))
  (O:A6 g c vy (a.eval y)) (Q:EB vy=some xs) (hn:xs.length=(tab T).size) (F:off+xs.length<=cs.length):CX P o a g c id .un [(i,.bx (DN off xs cs))]:=by
 have⟨e,_,_⟩:=N.pt;have⟨T',vs,G,R,H⟩:=E.obj i _ hi;have⟨S,I⟩:=T3 Q O;have U:∀v∈(a.eval y).cells.toList,v.oneCell'=true:=fun v V=>by
  have⟨j,w⟩:=NX.1 V;have X:=(Lb.1 w).1;simp only[NM] at X;have⟨z,Y,Z⟩:=I j _ (Le (show j<xs.length by omega));rw[NQ,Y] at w;cases w;exact Z.one
 have aa:=gC K M c.w (c.φ i) off T' vs (a.eval y) G (by omega) (by omega) U;have ab:(execOp a.eval o).run P c.w= .ok .skip (c.w.setRow (c.φ i) (DN off (a.eval y).cells.toList vs.toList).toArray):=by
  unfold execOp;simp only[L,e,Instr.storeAt,Instr.sureAddr,Sem.run_bind,Sem.run_pure,Result.andThen_ok,aa]
 have B:off+(a.eval y).cells.toList.length<=vs.toList.length:=by simp;omega
 refine gD E hi rfl G (by rw[Ni,IJ _ _ _ B];simp) ab (fun _=>rfl) (fun _ _ _ _ _ e=>by cases e) fun c' C ag hw=>⟨T',_,by rw[ag];exact hw,?_,fun j z b=> ?_⟩
 ·rw[Ni,IJ _ _ _ B,IJ _ _ _ F];simpa using R
 rw[Nx,IK _ _ _ B];rw[IK _ _ _ F] at b;simp only[NM,S];by_cases J:j<off
 ·rw[if_pos J] at b⊢;have⟨u,d,p⟩:=H j z b;exact⟨u,by simpa using d,p.ext C⟩
 rw[if_neg J] at b⊢;by_cases d:j<off+xs.length
 ·rw[if_pos d] at b⊢;have⟨u,p,e4⟩:=I _ _ b;exact⟨u,by simpa using p,e4.ext C⟩
 rw[if_neg d] at b⊢;have⟨u,d,p⟩:=H j z b;exact⟨u,by simpa using d,p.ext C⟩
theorem T4 {x:AV}{d:D}{b:Bool}(O:HR g c)(Q:c.hp=hp)(h:RA g c x u)(e:Ci hp x=some (d,b,is))(I:Nat->Prop)(G:∀k,Im g c b k->I k)
  (R:∀i∈is,I (c.φ i)):RC c.w I d u:=by
 unfold Ci at e;split at e
 ·cases e;cases h with |v _ h=>exact .nl none 0
 ·cases e;cases h with |v _ h=>exact .v _ h
 ·cases e
 ·cases e
 ·cases e;cases h with
  |d _ _ _ h=>exact h.mono (fun _ _=>rfl) G
 ·rename_i i ver off n;split at e;rotate_left
  ·cases e
  rename_i es sz v br fz hi;split at e;rotate_left
  ·cases e
  rename_i S;cases e;subst S;rw[<-Q] at hi;obtain⟨h1,_,p,T,C,H,U,rfl⟩:=A6.so (show A6 g c (.so i _ off n) u from h) hi;have⟨V,X,T',vs,J,K,Y,h6,h7,L⟩:=O.obj i _ hi;rw[H] at K;cases K;have aa:off+C=J:=by
   have:(off+C)*sz=J*sz:=U.symm.trans Y;exact BS V this
  have Z:((es.drop off).take n).length=n:=by rw[Lx,ND];omega
  have M:RC c.w I (.sl ((es.drop off).take n)) (.slice (some ⟨c.φ i,off*sz,none⟩) ((es.drop off).take n).length C):=by
   refine RC.sl _ _ _ _ sz (fun k j=>p.getD ((off+k)*sz+j) undef) (R i (by simp)) (by omega) (fun k cs B=> ?_) (fun k j cs d B E=> ?_) (fun k j cs d B E=> ?_)
   ·exact X _ _ (KH _ _ _ _ _ B).2
   ·have⟨u,w,N⟩:=L (off+k) j cs d (KH _ _ _ _ _ B).2 E;have F:(off+k)*sz+j<p.size:=by
     rcases Nt ((off+k)*sz+j) p.size with h |h
     ·exact h
     rw[N9 h] at w;cases w
    simp[World.cell?,H,Array.getD,F,<-Nk]
   have⟨u,w,N⟩:=L (off+k) j cs d (KH _ _ _ _ _ B).2 E;have F:(off+k)*sz+j<p.size:=by
    rcases Nt ((off+k)*sz+j) p.size with h |h
    ·exact h
    rw[N9 h] at w;cases w
   have e3:p.getD ((off+k)*sz+j) undef=u:=(by simp[Array.getD,F] at w⊢;exact w);show RC c.w I d (p.getD ((off+k)*sz+j) undef);rw[e3];exact N.mono (fun _ _=>rfl) G
  rw[Z] at M;exact M
 cases e
end
end
section
section
variable {P:Program}{tab:Nat->TI}{o:Oper}{a:Act}{g:Gh}{c:Cf}{id:Nat}{ρ:Operand->AV}
theorem gE (d:HR g c)(b:o.op= .move x\/o.op= .assign x){v:AV}(e:A6 g c v (a.eval x)):CX P o a g c id v []:=by
 refine CX.pure d (u:=a.eval x) ?_ e;rcases b with b |b<;>simp[execOp,b]
theorem qU (b:HR g c){z:Operand}(d:o.op= .pick x y z){t:Bool}(e:A6 g c (.v (.bool t)) (a.eval x)){v:AV}(p:A6 g c v (if t then a.eval y else a.eval z)):CX P o a g c id v []:=by
 refine CX.pure b (u:=if t then a.eval y else a.eval z) ?_ p;unfold execOp
 have:=e.v.1;simp only[d,this,asBool,Sem.run_bind,Sem.run_pure,Result.andThen_ok]
theorem gF (d:HR g c){b:UnOp}(e:o.op= .unOp b T x)(p:(Op.unary b (a.eval x)).run P c.w= .ok u c.w){v:AV}(w:A6 g c v u):CX P o a g c id v []:=by
 refine CX.pure d (u:=u) ?_ w;unfold execOp;simp only[e,Sem.run_bind,p,Result.andThen_ok,Sem.run_pure]
theorem qV (w:World){b:BinOp}(e:b≠ .shl/\b≠ .shr){k:IntKind}{x y:Int}(h:Ja b k x y=some u):(binOp b T (.int k x) (.int k y)).run P w= .ok u w/\u.oneCell'=true:=by
 cases b<;>simp only[Ja,Lg] at h
 case shl=>simp at e
 case shr=>simp at e
 case quo=>
  split at h
  ·cases h
  cases h;rename_i d;simp[binOp,Op.intDiv,d,Value.oneCell']
 case rem=>
  split at h
  ·cases h
  cases h;rename_i d;simp[binOp,Op.intDiv,d,Value.oneCell']
 all_goals (subst h;simp[binOp,Op.intArith,Op.intBits,Op.intCmp,Value.oneCell'])
theorem qW (w:World){b:BinOp}{x y:ByteArray}(h:Ks b x y=some u):(binOp b T (.string x) (.string y)).run P w= .ok u w/\u.oneCell'=true:=by
 cases b<;>simp only[Ks,Lg] at h
 case add=>
  split at h
  ·cases h;rename_i d
   have:¬(((x.size+y.size:Nat):Int) > IntKind.i64.max):=by
    simp only[maxLen] at d;simp[IntKind.max,IntKind.bits,IntKind.signed];omega
   simp only[binOp,Op.stringOp,if_neg this];simp[Value.oneCell']
  cases h
 all_goals first |(subst h;simp[binOp,Op.stringOp,Value.oneCell']) |cases h
theorem qX (w:World){d:BinOp}{x y:Value}(h:GF d x y=some u):(binOp d T x y).run P w= .ok u w/\u.oneCell'=true:=by
 unfold GF at h;split at h
 ·rename_i k m B n;split at h
  ·split at h
   ·cases h
   cases h;rename_i b;simp[binOp,Op.shift,b,Value.oneCell']
  ·split at h
   ·cases h
   cases h;rename_i b;simp[binOp,Op.shift,b,Value.oneCell']
  rename_i e p;split at h
  ·rename_i v;subst v;exact qV w ⟨e,p⟩ h
  cases h
 ·exact qW w h
 cases h
theorem qY (w:World){d:BinOp}{v:Value}(b:¬(u= .nilIface/\v= .nilIface))(h:∀cs ds,¬(u= .agg cs/\v= .agg ds)):(eqGuard d T x y u v).run P w= .ok () w:=by
 unfold eqGuard;split
 ·simp only[Og,Nb,if_false];split
  ·exact absurd ⟨rfl,rfl⟩ b
  ·exact absurd ⟨rfl,rfl⟩ (h _ _)
  rfl
 ·simp only[Og,Nb,if_false];split
  ·exact absurd ⟨rfl,rfl⟩ b
  ·exact absurd ⟨rfl,rfl⟩ (h _ _)
  rfl
 simp only[Bool.not_false,if_true];rfl
theorem Kv (d:HR g c){b:BinOp}(e:o.op= .binOp b T x y T')(p:∀cs ds,¬(a.eval x= .agg cs/\a.eval y= .agg ds))(w:¬(a.eval x= .nilIface/\a.eval y= .nilIface))(B:(binOp b T (a.eval x) (a.eval y)).run P c.w= .ok u c.w){v:AV}(C:A6 g c v u):CX P o a g c id v []:=by
 refine CX.pure d (u:=u) ?_ C;unfold execOp;simp only[e,Sem.run_bind,qY (P:=P) c.w w p,B,Result.andThen_ok,Sem.run_pure]
theorem qZ (h:u.oneCell'=true)(cs:Array Value):u≠ .agg cs:=by
 rintro rfl;simp[Value.oneCell'] at h
theorem qd (v:HR g c)(b:Ad P tab)(w:o.op= .convert s t x)(B:(tab s).ok=true){k k':IntKind}{n:Int}(e:(tab t).kind= .int k)(C:A6 g c (.v (.int k' n)) (a.eval x)):CX P o a g c id (.v (.int k (k.wrap n))) []:=by
 have⟨d,E,G⟩:=b.kind s B;have⟨H,F,p⟩:=b.kind t (b.okOf (by rw[e];simp));rw[e] at p;subst p;refine CX.pure v (u:=.int k (k.wrap n)) ?_ (RA.v _ rfl);unfold execOp;simp[w,C.v.1,convert,run_underlying E,run_underlying F,Conv.intToInt]
theorem qe (e:HR g c)(b:Ad P tab)(p:o.op= .convert s t x)(v:(tab s).ok=true){n:ByteArray}(w:(tab t).kind= .string)(B:A6 g c (.v (.string n)) (a.eval x)):CX P o a g c id (.v (.string n)) []:=by
 have⟨d,C,E⟩:=b.kind s v;refine CX.pure e (u:=.string n) ?_ (RA.v _ rfl);unfold execOp;simp[p,B.v.1,convert,run_underlying C,run_underlying (b.string w)]
theorem gG:∀ {es:List (List D)} {b:List UInt8},SD es=some b->∃d:List Int,es=d.map (fun n=>[D.v (.int .u8 n)])/\b=d.map fun n=>UInt8.ofNat n.toNat
 |[],b,h=>by
  simp only[SD,Lg] at h;exact⟨[],rfl,h.symm⟩
 |e::r,b,h=>by
  unfold SD at h;split at h
  ·cases‹_::_= []›
  ·rename_i n w p;cases p;obtain⟨l,v,rfl⟩:=La.1 h;obtain⟨d,rfl,rfl⟩:=gG v;exact⟨n::d,rfl,rfl⟩
  cases h
theorem qg (b:List Int)(s:ByteArray):b.foldl (fun r n=>r.push (UInt8.ofNat n.toNat)) s=⟨s.data++(b.map fun n=>UInt8.ofNat n.toNat).toArray⟩:=by
 induction b generalizing s with
 |nil=>simp
 |cons n b d=>
  rw[Bm,d];simp[ByteArray.push]
theorem qh (B:HR g c)(w:Ad P tab)(L:o.op= .convert s t x)(M:(tab t).kind= .string)(N:(tab s).kind= .slice)(E:(tab (tab s).elem).kind= .int .u8){b v:Nat}{es:List (List D)}{O:Bool}(hi:c.hp i=some (.rw es 1 v br O))(Q:v=ver){F:List UInt8}(R:SD ((es.drop off).take b)=some F)(S:A6 g c (.so i ver off b) (a.eval x)):CX P o a g c id (.v (.string ⟨F.toArray⟩)) []:=by
 subst Q;have⟨d,U,G⟩:=w.kind (tab s).elem (w.okOf (by rw[E];simp));rw[E] at G;subst G;obtain⟨e,H,rfl⟩:=gG R;refine CX.pure B (u:=.string ⟨(e.map fun n:Int=>UInt8.ofNat n.toNat).toArray⟩) ?_ (RA.v _ rfl);have⟨ab,_,ag,T,C,I,h4,V⟩:=A6.so S hi;have⟨_,hw,T',vs,C',J,e2,e3,e4,X⟩:=B.obj i _ hi;rw[I] at J;cases J;have Y:e.length=b:=by
  have:=congrArg List.length H;simp only[Lx,ND,Lt] at this;omega
 have Z:(loadCells ⟨c.φ i,off*1,none⟩ b).run P c.w= .ok (e.map (Value.int .u8)).toArray c.w:=by
  have:=run_loadCells_list (P:=P) c.w ⟨c.φ i,off*1,none⟩ (e.map (Value.int .u8)) (fun j u p=>by
   rw[Ln,La] at p;obtain⟨n,p,rfl⟩:=p;have ak:=(Lb.1 p).1;have K:((es.drop off).take b)[j]? =some [D.v (.int .u8 n)]:=(by rw[H,Ln,p];rfl);rw[Nh,ifp,NT] at K;have⟨u,aa,g2⟩:=X (off+j) 0 _ _ K rfl;cases g2;rw[HT];simp only[World.cell?,I];simpa using aa)
  rw[Lt,Y] at this;exact this
 unfold execOp;simp only[L,V,Sem.run_bind,run_convert_bytes_string c.w s t _ _ _ _ (w.slice N) U (w.string M),run_bytesToString c.w _ b C e Z,Result.andThen_ok,Sem.run_pure];rw[qg];simp
theorem qi (e:Ad P tab)(p:(tab T).kind= .struct)(v:(tab T).offs[f]? =some (off,n))(L:n≠0)(bl o:Nat)(w:World):
  (Instr.fieldAt T (.pointer (some ⟨bl,o,none⟩)) f).run P w= .ok (.pointer (some ⟨bl,o+off,none⟩)) w:=by
 have⟨d,E,B⟩:=e.kind T (e.okOf (by rw[p];decide));rw[p] at B;obtain⟨F,rfl,M,G⟩:=B;have C:f<F.size:=by
  have:=(Lb.1 v).1;omega
 have⟨H,I,b⟩:=G f _ (LC C);rw[v] at b;simp only[Lg,LE] at b;have⟨J,N⟩:=b;have K:¬H.size=0:=by omega
 simp[Instr.fieldAt,run_underlying E,LC C,Instr.sureAddr,fieldPlace,sizeOf,typeInfo,I,K,HT,J]
theorem gH (b:HR g c)(d:Ad P tab)(e:o.op= .fieldAddr T x f)(w:(tab T).kind= .struct)(B:(tab T).offs[f]? =some (off,n))(C:n≠0){bl p:Nat}(E:a.eval x= .pointer (some ⟨bl,p,none⟩)){v:AV}
  (F:A6 g c v (.pointer (some ⟨bl,p+off,none⟩))):CX P o a g c id v []:=by
 refine CX.pure b ?_ F;unfold execOp;simp only[e,E,qi d w B C,Sem.run_bind,Result.andThen_ok,Sem.run_pure]
theorem qj (E:HR g c)(e:Ad P tab)(F:o.op= .fieldAddr T x f)(p:(tab T).kind= .struct)(w:(tab T).offs[f]? =some (off,n))(Q:n≠0)(G:a.eval x= .pointer (some ad)){v:AV}
  (H:A6 g c v (.pointer (some (ad.add off)))):CX P o a g c id v []:=by
 have⟨d,I,B⟩:=e.kind T (e.okOf (by rw[p];decide));rw[p] at B;obtain⟨J,rfl,R,K⟩:=B;have C:f<J.size:=by
  have:=(Lb.1 w).1;omega
 have⟨L,M,b⟩:=K f _ (LC C);rw[w] at b;simp only[Lg,LE] at b;have⟨N,S⟩:=b;have O:¬L.size=0:=by omega
 refine CX.pure E ?_ H;unfold execOp;simp[F,G,Instr.fieldAt,run_underlying I,LC C,Instr.sureAddr,fieldPlace,sizeOf,typeInfo,M,O,N]
theorem JJ {x:AV}(h:EY x=some n)(d:A6 g c x u):∃k,u= .int k (n:Int):=by
 unfold EY Wx at h;split at h
 ·rename_i m b;split at b
  ·rename_i k p;cases b;split at h
   ·rename_i e;cases h;exact⟨k,by rw[d.v.1,Int.toNat_of_nonneg e]⟩
   cases h
  cases b
 cases h
theorem qk (b:Ad P tab)(e:(tab T).kind= .slice)(v:(tab (tab T).elem).ok=true)(bl p d cap n:Nat)(k:IntKind)(B:n<d)(w:World):
  (Instr.indexAt T (.slice (some ⟨bl,p,none⟩) d cap) (.int k n)).run P w= .ok (.pointer (some ⟨bl,p+n*(tab (tab T).elem).size,none⟩)) w:=by
 simp[Instr.indexAt,run_underlying (b.slice e),asIntOf,B,b.sizeOf v,HT]
theorem gI (d:HR g c)(e:Ad P tab){i:Operand}(w:o.op= .indexAddr T x i)(B:(tab T).kind= .slice)(C:(tab (tab T).elem).ok=true){bl p b:Nat}{k:IntKind}(E:a.eval x= .slice (some ⟨bl,p,none⟩) b cap)(hi:a.eval i= .int k n)(F:n<b){v:AV}
  (G:A6 g c v (.pointer (some ⟨bl,p+n*(tab (tab T).elem).size,none⟩))):CX P o a g c id v []:=by
 refine CX.pure d ?_ G;unfold execOp;simp only[w,E,hi,qk e B C bl p b cap n k F,Sem.run_bind,Result.andThen_ok,Sem.run_pure]
theorem ql (b:Ad P tab){p:Nat}(v:(tab T).kind= .array p)(k:IntKind)(C:n<p)(w:World):
  (Instr.indexAt T (.pointer (some ad)) (.int k n)).run P w= .ok (.pointer (some (ad.add (n*(tab (tab T).elem).size)))) w:=by
 have⟨d,E,B⟩:=b.kind T (b.okOf (by rw[v];intro e;cases e));rw[v] at B;obtain⟨rfl,F,_⟩:=B;simp[Instr.indexAt,run_underlying E,asIntOf,C,b.sizeOf F,Instr.sureAddr]
theorem qm (d:HR g c)(e:Ad P tab){i:Operand}(p:o.op= .indexAddr T x i){b:Nat}(w:(tab T).kind= .array b){k:IntKind}(B:a.eval x= .pointer (some ad))(hi:a.eval i= .int k n)(C:n<b){v:AV}
  (E:A6 g c v (.pointer (some (ad.add (n*(tab (tab T).elem).size))))):CX P o a g c id v []:=by
 refine CX.pure d ?_ E;unfold execOp;simp only[p,B,hi,ql e w k C,Sem.run_bind,Result.andThen_ok,Sem.run_pure]
theorem qo (d:HR g c)(e:Ad P tab){i:Operand}(p:o.op= .index T x i)(v:(tab T).kind= .string){s:ByteArray}{k:IntKind}(w:a.eval x= .string s)(hi:a.eval i= .int k n){b:UInt8}(B:s[n]? =some b):CX P o a g c id (.v (.int .u8 b.toNat)) []:=by
 refine CX.pure d (u:=.int .u8 b.toNat) ?_ (RA.v _ rfl);unfold execOp;have C:(0:Int)<=n:=by omega
 simp[p,w,hi,Instr.index,asIntOf,run_underlying (e.string v),C,B]
theorem T5 (G:Bool){e:Nat}(p:∀x,A6 g c (ρ x) (a.eval x))(b:HQ ρ e lo hi=some (l,h))(I:e<=cap)(w:World):
  (Instr.sliceBounds G e cap (lo.map a.eval) (hi.map a.eval) none).run P w= .ok (l,h,cap) w/\l<=h/\h<=e:=by
 unfold HQ at b;split at b;rotate_left
 ·cases b
 rename_i J K v d;split at b;rotate_left
 ·cases b
 rename_i C;cases b;refine⟨?_,C⟩;have⟨E,L⟩:=C;cases lo with
 |none=>
  simp only[Lg] at v;subst v;cases hi with
  |none=>
   simp only[Lg] at d;subst d;simp[Instr.sliceBounds]
  |some y=>
   have⟨k,B⟩:=JJ d (p y)
   have:h<=cap:=(by omega);simp[Instr.sliceBounds,Instr.sliceBound,asIntOf,B,this]
 |some x=>
  have⟨M,F⟩:=JJ v (p x);cases hi with
  |none=>
   simp only[Lg] at d;subst d;simp[Instr.sliceBounds,Instr.sliceBound,asIntOf,F,E]
  |some y=>
   have⟨k,B⟩:=JJ d (p y);have H:h<=cap:=(by omega);simp[Instr.sliceBounds,Instr.sliceBound,asIntOf,B,F,H,E]
theorem qp (b:HR g c)(d:Ad P tab)(e:o.op= .slice T x lo hi none)(p:(tab T).kind= .string)(v:∀x,A6 g c (ρ x) (a.eval x)){s:ByteArray}(w:a.eval x= .string s)(B:HQ ρ s.size lo hi=some (l,h)):CX P o a g c id (.v (.string (s.extract l h))) []:=by
 have⟨C,_,_⟩:=T5 (P:=P) false v B (Lc _) c.w;refine CX.pure b (u:=.string (s.extract l h)) ?_ (RA.v _ rfl);unfold execOp;simp[e,w,Instr.sliceAt,Instr.slice,run_underlying (d.string p),C]
theorem W3 (e:HR g c)(d:Ad P tab)(p:o.op= .slice T x lo hi none)(w:(tab T).kind= .slice)(B:(tab (tab T).elem).ok=true)(C:∀x,A6 g c (ρ x) (a.eval x)){b:Nat}(E:a.eval x= .slice A b cap)(F:b<=cap)(G:HQ ρ b lo hi=some (l,h)){v:AV}
  (H:A6 g c v (.slice (if cap=l then A else A.map (·.add (l*(tab (tab T).elem).size))) (h-l) (cap-l))):CX P o a g c id v []:=by
 have⟨I,_,_⟩:=T5 (P:=P) true C G F c.w;refine CX.pure e ?_ H;unfold execOp;simp[p,E,Instr.sliceAt,Instr.slice,run_underlying (d.slice w),I,d.sizeOf B]
theorem gJ (b:HR g c)(d:o.op= .extract x i)(e:a.eval x= .tuple vs)(hi:vs[i]? =some u){v:AV}(p:A6 g c v u):CX P o a g c id v []:=by
 refine CX.pure b (u:=u) ?_ p;unfold execOp;simp[d,e,Instr.extract,hi]
theorem W4 (b:HR g c)(d:o.op= .call { callee:=.builtin .len,args:= #[x],argTypes:= #[T] })(h:∀e,(Builtin.len_ #[T] e #[a.eval x]).run P c.w= .ok (goInt n) c.w):CX P o a g c id (.v (.int .i64 n)) []:=by
 refine CX.pure b (u:=.int .i64 n) ?_ (RA.v _ rfl);unfold execOp;simp[d,resolve,invoke,builtin,h,goInt]
theorem P3 (b:HR g c)(d:o.op= .nilCheck x){p:Addr}(e:a.eval x= .pointer (some p)){v:AV}(w:A6 g c v (a.eval x)):CX P o a g c id v []:=by
 refine CX.pure b (u:=a.eval x) ?_ w;unfold execOp;simp[d,e]
theorem qq (v:HR g c){f:FuncId}{first b:Array Operand}(w:o.op= .makeFunc (.func f) first b)(B:first.size=0)(C:∀(j:Nat) (x:Operand),b[j]? =some x->RA g c (ρ x) (a.eval x)):CX P o a g c id (.fn f (b.toList.map ρ)) []:=by
 have E:first= #[]:=BE B;subst E;have F:(Array.ofFn (n:=b.size) fun j=>(b.map a.eval).getD j undef)=b.map a.eval:=by
  apply OJ
  ·simp
  intro i d G;simp at d G;simp
 refine CX.pure v (u:=.func (.func f) #[] (Array.ofFn (n:=b.size) fun j=>(b.map a.eval).getD j undef)) ?_ ?_
 ·unfold execOp;rw[F];simp[w,Instr.makeFunc]
 refine RA.fn f _ (fun j=>(b.map a.eval).getD j undef) b.size (by simp) fun j y e=> ?_
 rw[Ln,La] at e;obtain⟨x,d,rfl⟩:=e;rw[NQ] at d
 have:=C j x d;have p:j<b.size:=(LW.1 d).1;have H:b[j]=x:=by
  rw[LC p] at d;exact LI d
 simpa [p,H] using this
end
end
section
theorem gK (off:Nat):∀(l:List Value) (k:Nat) (b:Array Value),off+k+l.length<=b.size->
  ((l.zipIdx k).foldl (fun cs (x:Value × Nat)=>cs.setIfInBounds (off+x.2) x.1) b).toList=DN (off+k) l b.toList
 |[],k,b,_=>by simp[DN]
 |x::l,k,b,h=>by
  simp only[Ll] at h;rw[Ix,Bm,gK off l (k+1) _ (by simp;omega)];have p:off+k+(x::l).length<=b.toList.length:=by simp;omega
  have v:off+(k+1)+l.length<=(b.setIfInBounds (off+k) x).toList.length:=by simp;omega
  apply BI;intro j;rw[IK _ _ _ p,IK _ _ _ v];simp only[Oz,Ob,Ll];by_cases d:j<off+k
  ·rw[ifp,ifn,if_pos d]
  rw[if_neg d];by_cases w:j=off+k
  ·subst w;rw[ifp,if_pos rfl,if_pos (by simp;omega),ifp];simp
  rw[ifn];by_cases e:j<off+k+(l.length+1)
  ·rw[ifp,if_pos e]
   have:j-(off+k)=j-(off+(k+1))+1:=(by omega);rw[this,BB]
  rw[ifn,ifn,if_neg e]
theorem gM (b:Nat->Option (Nat × Nat))(cells:Array Value)(i:Nat)(v:Value)(d:List (Nat × Value))(hp:b i=some (off,n))(B:v.cells.size=n)(C:off+n<=cells.size):
  Instr.fill b cells ((i,v)::d)=Instr.fill b (DN off v.cells.toList cells.toList).toArray d:=by
 have p:¬(v.cells.size≠n\/off+v.cells.size > cells.size):=by omega
 have e:=gK off v.cells.toList 0 cells (by simp;omega);simp only[NP] at e;have w:v.cells.zipIdx.foldl (fun cs (x:Value × Nat)=>cs.setIfInBounds (off+x.2) x.1) cells=(DN off v.cells.toList cells.toList).toArray:=by
  rw[<-e,<-Array.foldl_toList,Array.toList_zipIdx]
 simp only[Instr.fill,hp];rw[if_neg (by simpa using p)];exact congrArg (fun x=>Instr.fill b x d) w
section
variable {P:Program}{tab:Nat->TI}{o:Oper}{a:Act}{g:Gh}{c:Cf}{id:Nat}{ρ:Operand->AV}
theorem Zj (E:List (Nat × Nat))(B:Nat->Option (Nat × Nat))(H:∀i p,E[i]? =some p->B i=some p)(I:∀x,A6 g c (ρ x) (a.eval x)):
  ∀(J:List (Nat × Operand)) (cs e:List AV) (vs:Array Value),vs.size=cs.length->(∀(j:Nat) (y:AV),cs[j]? =some y->∃z,vs[j]? =some z/\RA g c y z)->KG E ρ cs J=some e->
   ∃v,Instr.fill B vs (J.map fun p=>(p.1,a.eval p.2))=some v/\v.size=e.length/\∀(j:Nat) (y:AV),e[j]? =some y->∃z,v[j]? =some z/\RA g c y z
 |[],cs,e,vs,F,h,b=>by
  simp only[KG,Lg] at b;subst b;exact⟨vs,rfl,F,h⟩
 |(i,x)::r,cs,e,vs,F,h,b=>by
  unfold KG at b;split at b;rotate_left
  ·cases b
  rename_i off n xs N O;split at b;rotate_left
  ·cases b
  rename_i V;have⟨Q,R⟩:=T3 O (I x);have K:off+(a.eval x).cells.toList.length<=vs.toList.length:=by simp;omega
  have L:off+xs.length<=cs.length:=by omega
  have⟨v,S,U⟩:=Zj E B H I r (DN off xs cs) e (DN off (a.eval x).cells.toList vs.toList).toArray
   (by rw[Ni,IJ _ _ _ K,IJ _ _ _ L];simpa using F)
   (fun j y d=>by
    rw[Nx,IK _ _ _ K];rw[IK _ _ _ L] at d;simp only[NM,Q];by_cases M:j<off
    ·rw[if_pos M] at d⊢;have⟨z,C,w⟩:=h j y d;exact⟨z,by simpa using C,w⟩
    rw[if_neg M] at d⊢;by_cases C:j<off+xs.length
    ·rw[if_pos C] at d⊢;have⟨z,w,G⟩:=R _ _ d;exact⟨z,by simpa using w,G⟩
    rw[if_neg C] at d⊢;have⟨z,w,G⟩:=h j y d;exact⟨z,by simpa using w,G⟩) b
  refine⟨v,?_,U⟩;rw[Lh,gM B vs i (a.eval x) _ (H i _ N) (by omega) (by omega)];exact S
theorem gN {α e:Type}(f:α->Option e):∀(l:List α),(∀(i:Nat) (x:α),l[i]? =some x->∃y,f x=some y)->∃ys,l.mapM f=some ys/\ys.length=l.length/\∀(i:Nat) (x:α) (y:e),l[i]? =some x->f x=some y->ys[i]? =some y
 |[],_=>⟨[],rfl,rfl,fun i x y h=>by simp at h⟩
 |x::l,h=>by
  have⟨y,p⟩:=h 0 x rfl;have⟨ys,v,B,C⟩:=gN f l fun i z b=>h (i+1) z (by simpa using b);refine⟨y::ys,by simp[List.mapM_cons,p,v],by simp[B],fun i z w b d=> ?_⟩;cases i with |zero=>simp at b;subst b;rw[p] at d;simpa using d |succ i=>exact C i z w (by simpa using b) d
theorem qt (hr:HR g c)(G:Ad P tab){e:Array (Nat × Operand)}(ho:o.op= .build T e)(L:(tab T).ok=true)(hg:(tab T).agg=true)(M:∀x,A6 g c (ρ x) (a.eval x))
  (B:KG (tab T).offs ρ ((tab T).zero.map AV.v) e.toList=some cs):CX P o a g c id (.ag cs) []:=by
 obtain⟨it,z,N,h2,h3,O,Q,h6,h7⟩:=G.info T L;obtain⟨d,R,C⟩:=G.kind T L;have S:∀(j:Nat) (y:AV),((tab T).zero.map AV.v)[j]? =some y->∃u,z.cells[j]? =some u/\RA g c y u:=by
  intro j y U;rw[Ln,La] at U;obtain⟨x,v,rfl⟩:=U;exact⟨x,by rw[Q];simpa using v,RA.v x (h7.1 x (Ly v))⟩
 have ab:(e.map fun(i,x)=>(i,a.eval x)).toList=e.toList.map fun p=>(p.1,a.eval p.2):=by simp
 have V:∀b,P.built T (e.toList.map fun p=>(p.1,a.eval p.2))=some b->b.size=cs.length->(∀(j:Nat) (y:AV),cs[j]? =some y->∃u,b[j]? =some u/\RA g c y u)->CX P o a g c id (.ag cs) []:=by
  intro b hb hs hc;refine CX.pure hr (u:=.agg b) ?_ ⟨b,rfl,hs,hc⟩;unfold execOp
  have:=run_build (P:=P) c.w T (e.map fun(i,x)=>(i,a.eval x)) b (by rw[ab];exact hb);simp only[ho,Sem.run_bind,this,Result.andThen_ok,Sem.run_pure]
 have X:z.cells.size=((tab T).zero.map AV.v).length:=by rw[Q];simp
 cases H:(tab T).kind<;>simp only[TI.agg,H,Nb] at hg
 case struct=>
  rw[H] at C;obtain⟨E,rfl,Y,F⟩:=C;obtain⟨pl,e3,e4,e5⟩:=gN (fun f:Field=>(P.info? f.type).map fun i=>(f.offset,i.size)) E.toList (fun i f B=>by
   obtain⟨Z,v,_⟩:=F i f (by simpa using B);exact⟨_,by rw[v];rfl⟩)
  obtain⟨b,v,I,J⟩:=Zj (tab T).offs (fun i=>pl.toArray[i]?) (fun i p hp=>by
   have ag:=(Lb.1 hp).1;have aa:i<E.size:=(by omega);obtain⟨Z,K,w⟩:=F i _ (LC aa)
   have:=e5 i E[i] (E[i].offset,Z.size) (by simp[aa]) (by simp[K]);rw[hp] at w;simp only[Lg] at w;rw[w];simpa using this) M e.toList _ _ z.cells X S B
  exact V b (by simp only[Program.built,N,R,O,e3];exact v) I J
 case array n=>
  rw[H] at C;obtain⟨rfl,Y,F⟩:=C;obtain⟨ie,ze,K,w,_⟩:=G.info _ Y;obtain⟨b,v,I,J⟩:=Zj (tab T).offs (fun i=>some (i*ie.size,ie.size)) (fun i p hp=>by
   rw[F i p hp,w]) M e.toList _ _ z.cells X S B
  exact V b (by simp only[Program.built,N,R,O,K];exact v) I J
theorem gO (sz:Nat)(F:0<sz):∀(vs:List Value) (k:Nat) (b:Array Value),(k+vs.length)*sz<=b.size->(∀v∈vs,v.cells.size=sz)->
  ∃d,Instr.fill (fun i=>some (i*sz,sz)) b ((vs.zipIdx k).map fun p=>(p.2,p.1))=some d/\d.size=b.size/\(∀j,j<k*sz->d[j]? =b[j]?)/\
   ∀(i j:Nat) (v:Value),vs[i]? =some v->j<sz->d[(k+i)*sz+j]? =v.cells[j]?
 |[],k,b,_,_=>⟨b,rfl,rfl,fun _ _=>rfl,fun i j v h=>by simp at h⟩
 |v::vs,k,b,h,C=>by
  have G:=C v (by simp);simp only[Ll] at h;have H:(k+1+vs.length)*sz<=b.size:=by
   have:k+1+vs.length=k+(vs.length+1):=(by omega);rw[this];exact h
  have I:k*sz+sz<=b.size:=by
   have:(k+1)*sz<=(k+1+vs.length)*sz:=LS _ (by omega);rw[Nk,Bk] at this;omega
  have w:k*sz+v.cells.toList.length<=b.toList.length:=by simp;omega
  have⟨d,J,K,E,L⟩:=gO sz F vs (k+1) (DN (k*sz) v.cells.toList b.toList).toArray (by rw[Ni,IJ _ _ _ w];simpa using H) fun u M=>C u (by simp[M]);refine⟨d,?_,?_,fun j B=> ?_,fun i j u hi B=> ?_⟩
  ·rw[Ix,Lh,gM _ b k v _ rfl G I];exact J
  ·rw[K,Ni,IJ _ _ _ w];simp
  ·rw[E j (by rw[Nk];omega),Nx,IK _ _ _ w,if_pos B];simp
  cases i with
  |zero=>
   simp only[Nc,Lg] at hi;subst hi;rw[NP,E _ (by rw[Nk];omega),Nx,IK _ _ _ w,ifn,if_pos (by simp;omega)];simp
  |succ i=>
   have e:k+(i+1)=k+1+i:=(by omega);rw[e];exact L i j u (by simpa using hi) B
theorem Im.or {b b':Bool}(h:Im g c b k):Im g c (b||b') k:=by
 cases b with
 |true=>exact h
 |false=>cases b' with |true=>exact h.weak |false=>exact h
theorem Im.or' {b b':Bool}(h:Im g c b' k):Im g c (b||b') k:=by rw[Bool.or_comm];exact h.or
theorem T6 {x:AV}{d:D}{b:Bool}(e:Ci hp x=some (d,b,is)):∀i∈is,∃es sz v p,hp i=some (.rw es sz v b p):=by
 unfold Ci at e;split at e
 ·cases e;simp
 ·cases e;simp
 ·cases e
 ·cases e
 ·cases e;simp
 ·split at e
  ·rename_i es sz v br p hi;split at e
   ·cases e;intro i h;simp only[Lr] at h;subst h;exact⟨es,sz,v,p,hi⟩
   cases e
  cases e
 cases e
theorem W5 {hp:Hp}(v:HR g c)(w:c.hp=hp)(I:Nat->Prop):∀ {xs:List AV} {ds:List D} {b:Bool} {is:List Nat} (vs:Nat->Value),Dk hp xs=some (ds,b,is)->(∀(j:Nat) (x:AV),xs[j]? =some x->RA g c x (vs j))->
  (∀k,Im g c b k->I k)->(∀i∈is,I (c.φ i))->ds.length=xs.length/\∀(j:Nat) (d:D),ds[j]? =some d->RC c.w I d (vs j)
 |[],ds,b,is,vs,h,_,_,_=>by
  simp only[Dk,Lg,LE] at h;obtain⟨rfl,_⟩:=h;exact⟨rfl,fun j d h=>by simp at h⟩
 |x::xs,ds,b,is,vs,h,B,C,E=>by
  unfold Dk at h;split at h
  ·rename_i d L M N O Q F G;cases h;have H:=T4 v w (B 0 x rfl) F I (fun k p=>C k p.or) fun i hi=>E i (by simp[hi]);have⟨J,K⟩:=W5 v w I (fun j=>vs (j+1)) G (fun j y e=>B (j+1) y (by simpa using e)) (fun k p=>C k p.or') fun i hi=>E i (by simp[hi]);refine⟨by simp[J],fun j y e=> ?_⟩;cases j with |zero=>simp at e;subst e;exact H |succ j=>exact K j y (by simpa using e)
  cases h
theorem W6 {hp:Hp}:∀ {xs:List AV} {ds:List D} {b:Bool} {is:List Nat},Dk hp xs=some (ds,b,is)->∀i∈is,∃es sz v br e,hp i=some (.rw es sz v br e)
 |[],ds,b,is,h=>by
  simp only[Dk,Lg,LE] at h;obtain⟨_,_,rfl⟩:=h;simp
 |x::xs,ds,b,is,h=>by
  unfold Dk at h;split at h
  ·rename_i d E F G H I w B;cases h;intro i hi;rcases Lw.1 hi with p |p
   ·have⟨es,sz,v,e,C⟩:=T6 w i p;exact⟨es,sz,v,_,e,C⟩
   exact W6 B i p
  cases h
theorem T7 (M:HR g c)(N:c.hp=hp)(I:Nat->Prop){x:AV}{d:D}{b:Bool}(h:FJ hp x=some (d,b,is))(C:A6 g c x u)
  (F:∀k,Im g c b k->I k) (O:∀i∈is,I (c.φ i)):Dc c.w I d u/\(∀ds,d≠ .tu ds)/\(Ga d).length=u.cells.size/\∀(j:Nat) (e:D),(Ga d)[j]? =some e->∃y,u.cells[j]? =some y/\RC c.w I e y:=by
 have U:∀ {d:D} {u:Value},RC c.w I d u->Dc c.w I d u/\(∀ds,d≠ .tu ds)/\(Ga d).length=u.cells.size/\∀(j:Nat) (e:D),(Ga d)[j]? =some e->∃y,u.cells[j]? =some y/\RC c.w I e y:=by
  intro d u h;have w:Ga d= [d]:=by cases h<;>rfl
  have V:Dc c.w I d u:=by
   unfold Dc;split
   ·cases h
   exact h
  refine⟨V,fun ds e=> ?_,?_,?_⟩
  ·subst e;cases h
  ·rw[w,Wz h.one];rfl
  rw[w,Wz h.one];intro j e p;cases j with |zero=>simp at p;subst p;exact⟨u,rfl,h⟩ |succ j=>simp at p
 have G:∀ {cs:List D} {vs:Array Value},vs.size=cs.length->(∀(j:Nat) (e:D),cs[j]? =some e->∃y,vs[j]? =some y/\RC c.w I e y)->Dc c.w I (.ag cs) (.agg vs)/\(∀ds,D.ag cs≠ .tu ds)/\(Ga (.ag cs)).length=(Value.agg vs).cells.size/\∀(j:Nat) (e:D),(Ga (.ag cs))[j]? =some e->∃y,(Value.agg vs).cells[j]? =some y/\RC c.w I e y:=
  fun Q w=>⟨⟨_,rfl,Q,w⟩,fun ds=>by simp,Q.symm,w⟩
 unfold FJ at h;split at h
 ·rename_i cs;have⟨⟨ds,H,ak⟩,X,R⟩:=La.1 h;simp only[LE] at R;obtain⟨rfl,rfl,rfl⟩:=R;obtain⟨vs,rfl,J,E⟩:=C;have S:∀(j:Nat) (x:AV),cs[j]? =some x->vs[j]? =some (vs.getD j undef)/\RA g c x (vs.getD j undef):=by
   intro j x K;have⟨y,v,B⟩:=E j x K;have L:=(LW.1 v).1
   have:vs.getD j undef=y:=by
    rw[LC L] at v;simpa [Array.getD,L] using v
   rw[this];exact⟨v,B⟩
  have⟨g3,Y⟩:=W5 M N I (fun j=>vs.getD j undef) X (fun j x K=>(S j x K).2) F O;refine G (by omega) fun j e p=> ?_;have L:=(Lb.1 p).1;exact⟨_,(S j _ (Le (show j<cs.length by omega))).1,Y j e p⟩
 ·rename_i cs H;cases h;obtain⟨vs,rfl,J,E⟩:=C;cases hp:H0 cs with
  |true=>exact G J fun j e p=>let ⟨y,v,B⟩:=E j e p;⟨y,v,B.plain (LP.1 hp e (Ly p))⟩
  |false=>exact G J fun j e p=>let ⟨y,v,B⟩:=E j e p;⟨y,v,B.mono (fun _ _=>rfl) (by simpa [hp] using F)⟩
 rename_i Z aa;have ab:RA g c x u:=by
  cases x with
  |ag cs=>exact absurd rfl (Z cs)
  |un=>simp[Ci] at h
  |tu cs=>simp[Ci] at h
  |d y H=>cases y with |ag cs=>exact absurd rfl (aa cs H) |tu cs=>simp[Ci] at h |_=>exact C
  |_=>exact C
 exact U (T4 M N ab h I F O)
theorem T8 {x:AV}{d:D}{b:Bool}(h:FJ hp x=some (d,b,is)):∀i∈is,∃es sz v br e,hp i=some (.rw es sz v br e):=by
 unfold FJ at h;split at h
 ·have⟨⟨ds,C,E⟩,w,p⟩:=La.1 h;simp only[LE] at p;obtain⟨rfl,rfl,rfl⟩:=p;exact W6 w
 ·cases h;simp
 intro i hi;have⟨es,sz,v,e,B⟩:=T6 h i hi;exact⟨es,sz,v,_,e,B⟩
end
end
section
section
variable {P:Program}{tab:Nat->TI}{o:Oper}{a:Act}{g:Gh}{c:Cf}{id:Nat}{ρ:Operand->AV}
theorem Im.frozen (E:HR g c){kn:Nat->Prop}(hi:i∈is){es sz v br fz}(h:c.hp i=some (.rw es sz v br fz))(b:Bool):Im g ⟨CL (frz c.hp is) c.hp,c.φ,c.w,kn⟩ b (c.φ i):=by
 have⟨_,F,J⟩:=E.dom i _ h;have K:∀(is:List Nat) (B:Hp),(i∈is\/∃es sz v br,B i=some (.rw es sz v br true))->∃es sz v br,CL (Ab.frz c.hp is) B i=some (.rw es sz v br true):=by
  intro is;induction is with
  |nil=>
   intro B d;rcases d with d |d
   ·simp at d
   ·exact d
  |cons j r G=>
   intro B d;unfold Ab.frz;split
   ·rename_i L M N O U V;simp only[CL];refine G _ ?_;by_cases e:i=j
    ·subst e;exact .inr ⟨_,_,_,_,At _ _ _⟩
    rcases d with d |⟨X,Y,v1,Z,d⟩
    ·rcases Lv.1 d with w |w
     ·exact absurd w e
     exact .inl w
    exact .inr ⟨_,_,_,_,by rw[Aj _ _ e];exact d⟩
   rename_i Q;refine G _ ?_;rcases d with d |d
   ·rcases Lv.1 d with w |w
    ·subst w;exact absurd h (Q _ _ _ _ _)
    exact .inl w
   exact .inr d
 have⟨L,M,N,O,H⟩:=K is c.hp (.inl hi);have R:=(CR.frz E c.kn (fun i h=>h) is).2;refine⟨J,fun S=> ?_,fun j p C hp e=> ?_,fun _=>F.1⟩
 ·exact F.2 S
 by_cases I:j=i
 ·subst I;simp only[H,Lg] at C;subst C;simp[AO.fz] at hp
 exact R.inj j i p _ C H I e
theorem T9 {hp:Hp}(B:HR g c)(C:c.hp=hp)(I:Nat->Prop):∀ {xs:List AV} {ds:List D} {b:Bool} {is:List Nat} (p:Nat->Value),C8 hp xs=some (ds,b,is)->(∀(j:Nat) (x:AV),xs[j]? =some x->A6 g c x (p j))->
  (∀k,Im g c b k->I k)->(∀i∈is,I (c.φ i))->ds.length=xs.length/\∀(j:Nat) (d:D),ds[j]? =some d->Dc c.w I d (p j)/\(∀ds,d≠ .tu ds)/\(Ga d).length=(p j).cells.size/\∀(k:Nat) (e:D),(Ga d)[k]? =some e->∃y,(p j).cells[k]? =some y/\RC c.w I e y
 |[],ds,b,is,p,h,_,_,_=>by
  simp only[C8,Lg,LE] at h;obtain⟨rfl,_⟩:=h;exact⟨rfl,fun j d h=>by simp at h⟩
 |x::xs,ds,b,is,p,h,E,F,G=>by
  unfold C8 at h;split at h
  ·rename_i d N O Q R S H J;cases h;have K:=T7 B C I H (E 0 x rfl) (fun k w=>F k w.or) fun i hi=>G i (by simp[hi]);have⟨L,M⟩:=T9 B C I (fun j=>p (j+1)) J (fun j y v=>E (j+1) y (by simpa using v)) (fun k w=>F k w.or') fun i hi=>G i (by simp[hi]);refine⟨by simp[L],fun j y v=> ?_⟩;cases j with |zero=>simp at v;subst v;exact K |succ j=>exact M j y (by simpa using v)
  cases h
theorem UA {hp:Hp}:∀ {xs:List AV} {ds:List D} {b:Bool} {is:List Nat},C8 hp xs=some (ds,b,is)->∀i∈is,∃es sz v br p,hp i=some (.rw es sz v br p)
 |[],ds,b,is,h=>by
  simp only[C8,Lg,LE] at h;obtain⟨_,_,rfl⟩:=h;simp
 |x::xs,ds,b,is,h=>by
  unfold C8 at h;split at h
  ·rename_i d C E F G H w B;cases h;intro i hi;rcases Lw.1 hi with e |e
   ·exact T8 w i e
   exact UA B i e
  cases h
theorem gP:∀(xs ys:List (Nat × AO)) (h:Hp),CL (xs++ys) h=CL ys (CL xs h)
 |[],_,_=>rfl
 |(_,_)::xs,ys,_=>gP xs ys _
theorem CX.after {b:List (Nat × AO)}{v:AV}(d:CR c ⟨CL b c.hp,c.φ,c.w,c.kn⟩)(h:CX P o a g ⟨CL b c.hp,c.φ,c.w,c.kn⟩ id v δ):CX P o a g c id v (b++δ):=by
 have⟨e,u,w',p,w,B,C⟩:=h;refine⟨e,u,w',p,?_⟩;rw[gP];exact⟨d.trans w,B,C⟩
theorem qu {t:Nat}(b:0<sz):t=t / sz*sz+t%sz/\t%sz<sz:=⟨by have:=Nat.div_add_mod t sz;rw[Bv] at this;omega,Om _ b⟩
theorem qv (B:HR g c)(M:Ad P tab){e:Array (Nat × Operand)}(U:o.op= .buildSlice T n e)(w:(tab T).kind= .slice)(V:e.toList.map (·.1)=List.range n)(ab:(tab (tab T).elem).ok=true)
  (I:0<(tab (tab T).elem).size) (hn:n*(tab (tab T).elem).size<=16777216) (ag:∀x,A6 g c (ρ x) (a.eval x))  {b:Bool}  (X:C8 c.hp (e.toList.map fun p=>ρ p.2)=some (ds,b,is))
  (N:EZ (tab (tab T).elem).size (ds.map Ga)=true) (ak:¬c.kn id):CX P o a g c id (.so id 0 0 n) (frz c.hp is++[(id,.rw (ds.map Ga) (tab (tab T).elem).size 0 b false)]):=by
 have⟨Y,aq⟩:=CR.frz B c.kn (fun i h=>h) is;refine CX.after Y ?_;generalize hS:(tab (tab T).elem).size=sz at *;have J:e.toList.length=n:=by have:=congrArg List.length V;simpa using this
 have av:∀i∈is,Im g ⟨CL (frz c.hp is) c.hp,c.φ,c.w,c.kn⟩ b (c.φ i):=fun i hi=>by
  have⟨es,s,v,br,fz,C⟩:=UA X i hi;exact Im.frozen B hi C b
 have⟨hl,Z⟩:=T9 B rfl (Im g ⟨CL (frz c.hp is) c.hp,c.φ,c.w,c.kn⟩ b) (fun j=>(((e.toList.map fun p=>a.eval p.2))[j]?).getD undef) X (fun j x hx=>by
  rw[Ln,La] at hx;obtain⟨p,C,rfl⟩:=hx;rw[Ln,C];exact ag p.2) (fun k w=>w.ext Y) av
 have aa:ds.length=n:=by rw[hl,Lt,J]
 have⟨i,z,C,K,h3,h4,h5,h6,h7⟩:=M.info _ ab;rw[hS] at K h6;have aE:(e.map fun(i,x)=>(i,a.eval x)).toList=((e.toList.map fun p=>a.eval p.2).zipIdx 0).map fun p=>(p.2,p.1):=by
  apply BI;intro k;rw[Array.toList_map,Ln,Ln,O1,Ln];cases w:e.toList[k]? with
  |none=>simp
  |some p=>
   have O:(e.toList.map (·.1))[k]? =some p.1:=(by rw[Ln,w];rfl);have F:k<n:=by
    have:=(Lb.1 w).1;omega
   rw[V,Bd F] at O;simp only[Lg] at O;simp[<-O]
 have a0:∀v∈(e.toList.map fun p=>a.eval p.2),v.cells.size=sz:=by
  intro v hv;have⟨j,G⟩:=NX.1 hv;have F:=(Lb.1 G).1;simp only[Lt] at F;have a1:ds[j]? =some ds[j]:=Le (by omega);have⟨_,_,E,_⟩:=Z j _ a1;have g2:(Ga ds[j]).length=sz:=by
   have:=LP.1 N (Ga ds[j]) (LG (LN _));simpa using this
  rw[G] at E;simpa [g2] using E.symm
 have⟨H,k1,Q,k3,k4⟩:=gO sz I (e.toList.map fun p=>a.eval p.2) 0 ((Array.range (n*sz)).map (z.cells[· %z.cells.size]!)) (by simp[J]) a0;rw[<-aE] at k1;have a2:(execOp a.eval o).run P c.w= .ok (.value (.slice (some ⟨c.w.heap.size,0,none⟩) n n)) (c.w.alloc (.cells H (tab T).elem)):=by
  unfold execOp;by_cases h0:n=0
  ·subst h0;have e0:e.toList= []:=LV J;have e1:e= #[]:=(by simpa using e0);subst e1;have e2:H= #[]:=BE (by rw[Q];simp);subst e2;simp[U,Instr.buildSlice,run_underlying (M.slice w),sizeOf,typeInfo,C,Instr.fill,newRow];congr 2;exact BE (by simp)
  have a3:¬n*i.size=0:=by
   rw[K]
   have:=Nat.mul_pos (Nat.pos_of_ne_zero h0) I;omega
  have:=run_buildSlice (P:=P) c.w T (tab T).elem n (e.map fun(i,x)=>(i,a.eval x)) H i z (M.slice w) C h4 (by rw[K];omega) a3 (by rw[K];exact k1);simp only[U,Sem.run_bind,this,Result.andThen_ok,Sem.run_pure]
 refine W1 aq ak a2 (fun c' he L R=>⟨I,fun i cs hi=> ?_,(tab T).elem,H,n,?_,by rw[Q];simp,by simp[aa],?_,fun i j cs d hi G=> ?_⟩) fun c' he L R hh a4=> ?_
 ·have:=LP.1 N cs (Ly hi);simpa using this
 ·rw[L,R];exact heap_alloc_new _ _
 ·have:n*1<=n*sz:=Nat.mul_le_mul_left _ I;simp only[maxLen];omega
 ·rw[Ln,La] at hi;obtain⟨S,E,rfl⟩:=hi;have⟨_,_,g2,g3⟩:=Z i S E;have⟨y,g4,g5⟩:=g3 j d G;have F:i<n:=by
   have:=(Lb.1 E).1;omega
  have g6:(e.toList.map fun p=>a.eval p.2)[i]? =some (((e.toList.map fun p=>a.eval p.2)[i]?).getD undef):=by
   rw[Le (by simpa [J] using F)];rfl
  have a5:j<sz:=by
   have e1:=(Lb.1 G).1;have e2:(Ga S).length=sz:=by
    have:=LP.1 N (Ga S) (LG (Ly E));simpa using this
   omega
  have:=k4 i j _ g6 a5;rw[Ny] at this;exact⟨y,by rw[this];exact g4,RC.ext he g5⟩
 refine RA.so id 0 0 n _ a4 ⟨_,_,rfl⟩ fun es s v br fz B=> ?_
 rw[hh] at B;cases B;refine⟨Lc _,fun _=>⟨by simp[aa],H,(tab T).elem,n,?_,by rw[Q];simp,by rw[L,BK]⟩⟩;rw[L,R];exact heap_alloc_new _ _
end
end
section
section
variable {P:Program}{tab:Nat->TI}{o:Oper}{a:Act}{g:Gh}{c:Cf}{id:Nat}{ρ:Operand->AV}
def G8 (m sz:Nat)(f:Nat->Nat->Value):List Value:=(List.range (m*sz)).map fun t=>f (t / sz) (t%sz)
theorem Zk {m:Nat}{f:Nat->Nat->Value}{t:Nat}{v:Value}(b:0<sz)(h:(G8 m sz f)[t]? =some v):t / sz<m/\t%sz<sz/\v=f (t / sz) (t%sz)/\t=t / sz*sz+t%sz:=by
 unfold G8 at h;rw[Ln] at h;by_cases d:t<m*sz
 ·rw[Bd d] at h;simp only[LT,Lg] at h;refine⟨(Nat.div_lt_iff_lt_mul b).2 d,Om _ b,h.symm,(qu b).1⟩
 rw[Nl (by simp;omega)] at h;cases h
theorem Zl {m:Nat}{f:Nat->Nat->Value}(hi:i<m)(b:j<sz):(G8 m sz f)[i*sz+j]? =some (f i j):=by
 have d:i*sz+j<m*sz:=by
  have:(i+1)*sz<=m*sz:=LS _ hi;rw[Nk] at this;omega
 have e:0<sz:=by omega
 have p:(i*sz+j) / sz=i:=by rw[Bv,Nat.mul_add_div e,Iy b];rfl
 have v:(i*sz+j)%sz=j:=by rw[Bv,Nat.mul_add_mod,BQ b]
 unfold G8;rw[Ln,Bd d];simp[p,v]
theorem SE (m sz:Nat)(f:Nat->Nat->Value):(G8 m sz f).length=m*sz:=by simp[G8]
def Zm (g:Gh)(c:Cf)(u:Value)(ys:List (List D))(b:Bool)(sz:Nat):Prop:=(ys= []/\∃A e,u= .slice A 0 e)\/ (ys≠[]/\∃(v p e:Nat) (f:Nat->Nat->Value),u= .slice (some ⟨v,p,none⟩) ys.length e/\(∀i j,i<ys.length->j<sz->c.w.cell? ⟨v,p+(i*sz+j),none⟩=some (f i j)/\(f i j).oneCell'=true)/\ ∀(i j:Nat) (cs:List D) (d:D),ys[i]? =some cs->cs[j]? =some d->RC c.w (Im g c b) d (f i j))
theorem SF {es:List (List D)}(h:EZ sz es=true){cs:List D}(hi:es[i]? =some cs):cs.length=sz:=by
 have:=LP.1 h cs (Ly hi);simpa using this
theorem gQ (hr:HR g c){y:AV}{b:Bool}(Q:A6 g c y u)(h:Gb c.hp y=some (ys,b,is))(Y:EZ sz ys=true):Zm g c u ys b sz:=by
 unfold Gb at h;split at h
 ·cases h;have F:=Q.dsl;generalize I:D.sl ys=dd at F;cases F with
  |nl A R=>cases I;exact .inl ⟨rfl,A,R,rfl⟩
  |sl es bl p R w Z hI hc G hm F=>
   cases I;by_cases M:ys= []
   ·subst M;exact .inl ⟨rfl,_,_,rfl⟩
   ·have S:w=sz:=by
     have hp:0<ys.length:=Nz.2 M;have e:ys[0]? =some ys[0]:=Le hp;rw[<-G 0 _ e,SF Y e]
    subst S;have ak:∀(i j:Nat) (cs:List D) (d:D),ys[i]? =some cs->cs[j]? =some d->RC c.w (Im g c (_&& !H9 ys)) d (Z i j):=fun i j cs d e B=>by
     cases hp:H9 ys with |true=>exact(F i j cs d e B).plain (LP.1 (LP.1 hp cs (Ly e)) d (Ly B)) |false=>simpa using F i j cs d e B
    refine .inr ⟨M,bl,p,R,Z,rfl,fun i j hi H=> ?_,ak⟩;have e:ys[i]? =some ys[i]:=Le hi;have J:=G i _ e;have B:ys[i][j]? =some (ys[i][j]'(by omega)):=Le (by omega)
    have:=hm i j _ _ e B;rw[Nv] at this;exact⟨this,(F i j _ _ e B).one⟩
  |v x h1=>cases I
  |pt _ _ _ _ _ _ _ _=>cases I
  |mp _ _ _ _ _ _ _ _ _=>cases I
 ·rename_i i v off n;split at h;rotate_left
  ·cases h
  rename_i es w ver br fz hi;split at h;rotate_left
  ·cases h
  rename_i hv;cases h;subst hv;obtain⟨h1,_,E,T,C,aa,h3,rfl⟩:=A6.so (show A6 g c (.so i _ off n) u from Q) hi;have⟨M,G,T',vs,C',ab,h5,h6,h7,h8⟩:=hr.obj i _ hi;rw[aa] at ab;cases ab;have J:((es.drop off).take n).length=n:=by rw[Lx,ND];omega
  by_cases N:(es.drop off).take n= []
  ·rw[N] at J;simp only[LB] at J;subst J;exact .inl ⟨N,_,_,rfl⟩
  have S:w=sz:=by
   have hp:0<((es.drop off).take n).length:=Nz.2 N;have e:((es.drop off).take n)[0]? =some ((es.drop off).take n)[0]:=Le hp;rw[<-G _ _ (KH _ _ _ _ _ e).2,SF Y e]
  subst S;have ag:∀k j,k<n->j<w->∃u d cs,E[(off+k)*w+j]? =some u/\es[off+k]? =some cs/\cs[j]? =some d/\RC c.w (Im g c b) d u:=by
   intro k j U H;have e:es[off+k]? =some es[off+k]:=Le (by omega);have av:=G _ _ e;have B:es[off+k][j]? =some (es[off+k][j]'(by omega)):=Le (by omega);have⟨u,O,K⟩:=h8 _ _ _ _ e B;exact⟨u,_,_,O,e,B,K⟩
  refine .inr ⟨N,c.φ i,off*w,C,fun k j=>E.getD ((off+k)*w+j) undef,by rw[J],fun k j U H=> ?_,fun k j cs d U H=> ?_⟩
  ·have⟨u,d,cs,e,_,_,K⟩:=ag k j (by omega) H;have L:=(LW.1 e).1;have V:E.getD ((off+k)*w+j) undef=u:=by
    rw[LC L] at e;simpa [Array.getD,L] using e
   show c.w.cell? _=some (E.getD ((off+k)*w+j) undef)/\(E.getD ((off+k)*w+j) undef).oneCell'=true;rw[V];refine⟨?_,K.one⟩;have e6:off*w+(k*w+j)=(off+k)*w+j:=(by rw[Nk];omega);simp[World.cell?,aa,e6,e]
  have X:=(KH _ _ _ _ _ U);have aq:j<w:=by
   have:=(Lb.1 H).1
   have:=G _ _ X.2;omega
  have⟨u,d',aE,e,B,O,K⟩:=ag k j X.1 aq;rw[X.2] at B;cases B;rw[H] at O;cases O;have L:=(LW.1 e).1;have V:E.getD ((off+k)*w+j) undef=u:=by
   rw[LC L] at e;simpa [Array.getD,L] using e
  show RC c.w (Im g c b) d (E.getD ((off+k)*w+j) undef);rw[V];exact K
 ·cases h;exact .inl ⟨rfl,none,0,Q.v.1⟩
 cases h
theorem gS (d:Ad P tab){E:TypeId}(e:(tab T).kind= .slice)(v:(tab (tab T).elem).ok=true)(b:Option Addr)(n cap:Nat)(A:Option Addr)(B:Nat)(h:n<=cap)(w:World):
  (Builtin.append_ #[T,T] E #[.slice b n cap,.slice A 0 B]).run P w= .ok (.slice b n cap) w:=by
 have C:(Builtin.firstCells (tab (tab T).elem).size 0 (.slice A 0 B)).run P w= .ok #[] w:=by
  cases A<;>simp[Builtin.firstCells,loadCells,loadCellsFrom]
 cases b with
 |none=>simp[Builtin.append_,run_underlying (d.slice e),d.sizeOf v,Builtin.lenOf,h,C]
 |some p=>simp[Builtin.append_,run_underlying (d.slice e),d.sizeOf v,Builtin.lenOf,h,C,storeCells]
theorem qw (w:World)(t G e C:TypeId)(i:TypeInfo)(H:P.underlying t=some (.slice e))(hi:P.info? e=some i)
  (p d B:Nat) (v:Array Value) (I:w.heap[p]? =some (.cells v C (0,0)))
  (ad:Addr) (m E:Nat) (b:List Value) (J:b.length=m*i.size) (K:∀(j:Nat) (u:Value),b[j]? =some u->w.cell? (ad.add j)=some u) (L:∀u∈b,u.oneCell'=true)
  (M:d+m<=B) (N:d*i.size+b.length<=v.size):
  (Builtin.append_ #[t,t] G #[.slice (some ⟨p,0,none⟩) d B,.slice (some ad) m E]).run P w=
   .ok (.slice (some ⟨p,0,none⟩) (d+m) B) (w.setRow p (DN (d*i.size) b v.toList).toArray):=by
 have O:=run_firstCells_some (P:=P) w i.size m ad m E b J K;have F:=run_storeCells_at P p (d*i.size) C b 0 v w I (by simpa using N) L;simp only[NP] at F;simp[Builtin.append_,run_underlying H,sizeOf,typeInfo,hi,Builtin.lenOf,M,O,Addr.add_lit,F,DN]
theorem UB (b:o.op= .call { callee:=.builtin .append,args:= #[x,y],argTypes:= #[T,T] }){w:World}(h:∀d,(Builtin.append_ #[T,T] d #[a.eval x,a.eval y]).run P w= .ok u w'):(execOp a.eval o).run P w= .ok (.value u) w':=by
 unfold execOp;simp[b,resolve,invoke,builtin,h]
theorem Zn (w:HR g c){w0:World}(e:w0.heap=c.w.heap)(K:w0.os=c.w.os)(L:w0.tape=c.w.tape)(M:w0.output=c.w.output){cells:Array Value}{C:Nat}{es:List (List D)}(B:¬c.kn id)(N:0<sz)(O:∀(i:Nat) (cs:List D),es[i]? =some cs->cs.length=sz)
  (E:cells.size=C*sz) (Y:es.length=n) (Z:n<=C) (Q:C<=maxLen) (R:∀(i j:Nat) (cs:List D) (d:D),es[i]? =some cs->cs[j]? =some d->∃u,cells[i*sz+j]? =some u/\RC c.w (Im g c br) d u)
  (h:(execOp a.eval o).run P c.w= .ok (.value (.slice (some ⟨c.w.heap.size,0,none⟩) n C)) (w0.alloc (.cells cells T))) (S:c.w.drawn<=w0.drawn:=by first |exact Lc _ |exact Bj _):CX P o a g c id (.so id ver 0 n) [(id,.rw es sz ver br false)]:=by
 have F:(w0.alloc (.cells cells T)).heap[c.w.heap.size]? =some (.cells cells T (0,0)):=by rw[<-e];exact heap_alloc_new _ _
 have G:∀k,k<c.w.heap.size->(w0.alloc (.cells cells T)).heap[k]? =c.w.heap[k]? :=fun k H=>by
  rw[<-e] at H⊢;exact heap_alloc_old w0 _ H
 have I:c.w.heap.size<(w0.alloc (.cells cells T)).heap.size:=by rw[<-e];simp
 have p:=CR.new (ao:=.rw es sz ver br false) (kn:=fun k=>c.kn k\/k=id) w B (w':=w0.alloc (.cells cells T)) (b:=c.w.heap.size) K L M (BL I) G (Lc _) (fun _ h=>.inl h) S;refine⟨upd id c.w.heap.size c.φ,_,_,.val h,p,HR.new w p B (Lc _) I (.inr rfl) G ⟨N,O,T,cells,C,?_,E,by omega,Q,fun i j cs d hi U=> ?_⟩,?_⟩
 ·simp only[At];exact F
 ·have⟨u,V,X⟩:=R i j cs d hi U;exact⟨u,V,RC.ext p X⟩
 refine RA.so id ver 0 n _ (.inr rfl) ⟨_,_,rfl⟩ fun aa s v br fz J=> ?_
 simp only[CL,At,Lg,AO.rw.injEq] at J;obtain⟨rfl,rfl,rfl,rfl,rfl⟩:=J;refine⟨Lc _,fun _=>⟨by omega,cells,T,C,?_,by rw[E,Ny],?_⟩⟩
 ·simp only[At];exact F
 simp only[At,BK]
theorem append_nil (F:HR g c)(w:Ad P tab)(G:o.op= .call { callee:=.builtin .append,args:= #[x,y],argTypes:= #[T,T] })(H:(tab T).kind= .slice)(I:(tab (tab T).elem).ok=true)(J:0<(tab (tab T).elem).size)
  (K:a.eval x= .slice none 0 0)  {b:Bool} (O:Zm g c (a.eval y) ys b (tab (tab T).elem).size) (L:EZ (tab (tab T).elem).size ys=true) (hb:ys.length*(tab (tab T).elem).bytes<=140737488355328) (M:ys.length<=maxLen) (Q:¬c.kn id) {v:AV} 
  (e:(if ys.length=0 then some (.v (.slice none 0 0),[]) else some (.so id 0 0 ys.length,[(id,.rw ys (tab (tab T).elem).size 0 b false)]))=some (v,δ)):CX P o a g c id v δ:=by
 rcases O with⟨rfl,A,B,E⟩ |⟨R,S,p,B,f,E,U,V⟩
 ·simp only[LB,if_true,Lg,LE] at e;obtain⟨rfl,rfl⟩:=e;exact CX.pure F (UB G fun X=>by rw[K,E];exact gS w H I none 0 0 A B (Lc _) c.w) (RA.v _ rfl)
 have Y:0<ys.length:=Nz.2 R;rw[ifn] at e;simp only[Lg,LE] at e;obtain⟨rfl,rfl⟩:=e;have⟨i,z,Z,aa,h3,h4,h5,h6,h7⟩:=w.info _ I;generalize hS:(tab (tab T).elem).size=sz at *;have ab:=run_append_nil (P:=P) c.w T o.type (tab T).elem i z (w.slice H) Z h4 ⟨S,p,none⟩ ys.length B (G8 ys.length sz f) (by rw[SE,aa]) (fun t v e=>by
  obtain⟨e1,e2,rfl,e4⟩:=Zk J e;rw[HT]
  have:=(U _ _ e1 e2).1;rw[<-e4] at this;exact this) Y (by simp only[maxLen] at M;omega) (by rw[h3];omega)
 have ag:=grownCap_ge c.w ys.length 0 (tab T).elem;have ak:=grownCap_le_maxLen c.w ys.length 0 (tab T).elem M;refine Zn F (w0:=c.w.drew) rfl rfl rfl rfl Q J (fun i cs hi=>SF L hi) (C:=grownCap c.w ys.length 0 (tab T).elem) ?_ rfl ag ak (fun i j cs d hi N=> ?_) (UB G fun X=>by rw[K,E];exact ab)
 ·rw[Oc,size_zeroCells,h5];simp only[Ni,SE,h6,<-Nk];congr 1;omega
 have aq:=(Lb.1 hi).1;have av:j<sz:=by
  have:=(Lb.1 N).1;rw[SF L hi] at this;exact this
 refine⟨f i j,?_,V i j cs d hi N⟩
 have:=Zl (f:=f) aq av;have aE:=(Lb.1 this).1;rw[NJ (by simpa using aE)];simpa using this
theorem qy (V:HR g c)(I:Ad P tab)(ho:o.op= .call { callee:=.builtin .append,args:= #[x,y],argTypes:= #[T,T] })(E:(tab T).kind= .slice)(he:(tab (tab T).elem).ok=true)(a3:0<(tab (tab T).elem).size)
   {es:List (List D)} {b:Bool} (hi:c.hp i=some (.rw es (tab (tab T).elem).size ver br false)) (hx:A6 g c (.so i ver 0 n) (a.eval x)) (hn:n<=es.length) (hs:Zm g c (a.eval y) ys b (tab (tab T).elem).size) (bg:EZ (tab (tab T).elem).size ys=true)
  (hb:(n+ys.length)*(tab (tab T).elem).bytes<=140737488355328) (hm:n+ys.length<=maxLen):CX P o a g c id (.so i (ver+1) 0 (n+ys.length)) [(i,.rw (es.take n++ys) (tab (tab T).elem).size (ver+1) (br||b) false)]:=by
 generalize hS:(tab (tab T).elem).size=sz at *;have⟨_,O,w,Q,C,h2,X,h4⟩:=A6.so hx hi;have⟨h0,hz,b9,vs,C',h5,h6,h7,h8,h9⟩:=V.obj i _ hi;rw[h2] at h5;cases h5;rw[Ny] at X;rw[BK] at h4;have bl:C=C':=BS h0 (X.symm.trans h6);subst bl;have bo:=(V.dom i _ hi).2.2;have cb:(es.take n++ys).length=n+ys.length:=by rw[Ld,Lx];omega
 have a2:∀(k:Nat) (cs:List D),(es.take n++ys)[k]? =some cs->cs.length=sz:=by
  intro k cs B;by_cases O:k<n
  ·rw[NK (by rw[Lx];omega),Nh,if_pos O] at B;exact hz k cs B
  rw[Nn (by rw[Lx];omega)] at B;exact SF bg B
 have a4:∀ {L:Array Value} {H:Cf} {f:Nat->Nat->Value},CR c H->(∀t,t<n*sz->L[t]? =w[t]?)->(∀k j,k<ys.length->j<sz->L[n*sz+(k*sz+j)]? =some (f k j))->(∀(i j:Nat) (cs:List D) (d:D),ys[i]? =some cs->cs[j]? =some d->RC c.w (Im g c b) d (f i j))->
   ∀(k j:Nat) (cs:List D) (d:D),(es.take n++ys)[k]? =some cs->cs[j]? =some d->∃u,L[k*sz+j]? =some u/\RC H.w (Im g H (br||b)) d u:=by
  intro L H f J ag ak Y k j cs d B R;have bs:j<sz:=by
   have:=(Lb.1 R).1;rw[a2 k cs B] at this;exact this
  by_cases O:k<n
  ·rw[NK (by rw[Lx];omega),Nh,if_pos O] at B;have⟨u,F,S⟩:=h9 k j cs d B R;refine⟨u,?_,(RC.ext J S).mono (fun _ _=>rfl) fun _ hh=>hh.or⟩;rw[ag _ (by
    have:(k+1)*sz<=n*sz:=LS _ O;rw[Nk] at this;omega)]
   exact F
  rw[Nn (by rw[Lx];omega),Lx,B5 hn] at B;have bx:=(Lb.1 B).1;refine⟨f (k-n) j,?_,(RC.ext J (Y _ _ _ _ B R)).mono (fun _ _=>rfl) fun _ hh=>hh.or'⟩;have F:k*sz+j=n*sz+((k-n)*sz+j):=by
   have:k=n+(k-n):=(by omega);rw[<-Nv,<-Nk,<-this]
  rw[F];exact ak _ _ bx bs
 have b0:∀ {H:Cf} {L:Array Value} {C2:Nat} {K:Nat},H.kn i->H.hp i=some (.rw (es.take n++ys) sz (ver+1) (br||b) false)->H.φ i=K->H.w.heap[K]? =some (.cells L Q (0,0))->L.size=C2*sz->A6 g H (.so i (ver+1) 0 (n+ys.length)) (.slice (some ⟨K,0,none⟩) (n+ys.length) C2):=by
  intro H L C2 K b1 hh a5 hw M;refine RA.so i (ver+1) 0 (n+ys.length) _ b1 ⟨_,_,rfl⟩ fun U s v Z aa aq=> ?_;rw[hh] at aq;cases aq;exact⟨Lc _,fun _=>⟨by omega,L,Q,C2,by rw[a5];exact hw,by rw[M,Ny],by rw[a5,BK]⟩⟩
 have cf:∀U av v' Z aa,AO.rw (es.take n++ys) sz (ver+1) (br||b) false= .rw U av v' Z aa->∃a6 v b2 fz,AO.rw es sz ver br false= .rw a6 av v b2 fz/\v<=v'/\(v=v'->a6.length=U.length):=by
  intro U av v' Z aa e;cases e;exact⟨es,ver,br,false,rfl,by omega,fun e=>by omega⟩
 have a9:∀ {L:Array Value} {f:Nat->Nat->Value},L.size=w.size->n+ys.length<=C->(∀t,t<n*sz->L[t]? =w[t]?)->(∀k j,k<ys.length->j<sz->L[n*sz+(k*sz+j)]? =some (f k j))->(∀(i j:Nat) (cs:List D) (d:D),ys[i]? =some cs->cs[j]? =some d->RC c.w (Im g c b) d (f i j))->
   (execOp a.eval o).run P c.w= .ok (.value (.slice (some ⟨c.φ i,0,none⟩) (n+ys.length) C)) (c.w.setRow (c.φ i) L)->CX P o a g c id (.so i (ver+1) 0 (n+ys.length)) [(i,.rw (es.take n++ys) sz (ver+1) (br||b) false)]:=by
  intro L f M a1 ag ak Y ab;have aE:(c.w.setRow (c.φ i) L).heap[c.φ i]? =some (.cells L Q (0,0)):=setRow_heap c.w (c.φ i) w _ Q _ h2;have a0:∀k,k<c.w.heap.size->k≠c.φ i->(c.w.setRow (c.φ i) L).heap[k]? =c.w.heap[k]? :=fun k _ E=>setRow_other c.w (c.φ i) k _ E;have J:CR c ⟨upd i (some (.rw (es.take n++ys) sz (ver+1) (br||b) false)) c.hp,upd i (c.φ i) c.φ,c.w.setRow (c.φ i) L,fun k=>c.kn k\/k=id⟩:=by
   refine CR.chg V hi rfl rfl rfl rfl (by simp) a0 (.inl rfl) (fun _ h=>.inl h) (fun h=>by cases h) fun U av v' Z aa e=> ?_;cases e;exact⟨es,ver,br,false,rfl,by omega,fun e=>by omega⟩
  refine⟨_,_,_,.val ab,J,HR.chg V hi J a0 (.inl rfl) (by simpa using bo) ⟨h0,a2,Q,L,C,?_,by rw[M,X],by omega,h8,a4 J ag ak Y⟩,b0 (.inl O) (At _ _ _) (At _ _ _) aE (by rw[M,X])⟩;simp only[At];exact aE
 rcases hs with⟨rfl,A,cx,hy⟩ |⟨ch,K,p,cx,f,hy,Y,hd⟩
 ·have b3:c.w.setRow (c.φ i) w=c.w:=setRow_self c.w (c.φ i) w Q (0,0) h2;refine a9 (L:=w) (f:=fun _ _=>undef) rfl (by simp;omega) (fun _ _=>rfl) (fun k j E _=>by simp at E) (fun i j cs d hi _=>by simp at hi) (UB ho fun ty=> ?_);rw[h4,hy,b3];exact gS I E he _ n C A cx (by omega) c.w
 have⟨it,z,g1,g2,g3,g4,g5,g6,g7⟩:=I.info _ he;rw[hS] at g2 g6;have ba:∀(t:Nat) (v:Value),(G8 ys.length sz f)[t]? =some v->c.w.cell? ((⟨K,p,none⟩:Addr).add t)=some v:=fun t v N=>by
  obtain⟨F,S,rfl,e4⟩:=Zk a3 N;rw[HT]
  have:=(Y _ _ F S).1;rw[<-e4] at this;exact this
 have b4:∀v∈G8 ys.length sz f,v.oneCell'=true:=fun v N=>by
  have⟨t,I⟩:=NX.1 N;obtain⟨F,S,rfl,_⟩:=Zk a3 I;exact(Y _ _ F S).2
 have bb:n*sz+ys.length*sz=(n+ys.length)*sz:=by rw[Nk]
 by_cases a1:n+ys.length<=C
 ·have bd:n*sz+(G8 ys.length sz f).length<=w.size:=by rw[SE,X,bb];exact LS _ a1
  have ab:=qw (P:=P) c.w T o.type (tab T).elem Q it (I.slice E) g1 (c.φ i) n C w h2 ⟨K,p,none⟩ ys.length cx (G8 ys.length sz f) (by rw[SE,g2]) ba b4 a1 (by rw[g2];exact bd);rw[g2] at ab;have hl:n*sz+(G8 ys.length sz f).length<=w.toList.length:=by simpa using bd
  refine a9 (L:=(DN (n*sz) (G8 ys.length sz f) w.toList).toArray) (f:=f) (by rw[Ni,IJ _ _ _ hl];simp) a1 (fun t I=> ?_) (fun k j B R=> ?_) hd (UB ho fun ty=>by rw[h4,hy];exact ab)
  ·rw[Nx,IK _ _ _ hl,if_pos I];simp
  have F:=Zl (f:=f) B R;have S:=(Lb.1 F).1;rw[Nx,IK _ _ _ hl,ifn,ifp,Nat.add_sub_cancel_left];exact F
 have b5:∀(t:Nat) (v:Value),(w.toList.take (n*sz))[t]? =some v->c.w.cell? ((⟨c.φ i,0,none⟩:Addr).add t)=some v:=fun t v N=>by
  rw[Nh] at N;split at N
  ·rw[HT,Ny];simp[World.cell?,h2];simpa using N
  cases N
 have b6:n*sz<=w.size:=by rw[X];exact LS _ (by omega)
 have ab:=run_append_grow (P:=P) c.w T o.type (tab T).elem it z (I.slice E) g1 g4 ⟨c.φ i,0,none⟩ n C (w.toList.take (n*sz)) (by rw[g2,Lx];simp;omega) b5 ⟨K,p,none⟩ ys.length cx (G8 ys.length sz f) (by rw[SE,g2]) ba (by omega)
  (by simp only[maxLen] at hm;omega) (growslice_fits (by omega) (by rw[g3];exact hb))
 have cp:=grownCap_ge c.w (n+ys.length) C (tab T).elem;have b7:=grownCap_le_maxLen c.w (n+ys.length) C (tab T).elem hm;generalize hG:grownCap c.w (n+ys.length) C (tab T).elem=G at *;generalize M:(w.toList.take (n*sz)).toArray++(G8 ys.length sz f).toArray++Builtin.zeroCells z.cells (G-(n+ys.length))=L at *;have be:L.size=G*sz:=by
  rw[<-M,Oc,Oc,size_zeroCells,g5];simp only[Ni,SE,g6,Lx,NM,B5 b6];rw[bb,<-Nk];congr 1;omega
 have ag:∀t,t<n*sz->L[t]? =w[t]? :=fun t I=>by
  rw[<-M,Ie,NJ (by simp;omega)];simp[I]
 have ak:∀k j,k<ys.length->j<sz->L[n*sz+(k*sz+j)]? =some (f k j):=fun k j B R=>by
  have F:=Zl (f:=f) B R;have S:=(Lb.1 F).1;rw[<-M,Ie,Bl (by simp;omega),NJ (by simp;omega)];have e3:n*sz+(k*sz+j)-(w.toList.take (n*sz)).toArray.size=k*sz+j:=by simp;omega
  rw[e3];simpa using F
 have aE:(c.w.drew.alloc (.cells L (tab T).elem)).heap[c.w.heap.size]? =some (.cells L (tab T).elem (0,0)):=heap_alloc_new c.w.drew _;have a0:∀k,k<c.w.heap.size->(c.w.drew.alloc (.cells L (tab T).elem)).heap[k]? =c.w.heap[k]? :=fun k E=>heap_alloc_old c.w.drew _ E;have b8:c.w.heap.size<(c.w.drew.alloc (.cells L (tab T).elem)).heap.size:=by simp
 have J:CR c ⟨upd i (some (.rw (es.take n++ys) sz (ver+1) (br||b) false)) c.hp,upd i c.w.heap.size c.φ,c.w.drew.alloc (.cells L (tab T).elem),fun k=>c.kn k\/k=id⟩:=by
  refine CR.chg V hi rfl rfl rfl rfl (by simp) (fun k E _=>a0 k E) (.inr (Lc _)) (fun _ h=>.inl h) (fun h=>by cases h) fun U av v' Z aa e=> ?_;cases e;exact⟨es,ver,br,false,rfl,by omega,fun e=>by omega⟩
 refine⟨_,_,_,.val (UB ho fun ty=>by rw[h4,hy];exact ab),J,HR.chg V hi J (fun k E _=>a0 k E) (.inr (Lc _)) b8 ⟨h0,a2,(tab T).elem,L,G,?_,be,by omega,b7,a4 J ag ak hd⟩,?_⟩
 ·simp only[At];exact aE
 refine RA.so i (ver+1) 0 (n+ys.length) _ (.inl O) ⟨_,_,rfl⟩ fun U s v Z aa aq=> ?_
 simp only[CL,At,Lg,AO.rw.injEq] at aq;obtain⟨rfl,rfl,rfl,rfl,rfl⟩:=aq;exact⟨Lc _,fun _=>⟨by omega,L,(tab T).elem,G,by simp only[At];exact aE,by rw[be,Ny],by simp only[At,BK]⟩⟩
end
end
section
section
variable {P:Program}{tab:Nat->TI}{o:Oper}{a:Act}{g:Gh}{c:Cf}{id:Nat}{ρ:Operand->AV}
theorem qz (N:HR g c)(Z:Ad P tab){T:Nat}(ho:o.op= .store T x y)(aa:(tab T).ok=true){b:Bool}{es:List (List D)}{cs:List D}(hx:A6 g c (.pr i ver k off) (a.eval x))(hi:c.hp i=some (.rw es sz ver br false))
  (F:es[k]? =some cs) (hy:A6 g c vy (a.eval y)) (ab:EB vy=some xs) (hd:ds.length=xs.length/\∀(j:Nat) (d:D),ds[j]? =some d->RC c.w (Im g c b) d ((a.eval y).cells.getD j undef)) (hn:xs.length=(tab T).size) (hf:off+xs.length<=cs.length):
  CX P o a g c id .un [(i,.rw (es.set k (DN off ds cs)) sz ver (br||b) false)]:=by
 have⟨e,_⟩:=hx.pr hi;have⟨h0,H,T',vs,C,O,h2,h3,ag,ak⟩:=N.obj i _ hi;have⟨h4,h5⟩:=T3 ab hy;have aq:cs.length=sz:=H k cs F;have a4:k<es.length:=(Lb.1 F).1;have av:∀v∈(a.eval y).cells.toList,v.oneCell'=true:=fun v hv=>by
  have⟨j,w⟩:=NX.1 hv;have I:=(Lb.1 w).1;simp only[NM] at I;have⟨z,J,K⟩:=h5 j _ (Le (show j<xs.length by omega));rw[NQ,J] at w;cases w;exact K.one
 have aE:(k+1)*sz<=C*sz:=LS _ (by omega);rw[Nk,Bk] at aE;have a0:=gC Z aa c.w (c.φ i) (k*sz+off) T' vs (a.eval y) O (by omega) (by omega) av;have a1:(execOp a.eval o).run P c.w= .ok .skip (c.w.setRow (c.φ i) (DN (k*sz+off) (a.eval y).cells.toList vs.toList).toArray):=by
  unfold execOp;simp only[ho,e,Instr.storeAt,Instr.sureAddr,Sem.run_bind,Sem.run_pure,Result.andThen_ok,a0]
 have L:k*sz+off+(a.eval y).cells.toList.length<=vs.toList.length:=by simp;omega
 have⟨g1,g2⟩:=hd;have Q:off+ds.length<=cs.length:=by omega
 refine gD N hi rfl O (by rw[Ni,IJ _ _ _ L];simp) a1 (fun h=>by cases h) (fun a5 a6 v' a9 ba e=>by cases e;exact⟨es,ver,br,false,rfl,Lc _,fun _=>by simp⟩) fun R S a2 hw=>
  ⟨h0,fun E a3 p=> ?_,T',_,C,by rw[a2];exact hw,by rw[Ni,IJ _ _ _ L];simpa using h2,by simpa using h3,ag,fun E j a3 d p w=> ?_⟩
 ·rw[Ob] at p;split at p
  ·cases p;rw[IJ _ _ _ Q,aq]
  exact H _ _ p
 rw[Nx,IK _ _ _ L];simp only[NM,h4];rw[Ob] at p;have G:∀ {U:List D},es[E]? =some U->U[j]? =some d->∃u,vs.toList[E*sz+j]? =some u/\RC R.w (Im g R (br||b)) d u:=fun J K=>by
  have⟨u,h8,h9⟩:=ak E j _ d J K;exact⟨u,by simpa using h8,(RC.ext S h9).mono (fun _ _=>rfl) fun _ M=>M.or⟩
 split at p
 ·rename_i V;subst V;cases p;have B:=w;rw[IK _ _ _ Q] at B;by_cases X:j<off
  ·rw[if_pos X] at B;rw[ifp];exact G F B
  rw[if_neg X] at B;rw[ifn];by_cases Y:j<off+ds.length
  ·rw[if_pos Y] at B;rw[ifp];have e2:k*sz+j-(k*sz+off)=j-off:=(by omega);rw[e2];have I:j-off<(a.eval y).cells.size:=(by omega);refine⟨(a.eval y).cells.getD (j-off) undef,?_,(RC.ext S (g2 _ _ B)).mono (fun _ _=>rfl) fun _ M=>M.or'⟩;simp[Array.getD,I]
  rw[if_neg Y] at B;rw[ifn];exact G F B
 rename_i V;have bb:j<sz:=by
  have:=(Lb.1 w).1;rw[H _ _ p] at this;exact this
 by_cases q:E<k
 ·have:(E+1)*sz<=k*sz:=LS _ q;rw[Nk,Bk] at this;rw[ifp];exact G p w
 have:(k+1)*sz<=E*sz:=LS _ (by omega);rw[Nk,Bk] at this;rw[ifn,ifn];exact G p w
theorem Zp {hp:Hp}{i:Nat}:∀(is:List Nat) (b:Hp),IG i is=true->CL (frz hp is) b i=b i
 |[],_,_=>rfl
 |j::r,b,h=>by
  unfold IG at h;split at h
  ·cases h
  rename_i d;unfold frz;split
  ·exact(Zp r _ h).trans (Aj _ _ d)
  exact Zp r _ h
theorem rA (e:HR g c)(G:Ad P tab){T:Nat}(H:o.op= .store T x y)(I:(tab T).ok=true){b:Bool}{es:List (List D)}{cs:List D}(J:A6 g c (.pr i ver k off) (a.eval x))(hi:c.hp i=some (.rw es sz ver br false))
  (p:es[k]? =some cs) (B:A6 g c vy (a.eval y)) (C:EB vy=some xs) (E:Dk c.hp xs=some (ds,b,is)) (K:xs.length=(tab T).size) (L:off+xs.length<=cs.length) (M:IG i is=true):
  CX P o a g c id .un (frz c.hp is++[(i,.rw (es.set k (DN off ds cs)) sz ver (br||b) false)]):=by
 have⟨d,N⟩:=CR.frz e c.kn (fun i h=>h) is;refine CX.after d ?_;have O:∀i∈is,Im g ⟨CL (frz c.hp is) c.hp,c.φ,c.w,c.kn⟩ b (c.φ i):=fun i hi=>by
  have⟨es,s,v,br,X,Q⟩:=W6 E i hi;exact Im.frozen e hi Q b
 have⟨Y,R⟩:=T3 C B;have S:∀(j:Nat) (x:AV),xs[j]? =some x->RA g c x ((a.eval y).cells.getD j undef):=fun j x U=>by
  have⟨z,w,V⟩:=R j x U;have F:=(LW.1 w).1
  have:(a.eval y).cells.getD j undef=z:=by
   rw[LC F] at w;simpa [Array.getD,F] using w
  rw[this];exact V
 have g:=W5 e rfl (Im g ⟨CL (frz c.hp is) c.hp,c.φ,c.w,c.kn⟩ b) (fun j=>(a.eval y).cells.getD j undef) E S (fun k p=>p.ext d) O;exact qz N G H I (J.ext d) ((Zp is c.hp M).trans hi) p (B.ext d) C g K L
theorem Zq {xs:List Value}(h:JH cs=some xs)(p:vs.size=cs.length)(w:∀(j:Nat) (y:AV),cs[j]? =some y->∃z,vs[j]? =some z/\RA g c y z):vs=xs.toArray:=by
 have B:∀(cs:List AV) (xs:List Value),JH cs=some xs->cs=xs.map AV.v:=by
  intro cs;induction cs with
  |nil=>intro xs h;simp[JH] at h;subst h;rfl
  |cons x r C=>
   intro xs h;cases x with
   |v x=>
    simp only[JH,La] at h;obtain⟨ys,b,rfl⟩:=h;rw[C ys b];rfl
   |_=>simp[JH] at h
 have e:=B cs xs h;subst e;apply IE;apply BI;intro j;by_cases d:j<xs.length
 ·have⟨z,b,E⟩:=w j (.v xs[j]) (by simp[d]);rw[NQ,b];cases E;simp[d]
 rw[Nl (by simp at p⊢;omega),Nl (by simpa using d)]
theorem W7 {x:AV}(b:F2 x=some cs)(h:A6 g c x u):∃vs:Array Value,u= .agg vs/\vs.size=cs.length/\∀(j:Nat) (y:AV),cs[j]? =some y->∃z,vs[j]? =some z/\RA g c y z:=by
 unfold F2 at b;split at b
 ·cases b;exact h
 ·cases b;obtain⟨vs,rfl,p,v⟩:=h;refine⟨vs,rfl,by rw[Lt];exact p,fun j y e=> ?_⟩;rw[Ln,La] at e;obtain⟨d,w,rfl⟩:=e;have⟨z,B,C⟩:=v j d w;exact⟨z,B,C.toRA⟩
 cases b
theorem gT {x:AV}(h:SC x=true)(b:A6 g c x u):∃p,u= .pointer (some p):=by
 unfold SC at h;split at h
 ·rw[b.pt.1];exact⟨_,rfl⟩
 ·rename_i i ver k off;cases(show RA g c (.pr i ver k off) u from b) with
  |pr _ _ _ _ _ _ d _=>exact d
 ·have:=b.dpt;cases this with |pt=>exact⟨_,rfl⟩
 cases h
theorem gU (hp:P.underlying T=some .bool)(s t:Bool)(w:World):(Op.equal T (.bool s) (.bool t)).run P w= .ok (s==t) w:=by
 have e:Op.equal T (.bool s) (.bool t)=Op.equalIn (9999+1) T (.bool s) (.bool t):=rfl;rw[e,Op.equalIn];simp[run_underlying hp]
theorem gV {e:TypeId}(hp:P.underlying T=some (.pointer e))(p:Addr)(w:World):(Op.equal T (.pointer (some p)) (.pointer none)).run P w= .ok false w:=by
 have e:Op.equal T (.pointer (some p)) (.pointer none)=Op.equalIn (9999+1) T (.pointer (some p)) (.pointer none):=rfl;rw[e,Op.equalIn];simp[run_underlying hp]
theorem W8 (w:World)(d:Nat)(t e:TypeId)(a:Option Addr)(n c n' b:Nat)(h:P.underlying t=some (.slice e)):
  (Op.equalIn (d+1) t (.slice a n c) (.slice none n' b)).run P w= .ok a.isNone w:=by
 cases a<;>simp[Op.equalIn,run_underlying h]
theorem rB {x:AV}(h:Ww x=true)(d:A6 g c x u):∃p n m,u= .slice (some p) n m:=by
 unfold Ww at h;split at h
 ·have:=d.dsl;cases this with |sl es b o e sz v w B C E F=>exact⟨_,_,_,rfl⟩
 cases h
theorem rC {x:AV}(h:Kt x=true)(b:A6 g c x u):∃r,u= .map (some r):=by
 unfold Kt at h;split at h
 ·rename_i i;cases(show RA g c (.mo i) u from b) with
  |mo _ _ _=>exact⟨_,rfl⟩
 cases h
theorem Zr (e:HR g c){p:BinOp}(w:o.op= .binOp p T x y T'){z:Value}(e1:a.eval x=u)(e2:a.eval y=z)(d:z= .slice none 0 0\/z= .map none)(B:(Op.equal T u z).run P c.w= .ok false c.w){v:AV}(h:Py p=some v):CX P o a g c id v []:=by
 have C:∀cs,z≠ .agg cs:=fun cs=>by rcases d with rfl |rfl<;>simp
 have E:z≠ .nilIface:=by rcases d with rfl |rfl<;>simp
 have F:(binOp .eql T u z).run P c.w= .ok (.bool false) c.w:=by
  rcases d with rfl |rfl<;>cases u<;>simp[binOp,B]
 have G:(binOp .neq T u z).run P c.w= .ok (.bool true) c.w:=by
  rcases d with rfl |rfl<;>cases u<;>simp[binOp,B]
 unfold Py at h;split at h
 ·cases h;exact Kv e w (fun cs ds b=>C ds (e2▸b.2)) (fun b=>E (e2▸b.2)) (u:=.bool false) (by rw[e1,e2];exact F) (RA.v _ rfl)
 ·cases h;exact Kv e w (fun cs ds b=>C ds (e2▸b.2)) (fun b=>E (e2▸b.2)) (u:=.bool true) (by rw[e1,e2];exact G) (RA.v _ rfl)
 cases h
theorem P4 (K:HR g c)(H:Ad P tab){F:BinOp}(E:o.op= .binOp F T x y T'){v:AV}(N:A6 g c vx (a.eval x))(O:A6 g c vy (a.eval y))(h:Mk tab F T vx vy=some v):CX P o a g c id v []:=by
 unfold Mk at h;split at h
 ·rename_i s t;have w:=N.v.1;have C:=O.v.1;have hp:(tab T).kind= .bool->P.underlying T=some .bool:=fun I=>by
   have⟨d,B,M⟩:=H.kind T (H.okOf (by rw[I];decide));rw[I] at M;subst M;exact B
  split at h
  ·rename_i I;cases h;exact Kv K E (by simp[w]) (by simp[w]) (u:=.bool (s==t)) (by rw[w,C];simp[binOp,gU (hp I)]) (RA.v _ rfl)
  ·rename_i I;cases h;exact Kv K E (by simp[w]) (by simp[w]) (u:=.bool !(s==t)) (by rw[w,C];simp[binOp,gU (hp I)]) (RA.v _ rfl)
  cases h
 ·rename_i s t _;simp only[La] at h;obtain⟨u,B,rfl⟩:=h;have⟨w,o1⟩:=N.v;have⟨C,_⟩:=O.v;have Q:∀(F:BinOp) (z:Value) (G:Bool),(F= .eql/\G=true)\/(F= .neq/\G=false)->o.op= .binOp F T x y T'->a.eval x=z->a.eval y=z->(z= .slice none 0 0\/z= .pointer none)->(Op.equal T z z).run P c.w= .ok true c.w->CX P o a g c id (.v (.bool G)) []:=by
   intro F z G R E w C S L;refine Kv K E (fun cs ds J=>by rcases S with rfl |rfl<;>(rw[w] at J;cases J.1)) (fun J=>by rcases S with rfl |rfl<;>(rw[w] at J;cases J.1)) (u:=.bool G) ?_ (RA.v _ rfl);rw[w,C];rcases R with⟨rfl,rfl⟩ |⟨rfl,rfl⟩<;>rcases S with rfl |rfl<;>simp[binOp,L]
  unfold IH at B;split at B
  ·split at B
   ·rename_i I;have L:(Op.equal T (.slice none 0 0) (.slice none 0 0)).run P c.w= .ok true c.w:=by
     have:=W8 (P:=P) c.w 9999 T (tab T).elem none 0 0 0 0 (H.slice I);exact this
    split at B
    ·cases B;exact Q .eql _ true (.inl ⟨rfl,rfl⟩) E w C (.inl rfl) L
    ·cases B;exact Q .neq _ false (.inr ⟨rfl,rfl⟩) E w C (.inl rfl) L
    cases B
   cases B
  ·split at B
   ·rename_i I;have⟨d,U,X⟩:=H.kind T (H.okOf (by rw[I];decide));rw[I] at X;obtain⟨e,rfl⟩:=X;have L:(Op.equal T (.pointer none) (.pointer none)).run P c.w= .ok true c.w:=by
     have V:Op.equal T (.pointer none) (.pointer none)=Op.equalIn (9999+1) T (.pointer none) (.pointer none):=rfl;rw[V,Op.equalIn];simp[run_underlying U]
    split at B
    ·cases B;exact Q .eql _ true (.inl ⟨rfl,rfl⟩) E w C (.inr rfl) L
    ·cases B;exact Q .neq _ false (.inr ⟨rfl,rfl⟩) E w C (.inr rfl) L
    cases B
   cases B
  have⟨M,U⟩:=qX (P:=P) (T:=T) c.w B;refine Kv K E (fun cs ds J=> ?_) (fun J=> ?_) (u:=u) (by rw[w,C];exact M) (RA.v _ U)
  ·rw[w] at J;exact qZ o1 _ J.1
  rw[w,C] at J;obtain⟨rfl,rfl⟩:=J;simp[GF] at B
 ·rename_i Y _ _;split at h
  ·rename_i hp;have⟨p,w⟩:=gT hp.1 N;have C:=O.v.1;have⟨d,B,M⟩:=H.kind T (H.okOf (by rw[hp.2];decide));rw[hp.2] at M;obtain⟨e,rfl⟩:=M;split at h
   ·cases h;exact Kv K E (by simp[w]) (by simp[w]) (u:=.bool false) (by rw[w,C];simp[binOp,gV B]) (RA.v _ rfl)
   ·cases h;exact Kv K E (by simp[w]) (by simp[w]) (u:=.bool true) (by rw[w,C];simp[binOp,gV B]) (RA.v _ rfl)
   cases h
  cases h
 ·rename_i Y _ _;split at h
  ·rename_i hp;have⟨p,n,m,w⟩:=rB hp.1 N;exact Zr K E (e1:=w) (e2:=O.v.1) (.inl rfl) (W8 (P:=P) c.w 9999 T (tab T).elem (some p) n m 0 0 (H.slice hp.2)) h
  cases h
 ·rename_i Y _ _;split at h
  ·rename_i hp;have⟨r,w⟩:=rC hp.1 N;have⟨q,hq⟩:=NG.1 hp.2;have⟨kt,f1,_⟩:=H.mkey T q hq;exact Zr K E (e1:=w) (e2:=O.v.1) (.inr rfl) (by
    have V:Op.equal T (.map (some r)) (.map none)=Op.equalIn (9999+1) T (.map (some r)) (.map none):=rfl;rw[V,Op.equalIn];simp[run_underlying f1]) h
  cases h
 split at h;rotate_left
 ·cases h
 rename_i Z cs ds aa ag ak;split at h
 ·rename_i xs ys aq av;split at h
  ·rename_i b hb;have⟨vs,w,n1,q1⟩:=W7 ag N;have⟨us,C,n2,q2⟩:=W7 ak O;have w1:=Zq aq n1 q1;have w2:=Zq av n2 q2;subst w1;subst w2;have L:=H.flat T Z aa xs ys b hb c.w;have aE:=H.guard T Z aa;have ab:∀(F:BinOp) (G:Bool),(F= .eql/\G=b)\/(F= .neq/\G= !b)->o.op= .binOp F T x y T'->CX P o a g c id (.v (.bool G)) []:=by
    intro F G R E;refine CX.pure K (u:=.bool G) ?_ (RA.v _ rfl);unfold execOp;have hg:(eqGuard F T x y (.agg xs.toArray) (.agg ys.toArray)).run P c.w= .ok () c.w:=by
     rcases R with⟨rfl,_⟩ |⟨rfl,_⟩<;>simp[eqGuard,program,Sem.run,aE]
    have a0:(binOp F T (.agg xs.toArray) (.agg ys.toArray)).run P c.w= .ok (.bool G) c.w:=by
     rcases R with⟨rfl,rfl⟩ |⟨rfl,rfl⟩<;>simp[binOp,L]
    simp only[E,w,C,Sem.run_bind,hg,a0,Result.andThen_ok,Sem.run_pure]
   split at h
   ·cases h;exact ab .eql b (.inl ⟨rfl,rfl⟩) E
   ·cases h;exact ab .neq (!b) (.inr ⟨rfl,rfl⟩) E
   cases h
  cases h
 cases h
theorem rD (b:HR g c)(d:Ad P tab){e:BinOp}(p:o.op= .binOp e T x y T'){v:AV}(w:A6 g c vx (a.eval x))(B:A6 g c vy (a.eval y))(h:GH tab c.hp e T vx vy=some v):CX P o a g c id v []:=by
 unfold GH at h;split at h
 ·split at h
  ·rename_i es sz ver br H hi;split at h
   ·rename_i F;obtain⟨rfl,G⟩:=F;have⟨_,_,I,J,C,_,_,E⟩:=A6.so w hi;exact Zr b p (e1:=E) (e2:=B.v.1) (.inl rfl) (W8 (P:=P) c.w 9999 T (tab T).elem _ _ _ 0 0 (d.slice G)) h
   cases h
  cases h
 exact P4 b d p w B h
end
end
section
section
variable {P:Program}{tab:Nat->TI}{o:Oper}{a:Act}{g:Gh}{c:Cf}{id:Nat}{ρ:Operand->AV}
theorem UC {w:World}{r:Nat}{es:Array MapEntry}{b:Nat}(d:w.heap[r]? =some (.map es b)):(getObj r).run P w= .ok (.map es b) w:=by
 simp[getObj,Sem.run,d]
theorem UD {w:World}{r:Nat}{es:Array MapEntry}{b:Nat}(ob:Obj)(d:w.heap[r]? =some (.map es b)):(setObj r ob).run P w= .ok () { w with heap:=w.heap.setIfInBounds r ob }:=by
 simp[setObj,Sem.run,d]
theorem rE {w:World}{r:Nat}{o o':Obj}(d:w.heap[r]? =some o):(w.heap.setIfInBounds r o')[r]? =some o'/\∀b,b≠r->(w.heap.setIfInBounds r o')[b]? =w.heap[b]? :=by
 have e:r<w.heap.size:=(LW.1 d).1;exact⟨by simp[e],fun b p=>by simp[Ne.symm p]⟩
theorem gW {x:AV}(h:F3 x=true)(e:A6 g c x u):Di g c x u:=by
 cases x with
 |tu cs=>cases h
 |d x b=>cases x with |tu cs=>cases h |_=>exact e
 |_=>exact e
theorem UE {x:AV}(h:En x=some kv)(b:A6 g c x u):u=kv:=by
 unfold En at h;split at h
 ·rename_i cs d;obtain⟨xs,e,rfl⟩:=La.1 h;obtain⟨vs,rfl,p,v⟩:=W7 d b;rw[Zq e p v]
 split at h
 ·cases h;exact b.v.1
 cases h
theorem Zs {q:Bool × List TK}{x:Value}:∀ {es:List (Value × AV)} {r:Option (Nat × AV)},EC q x es=some r->JI q x (es.map (·.1))=some (r.map (·.1))/\∀i v,r=some (i,v)->∃y,es[i]? =some (y,v)/\Jc q x y=some true
 |[],r,h=>by cases h;exact⟨rfl,fun i v h=>by cases h⟩
 |(y,v)::es,r,h=>by
  unfold EC at h;simp only[Lh];unfold JI;split at h
  ·rename_i e;cases h;exact⟨rfl,fun i B h=>by cases h;exact⟨y,rfl,e⟩⟩
  ·rename_i e;split at h
   ·rename_i i w C;cases h;have⟨b,d⟩:=Zs C;rw[b];exact⟨rfl,fun F B h=>by cases h;exact d i w rfl⟩
   rename_i o E;have⟨b,d⟩:=Zs h;rw[b];cases r with
   |none=>exact⟨rfl,fun i v h=>by cases h⟩
   |some p=>exact absurd h (E p.1 p.2)
  cases h
theorem HU (v:HR g c)(b:A6 g c (.mo i) (a.eval m))(hi:c.hp i=some (.mo es dl)):
  a.eval m= .map (some (c.φ i))/\c.kn i/\∃en k,c.w.heap[c.φ i]? =some (.map en k)/\en.size=es.length/\(dl=false->k=en.size/\∀(i:Nat) (e:MapEntry),en[i]? =some e->e.born=i)/\
   en.toList.map (·.key)=es.map (·.1)/\∀(i:Nat) (x:Value) (y:AV),es[i]? =some (x,y)->∃e,en[i]? =some e/\e.key=x/\Di g c y e.val:=by
 generalize a.eval m=u at b;cases(show RA g c (.mo i) u from b) with
 |mo _ w H=>
  have⟨en,k,B,C,E,d⟩:=v.obj i _ hi;refine⟨rfl,w,en,k,B,C,E,?_,d⟩;apply BI;intro j;by_cases p:j<es.length
  ·have⟨e,F,G,_⟩:=d j es[j].1 es[j].2 (by simp[p]);simp[p,F,G]
  rw[Nl (by simp;omega),Nl (by simp;omega)]
theorem SG (G:Ad P tab){T:Nat}(H:(tab T).mkey=some q)(I:GI q kv=true)(J:EC q kv es=some r)
  (B:en.toList.map (·.key)=es.map (·.1)) (hs:en.size=es.length):∃b,P.underlying T=some (.map b (tab T).elem)/\(tab (tab T).elem).ok=true/\(∀w e,(Instr.checkKey e 10000 b kv).run P w= .ok () w)/\
   ((r=none/\∀w,(Instr.findKey b kv en.toList).run P w= .ok none w)\/∃i v e y,r=some (i,v)/\es[i]? =some (y,v)/\y=kv/\en[i]? =some e/\e.key=kv/\Instr.sameBits 10000 kv kv=true/\∀w,(Instr.findKey b kv en.toList).run P w= .ok (some (i,e.val)) w):=by
 obtain⟨b,K,L,M⟩:=G.mkey T q H;obtain⟨N,O,Q⟩:=M kv I;obtain⟨R,S⟩:=Zs J;refine⟨b,K,L,N,?_⟩;have C:=Q en.toList (r.map (·.1)) (by rw[B];exact R);cases r with
 |none=>exact .inl ⟨rfl,C⟩
 |some p=>
  obtain⟨i,v⟩:=p;obtain⟨y,d,U⟩:=S i v rfl;obtain⟨E,V⟩:=O y U;have Y:=(Lb.1 d).1;have F:i<en.size:=by omega
  have X:en[i].key=y:=by
   have:=congrArg (·[i]?) B;simp only[Ln,d,LT] at this;simpa [F] using this
  refine .inr ⟨i,v,en[i],y,rfl,d,E,by simp,X.trans E,V,fun w=> ?_⟩
  have:=C w;simpa [F] using this
theorem rF (v:HR g c){T:Nat}(b:o.op= .makeMap T none)(w:¬c.kn id):CX P o a g c id (.mo id) [(id,.mo [] false)]:=by
 have B:(execOp a.eval o).run P c.w= .ok (.value (.map (some c.w.heap.size))) (c.w.alloc (.map #[] 0)):=by
  unfold execOp;simp[b,Instr.makeMap,newObj,Sem.run]
 refine W1 v w B (fun C E d p=>⟨#[],0,?_,rfl,fun _=>⟨rfl,fun i e h=>by simp at h⟩,fun i x y h=>by simp at h⟩) fun C E d p F G=> ?_
 ·rw[d,p];exact heap_alloc_new _ _
 rw[<-d];exact RA.mo id G fun o b=>by rw[F] at b;cases b;rfl
theorem W9 (C:Ad P tab){T:Nat}(h:(tab T).ok=true)(b:II (tab T)=some z)(c:Cf)(w:World):∃u,(zeroValue T).run P w= .ok u w/\Di g c z u:=by
 have⟨i,u,E,_,_,F,d,_,G,H,I⟩:=C.info T h;refine⟨u,by simp[zeroValue,typeInfo,E,F],?_⟩;unfold II at b;split at b
 ·rename_i e;cases b;obtain⟨vs,rfl⟩:=H e;simp only[Value.cells] at d;subst d;refine⟨_,rfl,by simp,fun j x p=> ?_⟩;rw[Ln,La] at p;obtain⟨y,v,rfl⟩:=p;exact⟨y,by simpa using v,RA.v y (G y (Ly v))⟩
 rename_i e;split at b
 ·rename_i J K;cases b;have B:=I (by simpa using e);rw[Wz B,K] at d
  have:u=J:=by simpa using d
  subst this;exact RA.v u B
 cases b
theorem P5 {x:AV}{v:Value}{b:AV}(e:Di g c x u)(p:Di g c b v):A6 g c (.tu [x,b]) (.tuple #[u,v]):=by
 refine⟨#[u,v],rfl,rfl,fun j y d=> ?_⟩
 match j with
 |0=>cases d;exact⟨u,rfl,e⟩
 |1=>cases d;exact⟨v,rfl,p⟩
 |j+2=>simp at d
theorem Di.at_ {x:AV}(h:Di g c x u):A6 g c x u:=by
 cases x with
 |tu cs=>cases h
 |d x b=>cases x with
  |tu cs=>cases h with |d _ _ _ e=>cases e
  |_=>exact h
 |_=>exact h
theorem gX (b:HR g c)(p:Ad P tab){T:Nat}{k:Operand}{ok:Bool}(w:o.op= .lookup T x k ok)(M:(tab T).mkey=some q)(N:En vk=some kv)(O:A6 g c vk (a.eval k))(Q:II (tab (tab T).elem)=some z)(R:GI q kv=true)
     (S:A6 g c (.mo i) (a.eval x)) (hi:c.hp i=some (.mo es dl))  (U:EC q kv es=some r) {v:AV}
  (B:v=(match r with |none=>if ok then .tu [z,.v (.bool false)] else z |some (_,v)=>if ok then .tu [v,.v (.bool true)] else v)):CX P o a g c id v []:=by
 have⟨C,_,en,kk,V,X,_,Y,Z⟩:=HU b S hi;have E:=UE N O;have⟨kt,F,f2,G,f4⟩:=SG p M R U Y X;have H:=UC (P:=P) V;have⟨I,z1,J⟩:=W9 (g:=g) p f2 Q c c.w;rcases f4 with⟨rfl,d⟩ |⟨j,v',e,y,rfl,g1,rfl,g2,g3,g4,d⟩
 ·refine CX.pure b (u:=if ok then .tuple #[I,.bool false] else I) ?_ ?_
  ·unfold execOp;simp only[w,C,E,Instr.lookup,Sem.run_bind,run_underlying F,Result.andThen_ok,H,Sem.run_pure,G,d,z1]
  subst B;cases ok
  ·exact J.at_
  exact P5 J (RA.v _ rfl)
 have⟨e',K,k2,L⟩:=Z j _ v' g1;rw[g2] at K;cases K;refine CX.pure b (u:=if ok then .tuple #[e.val,.bool true] else e.val) ?_ ?_
 ·unfold execOp;simp only[w,C,E,Instr.lookup,Sem.run_bind,run_underlying F,Result.andThen_ok,H,Sem.run_pure,G,d]
 subst B;cases ok
 ·exact L.at_
 exact P5 L (RA.v _ rfl)
theorem rG {b:Bool}{ag:Bool}{cs:List D}(p:u.cells.size=cs.length)(F:ag=true->∃vs,u= .agg vs)(G:ag=false->u.cells= #[u])(w:∀(j:Nat) (d:D) (x:Value),cs[j]? =some d->u.cells[j]? =some x->RC c.w (Im g c b) d x):Di g c (Ee b (ag,cs)) u:=by
 cases ag with
 |true=>
  obtain⟨vs,rfl⟩:=F rfl;refine⟨vs,rfl,p,fun j d B=> ?_⟩;have C:j<vs.size:=by
   have:=(Lb.1 B).1
   have:vs.size=cs.length:=p;omega
  exact⟨vs[j],by simp[C],w j d _ B (by simp[Value.cells,C])⟩
 |false=>
  have E:=G rfl;rw[E] at p
  match cs,p with
  |[d],_=>
   have e:=w 0 d u rfl (by rw[E];rfl);show Di g c (CI b d) u;cases d with |ag _=>cases e |tu _=>cases e |v x=>exact RC.toRA e |sl x=>exact RC.toRA e |pt x y=>exact RC.toRA e |mp x=>exact RC.toRA e
theorem gY {I:Nat->Prop}{w:World}{x:Value}(h:x.oneCell'=true):RC w I (Jd x) x:=by
 unfold Jd;split
 ·exact .nl _ _
 exact .v _ h
theorem rH (J:Ad P tab){T:Nat}{b:Bool}(h:(tab T).ok=true)(B:II (tab T)=some z)(c:Cf)(w:World):∃u,(zeroValue T).run P w= .ok u w/\Di g c (Ml b (tab T)) u:=by
 have⟨u,K,E⟩:=W9 (g:=g) J h B c w;refine⟨u,K,?_⟩;unfold II at B;unfold Ml;split at B
 ·rename_i F;cases B;rw[F];obtain⟨vs,rfl,L,M⟩:=E;refine⟨vs,rfl,by simpa using L,fun j d H=> ?_⟩;rw[Ln,La] at H;obtain⟨y,N,rfl⟩:=H;have⟨U,O,Q⟩:=M j (.v y) (by simp[N]);cases Q with |v _ G=>exact⟨y,O,gY G⟩
 rename_i F;have R:(tab T).agg=false:=by simpa using F
 rw[R];split at B
 ·rename_i y e;cases B;rw[e];obtain⟨rfl,G⟩:=A6.v (g:=g) (c:=c) (x:=y) (u:=u) E;split
  ·rename_i S;cases S;exact E
  have p:=RC.toRA (g:=g) (c:=c) (b:=b) (gY (w:=c.w) (I:=Im g c b) G);show Di g c (CI b (Jd u)) u;cases C:Jd u with |ag _=>exact absurd C (by unfold Jd;split<;>simp) |tu _=>exact absurd C (by unfold Jd;split<;>simp) |v x=>rw[C] at p;exact p |sl x=>rw[C] at p;exact p |pt x o=>rw[C] at p;exact p |mp x=>rw[C] at p;exact p
 cases B
theorem gZ (G:HR g c)(H:Ad P tab){T:Nat}{k:Operand}{ok:Bool}(I:o.op= .lookup T x k ok)(hq:(tab T).mkey=some q)(aa:En vk=some kv)(ab:A6 g c vk (a.eval k))(hz:II (tab (tab T).elem)=some z)(hw:GI q kv=true)
  {es:List (Value × Bool × List D)} {b:Bool} (J:A6 g c (.d (.mp es) b) (a.eval x))  (hf:EC q kv (Eo b es)=some r) {v:AV}
  (K:v=(match r with |none=>if ok then .tu [Ml b (tab (tab T).elem),.v (.bool false)] else Ml b (tab (tab T).elem) |some (_,v)=>if ok then .tu [v,.v (.bool true)] else v)):CX P o a g c id v []:=by
 generalize L:a.eval x=u at J;cases(show RA g c (.d (.mp es) b) u from J) with
 |d _ _ _ hc=>
  cases hc with
  |mp _ rr en kk hI h1 h2 M h4=>
   have N:=UE aa ab;have hs:en.size=(Eo b es).length:=(by simp[Eo,h2]);have ag:en.toList.map (·.key)=(Eo b es).map (·.1):=by
    apply BI;intro j;by_cases hj:j<es.length
    ·have O:j<en.size:=(by omega);obtain⟨p,Q⟩:∃p,es[j]? =some p:=⟨_,Le hj⟩;have⟨w,B,C⟩:=p
     have:=(M j w B C en[j] Q (by simp[O])).1;simp[Eo,Q,O,this]
    rw[Nl (by simp;omega),Nl (by simp[Eo];omega)]
   have⟨kt,R,f2,S,f4⟩:=SG H hq hw hf ag hs;have U:=UC (P:=P) h1;have⟨V,z1,X⟩:=rH (g:=g) (b:=b) H f2 hz c c.w;rcases f4 with⟨rfl,E⟩ |⟨j,v',e,y,rfl,F,ey,Y,g3,g4,E⟩
   ·refine CX.pure G (u:=if ok then .tuple #[V,.bool false] else V) ?_ ?_
    ·unfold execOp;simp only[I,L,N,Instr.lookup,Sem.run_bind,run_underlying R,Result.andThen_ok,U,Sem.run_pure,S,E,z1]
    subst K;cases ok
    ·exact X.at_
    exact P5 X (RA.v _ rfl)
   subst ey;have Z:Di g c v' e.val:=by
    unfold Eo at F;rw[Ln,La] at F;have⟨⟨w,B,C⟩,g5,g6⟩:=F;simp only[LE] at g6;obtain⟨_,rfl⟩:=g6;have⟨_,q1,q2,q3⟩:=M j w B C e g5 Y;exact rG q1 q2 q3 fun i d u hd hu=>h4 j i w B C e d u g5 Y hd hu
   refine CX.pure G (u:=if ok then .tuple #[e.val,.bool true] else e.val) ?_ ?_
   ·unfold execOp;simp only[I,L,N,Instr.lookup,Sem.run_bind,run_underlying R,Result.andThen_ok,U,Sem.run_pure,S,E]
   subst K;cases ok
   ·exact Z.at_
   exact P5 Z (RA.v _ rfl)
theorem rI (C:HR g c)(d:Ad P tab){T:Nat}{k:Operand}{ok:Bool}(E:o.op= .lookup T x k ok)(F:(tab T).mkey=some q)(G:En vk=some kv)(H:A6 g c vk (a.eval k))(I:II (tab (tab T).elem)=some z)(J:GI q kv=true)
  (K:A6 g c (.v (.map none)) (a.eval x)) {v:AV} (L:v=if ok then .tu [z,.v (.bool false)] else z):CX P o a g c id v []:=by
 have M:=K.v.1;have N:=UE G H;have⟨O,Q,R,S,U⟩:=SG d F J (es:=[]) (r:=none) rfl (en:= #[]) rfl rfl;have⟨p,V,B⟩:=W9 (g:=g) d R I c c.w;have b:∀w,(Instr.findKey O kv []).run P w= .ok none w:=by
  rcases U with⟨_,b⟩ |⟨j,X,e,y,h,_⟩
  ·exact b
  cases h
 refine CX.pure C (u:=if ok then .tuple #[p,.bool false] else p) ?_ ?_
 ·unfold execOp;simp only[E,M,N,Instr.lookup,Sem.run_bind,run_underlying Q,Result.andThen_ok,Sem.run_pure,S,b,V]
 subst L;cases ok
 ·exact B.at_
 exact P5 B (RA.v _ rfl)
theorem UF (w:HR g c){d:List (Value × AV)}{B:Bool}{en':Array MapEntry}{k':Nat}(hi:c.hp i=some (.mo es dl))(F:c.w.heap[c.φ i]? =some (.map en k)){v:AV}
  (h:G7 P o a c.w u { c.w with heap:=c.w.heap.setIfInBounds (c.φ i) (.map en' k') }) (G:en'.size=d.length) (H:B=false->k'=en'.size/\∀(i:Nat) (e:MapEntry),en'[i]? =some e->e.born=i)
  (I:∀(j:Nat) (x:Value) (y:AV),d[j]? =some (x,y)->∃e,en'[j]? =some e/\e.key=x/\Di g c y e.val) (J:∀C,CR c C->A6 g C v u):CX P o a g c id v [(i,.mo d B)]:=by
 have⟨K,L⟩:=rE (o':=.map en' k') F;have E:∀b,b<c.w.heap.size->b≠c.φ i->(c.w.heap.setIfInBounds (c.φ i) (.map en' k'))[b]? =c.w.heap[b]? :=fun b _ M=>L b M;have p:CR c ⟨upd i (some (.mo d B)) c.hp,upd i (c.φ i) c.φ,{ c.w with heap:=c.w.heap.setIfInBounds (c.φ i) (.map en' k') },fun k=>c.kn k\/k=id⟩:=
  CR.chg w hi rfl rfl rfl rfl (by simp) E (.inl rfl) (fun _ h=>.inl h) (fun _=>⟨rfl,rfl⟩) fun _ _ _ _ _ e=>by cases e
 refine⟨_,u,_,h,p,HR.chg w hi p E (.inl rfl) (by simpa using(w.dom i _ hi).2.2) ?_,J _ p⟩;exact⟨en',k',by simp only[At];exact K,G,H,fun j x y N=>let ⟨e,e1,e2,e3⟩:=I j x y N;⟨e,e1,e2,e3.ext p⟩⟩
theorem Zt {v:AV}{e:MapEntry}(d:en[j]? =some e)(G:en.size=es.length)(f:MapEntry->MapEntry)(p:f e={ e with key:=kv,val:=u })(w:Di g c v u)
  (B:∀(i:Nat) (x:Value) (y:AV),es[i]? =some (x,y)->∃e,en[i]? =some e/\e.key=x/\Di g c y e.val):
  ∀(i:Nat) (x:Value) (y:AV),(es.set j (kv,v))[i]? =some (x,y)->∃e,(en.modify j f)[i]? =some e/\e.key=x/\Di g c y e.val:=by
 intro i x y h;have H:=(LW.1 d).1;rw[Ob] at h;split at h
 ·rename_i b;subst b;rw[ifp] at h;cases h;refine⟨{ e with key:=kv,val:=u },?_,rfl,w⟩;rw[NR];simp[d,p]
 rename_i b;have⟨C,E,F⟩:=B i x y h;exact⟨C,by rw[NR,if_neg b];exact E,F⟩
theorem Zu (f:MapEntry->MapEntry)(b:∀e,(f e).born=e.born)(h:k=en.size/\∀(i:Nat) (e:MapEntry),en[i]? =some e->e.born=i):k=(en.modify j f).size/\∀(i:Nat) (e:MapEntry),(en.modify j f)[i]? =some e->e.born=i:=by
 refine⟨by simpa using h.1,fun i e hi=> ?_⟩;rw[NR] at hi;split at hi
 ·obtain⟨d,p,rfl⟩:=La.1 hi;rw[b];exact h.2 i d p
 exact h.2 i e hi
theorem ga {v:AV}{b:Nat}(d:en.size=es.length)(p:Di g c v u)
  (w:∀(i:Nat) (x:Value) (y:AV),es[i]? =some (x,y)->∃e,en[i]? =some e/\e.key=x/\Di g c y e.val):
  ∀(i:Nat) (x:Value) (y:AV),(es++[(kv,v)])[i]? =some (x,y)->∃e,(en.push ⟨kv,u,b⟩)[i]? =some e/\e.key=x/\Di g c y e.val:=by
 intro i x y h;rw[Bo] at h;rw[O9];split at h
 ·rw[ifn];exact w i x y h
 rename_i B
 have:i=es.length:=by
  have:=(Lb.1 h).1;simp at this;omega
 subst this;simp only[BM,Nc,Lg,LE] at h;obtain⟨rfl,rfl⟩:=h;rw[if_pos d.symm];exact⟨_,rfl,rfl,p⟩
theorem gc (h:k=en.size/\∀(i:Nat) (e:MapEntry),en[i]? =some e->e.born=i):k+1=(en.push ⟨kv,u,k⟩).size/\∀(i:Nat) (e:MapEntry),(en.push ⟨kv,u,k⟩)[i]? =some e->e.born=i:=by
 refine⟨by simp[h.1],fun i e hi=> ?_⟩;rw[O9] at hi;split at hi
 ·rename_i b;cases hi;rw[b];exact h.1
 exact h.2 i e hi
theorem gf (h:Instr.sameBits 10000 kv kv=true)(w:World):(Instr.keyThatStays kv kv).run P w= .ok kv w:=by
 simp[Instr.keyThatStays,h]
theorem gg (C:HR g c)(L:Ad P tab){T:Nat}{k:Operand}(B:o.op= .mapUpdate T m k x\/o.op= .insert T m k x)(M:(tab T).mkey=some q)(Y:En vk=some kv)(Z:A6 g c vk (a.eval k))(N:GI q kv=true)
  (hx:A6 g c vx (a.eval x)) (aa:F3 vx=true)  {O:List (Value × AV)}  (hm:A6 g c (.mo i) (a.eval m)) (hi:c.hp i=some (.mo es dl)) (d:Ef q kv vx es=some O):CX P o a g c id .un [(i,.mo O dl)]:=by
 have⟨e1,_,en,E,p,b,Q,R,S⟩:=HU C hm hi;have e2:=UE Y Z;have U:=UC (P:=P) p;have V:=gW aa hx;have run:∀(v:Array MapEntry) (w:Nat),(Instr.mapUpdate T (.map (some (c.φ i))) kv (a.eval x)).run P c.w= .ok () { c.w with heap:=c.w.heap.setIfInBounds (c.φ i) (.map v w) }->G7 P o a c.w undef { c.w with heap:=c.w.heap.setIfInBounds (c.φ i) (.map v w) }:=by
  intro v w h;refine .inr ⟨?_,rfl⟩;unfold execOp;rcases B with B |B<;>simp only[B,e1,e2,Sem.run_bind,h,Result.andThen_ok,Sem.run_pure]
 unfold Ef at d;split at d
 ·rename_i j v0 F;cases d;have⟨kt,G,f2,H,I⟩:=SG L M N F R b;rcases I with⟨h,_⟩ |⟨j',v',e,y,h,g1,rfl,X,g3,g4,J⟩
  ·cases h
  cases h;refine UF (en':=en.modify j fun e=>{ e with key:=y,val:=a.eval x }) (k':=E) C hi p (run _ _ ?_) (by simp[b]) (fun K=>Zu (fun e=>{ e with key:=y,val:=a.eval x }) (fun _=>rfl) (Q K)) (Zt X b _ rfl V S) fun _ _=>trivial
  simp only[Instr.mapUpdate,Sem.run_bind,run_underlying G,Result.andThen_ok,U,H,J,X,LT,Nw,g3,gf g4,UD _ p]
 ·rename_i F;cases d;have⟨kt,G,f2,H,I⟩:=SG L M N F R b;rcases I with⟨h,J⟩ |⟨j',v',e,y,h,_⟩
  ·refine UF (en':=en.push ⟨kv,a.eval x,E⟩) (k':=E+1) C hi p (run _ _ ?_) (by simp[b]) (fun K=>gc (Q K)) (ga b V S) fun _ _=>trivial
   simp only[Instr.mapUpdate,Sem.run_bind,run_underlying G,Result.andThen_ok,U,H,J,UD _ p]
  cases h
 cases d
theorem gj (C:HR g c)(J:Ad P tab){T:Nat}{k:Operand}(K:o.op= .mapEntry T m k)(X:(tab T).mkey=some q)(Y:En vk=some kv)(Z:A6 g c vk (a.eval k))(hz:II (tab (tab T).elem)=some z)(hw:GI q kv=true)
    (hm:A6 g c (.mo i) (a.eval m)) (hi:c.hp i=some (.mo es false))  (hf:EC q kv es=some r) {v:AV} 
  (p:(match r with |none=>(AV.tu [z,.v (.int .i64 es.length)],[(i,AO.mo (es++[(kv,z)]) false)]) |some (j,v)=>(.tu [v,.v (.int .i64 j)],[(i,.mo (es.set j (kv,v)) false)]))=(v,δ)):CX P o a g c id v δ:=by
 have⟨L,_,en,w,d,b,h3,h4,E⟩:=HU C hm hi;have M:=UE Y Z;have N:=UC (P:=P) d;have⟨F,G⟩:=h3 rfl;have⟨kt,O,f2,Q,f4⟩:=SG J X hw hf h4 b;have⟨R,z1,S⟩:=W9 (g:=g) J f2 hz c c.w;rcases f4 with⟨rfl,H⟩ |⟨j,v',e,y,rfl,g1,rfl,B,g3,g4,H⟩
 ·simp only[LE] at p;obtain⟨rfl,rfl⟩:=p;refine UF (en':=en.push ⟨kv,R,w⟩) (k':=w+1) (u:=.tuple #[R,goInt w]) C hi d (.inl ?_) (by simp[b]) (fun _=>gc ⟨F,G⟩) (ga b S E) fun c' I=>P5 (S.ext I) (by rw[F,b];exact RA.v _ rfl);unfold execOp;simp only[K,L,M,Instr.mapEntry,Sem.run_bind,run_underlying O,Result.andThen_ok,N,Q,H,z1,UD _ d,Sem.run_pure]
 simp only[LE] at p;obtain⟨rfl,rfl⟩:=p;have⟨e',U,k2,V⟩:=E j _ v' g1;rw[B] at U;cases U;have aa:=G j e B;refine UF (en':=en.modify j fun e=>{ e with key:=y }) (k':=w) (u:=.tuple #[e.val,goInt e.born]) C hi d (.inl ?_) (by simp[b]) (fun _=>Zu (fun e=>{ e with key:=y }) (fun _=>rfl) ⟨F,G⟩) (Zt (u:=e.val) B b _ rfl V E) fun c' I=>P5 (V.ext I) (by rw[aa];exact RA.v _ rfl);unfold execOp;simp only[K,L,M,Instr.mapEntry,Sem.run_bind,run_underlying O,Result.andThen_ok,N,Q,H,B,LT,Nw,g3,gf g4,UD _ d,Sem.run_pure]
theorem rJ (p:HR g c){T:Nat}{v:Operand}(F:o.op= .entryStore T m v x)(G:A6 g c vx (a.eval x))(H:F3 vx=true){vs:AV}(I:EY vs=some j)(J:A6 g c vs (a.eval v))
    (K:A6 g c (.mo i) (a.eval m)) (hi:c.hp i=some (.mo es false))  {L:AV} (M:es[j]? =some (kv,L)):CX P o a g c id .un [(i,.mo (es.set j (kv,vx)) false)]:=by
 have⟨N,_,en,O,b,w,Q,Y,B⟩:=HU p K hi;have R:=UC (P:=P) b;have⟨S,d⟩:=Q rfl;have⟨ik,U⟩:=JJ I J;have⟨e,C,V,k3⟩:=B j _ _ M;have E:=(LW.1 C).1;have X:en.findIdx? (fun e=>(e.born:Int)==(j:Int))=some j:=by
  rw[Array.findIdx?_eq_some_iff_getElem];refine⟨E,?_,fun i hi=> ?_⟩
  ·have:=d j en[j] (by simp[E]);simp[this]
  have:=d i en[i] (by simp);simp[this];omega
 refine UF (en':=en.modify j fun e=>{ e with val:=a.eval x }) (k':=O) p hi b (.inr ⟨?_,rfl⟩) (by simp[w]) (fun _=>Zu (fun e=>{ e with val:=a.eval x }) (fun _=>rfl) ⟨S,d⟩) (Zt (u:=a.eval x) C w _ (by rw[<-V]) (gW H G) B) fun _ _=>trivial;unfold execOp
 simp only[F,N,U,Instr.entryStore,Sem.run_bind,Result.andThen_ok,R,asInt,asIntOf,Sem.run_pure,X,UD _ b]
end
end
section
section
variable {P:Program}{tab:Nat->TI}{o:Oper}{a:Act}{g:Gh}{c:Cf}{id:Nat}{ρ:Operand->AV}
theorem Zv (b:Ad P tab){T:Nat}(h:(tab T).ok=true):((tab T).zero.map D.v).length=(tab T).size:=by
 have⟨i,z,_,_,_,_,_,d,_⟩:=b.info T h;simpa using d
theorem rK (H:HR g c)(e:Ad P tab){T:Nat}{l k:Operand}(I:o.op= .makeSlice T l k)(J:(tab T).kind= .slice)(v:(tab (tab T).elem).ok=true)(K:0<(tab (tab T).elem).size)(av:(tab (tab T).elem).bytes<=32768)
  {m:Nat} {w:AV} (L:EY w=some n) (M:EY vk=some m) (N:A6 g c w (a.eval l)) (O:A6 g c vk (a.eval k)) (Q:n<=m) (R:m<=4294967296) (S:¬c.kn id):
  CX P o a g c id (.so id 0 0 n) [(id,.rw (List.replicate n ((tab (tab T).elem).zero.map D.v)) (tab (tab T).elem).size 0 false false)]:=by
 have⟨U,V⟩:=JJ L N;have⟨X,Y⟩:=JJ M O;have⟨i,z,Z,B,h3,aa,E,h6,h7,h8,h9⟩:=e.info _ v;have hb:(i.bytes:Int)*(m:Int)<=281474976710656:=by
  have:i.bytes*m<=32768*4294967296:=Bg (by omega) R;have h:((i.bytes*m:Nat):Int)<=281474976710656:=by omega
  rwa [OL] at h
 have F:=run_make (P:=P) c.w T (tab T).elem i z (e.slice J) Z aa U X n m (by omega) (by omega) hb (by omega);simp only[Li] at F;have ab:=Zv e v;refine Zn (cells:=madeCells z.cells (m*i.size)) (T:=(tab T).elem) H (w0:=c.w) rfl rfl rfl rfl S K (fun i cs hi=> ?_) (C:=m) (by rw[size_madeCells,B]) (by simp) Q (by simp only[maxLen];omega) (fun p j cs d hi G=> ?_) ?_
 ·rw[N6] at hi;split at hi
  ·cases hi;exact ab
  cases hi
 ·rw[N6] at hi;split at hi
  ·rename_i aE;cases hi;rw[Ln,La] at G;obtain⟨u,b,rfl⟩:=G;have a0:=(Lb.1 b).1;refine⟨u,?_,RC.v u (h7 u (Ly b))⟩;have hs:p*(tab (tab T).elem).size+j<m*i.size:=by
    rw[B]
    have:(p+1)*(tab (tab T).elem).size<=m*(tab (tab T).elem).size:=LS _ (by omega);rw[Nk,Bk] at this;omega
   unfold madeCells;rw[B8,On,if_pos hs];simp only[LT,Lg];have ag:(p*(tab (tab T).elem).size+j)%z.cells.size=j:=by
    rw[E,Ni,h6,BN,BT];exact BQ (by omega)
   rw[ag,E];rw[Lb] at b;have⟨ak,aq⟩:=b;simp[ak,aq]
  cases hi
 unfold execOp;simp only[I,V,Y,Sem.run_bind,F,Result.andThen_ok,Sem.run_pure]
theorem rL {b:Array Value}{m:Nat}(d:b.size=sz)(hi:i<m)(p:j<sz):(Builtin.zeroCells b m)[i*sz+j]? =b[j]? :=by
 unfold Builtin.zeroCells;have v:i*sz+j<m*b.size:=by
  rw[d]
  have:(i+1)*sz<=m*sz:=LS _ (by omega);rw[Nk,Bk] at this;omega
 rw[B8,On,if_pos v];have w:(i*sz+j)%b.size=j:=by
  rw[d,BN,BT];exact BQ p
 have e:j<b.size:=by omega
 simp only[LT,w,LC e];rw[getElem!_pos b j e]
theorem rM (K:HR g c)(b:Ad P tab){T T':Nat}(L:o.op= .call { callee:=.builtin .append,args:= #[x,y],argTypes:= #[T,T'] })(M:A6 g c vx (a.eval x))(N:A6 g c vy (a.eval y))(O:¬c.kn id){v:AV}(h:Gk tab id T T' vx (EY vy)=some (v,δ)):CX P o a g c id v δ:=by
 unfold Gk at h;split at h;rotate_left
 ·cases h
 rename_i B n E e;split at h;rotate_left
 ·cases h
 rename_i Q;have⟨R,F,S,a2,U,V⟩:=Q;cases h;have⟨X,Y⟩:=JJ e N;have Z:=M.v.1;have⟨i,z,aa,h2,h3,h4,G,h6,h7,h8,h9⟩:=b.info _ F;have hb:n*i.bytes<=281474976710656:=by
  have:n*i.bytes<=4294967296*32768:=Bg V (by omega);omega
 have ab:P.underlying T'=some (.int B):=by
  have⟨d,q1,H⟩:=b.kind T' (b.okOf (by rw[E];simp));rw[E] at H;subst H;exact q1
 have ag:=Lib.run_append_nil_zeros (P:=P) c.w T T' o.type (tab T).elem i z X B (b.slice R) ab aa h4 n U (by omega) (by omega) hb;have ak:=grownCap_ge c.w n 0 (tab T).elem;have aq:=grownCap_le_maxLen c.w n 0 (tab T).elem (by simp only[maxLen];omega);have av:=Zv b F;have I:z.cells.size=(tab (tab T).elem).size:=by rw[G];simpa using h6
 refine Zn (cells:=Builtin.zeroCells z.cells n++Builtin.zeroCells z.cells (grownCap c.w n 0 (tab T).elem-n)) (T:=(tab T).elem) K (w0:=c.w.drew) rfl rfl rfl rfl O S (fun i cs hi=> ?_) (C:=grownCap c.w n 0 (tab T).elem) ?_ (by simp) ak aq (fun i' j cs d hi J=> ?_) ?_
 ·rw[N6] at hi;split at hi
  ·cases hi;exact av
  cases hi
 ·rw[Oc,size_zeroCells,size_zeroCells,I,<-Nk];congr 1;omega
 ·rw[N6] at hi;split at hi
  ·rename_i aE;cases hi;rw[Ln,La] at J;obtain⟨u,p,rfl⟩:=J;have a0:j<(tab (tab T).elem).size:=(by have:=(Lb.1 p).1;omega);refine⟨u,?_,RC.v u (h7 u (Ly p))⟩;have w:=rL (m:=n) I aE a0;have a1:z.cells[j]? =some u:=(by rw[G];simpa using p);rw[a1] at w;rw[NJ (LW.1 w).1];exact w
  cases hi
 unfold execOp;simp only[L,resolve,invoke,builtin,List.map_toArray,Lh,Lu,Z,Y,Sem.run_bind,ag,Result.andThen_ok,Sem.run_pure]
theorem P6 (b:HR g c){d:Array TypeId}(e:o.op= .call { callee:=.builtin .min,args:= #[x,y],argTypes:=d }){k k':IntKind}{p q:Int}(v:A6 g c (.v (.int k p)) (a.eval x))(w:A6 g c (.v (.int k' q)) (a.eval y)):
  CX P o a g c id (.v (.int k (if q<p then q else p))) []:=by
 refine CX.pure b (u:=.int k (if q<p then q else p)) ?_ (RA.v _ rfl);unfold execOp;simp[e,resolve,invoke,builtin,v.v.1,w.v.1,Builtin.min_,Builtin.min2]
theorem rN (G:HR g c)(b:Ad P tab){T:Nat}{i:Operand}(H:o.op= .index T x i){I:AV}(S:A6 g c vx (a.eval x))(hi:A6 g c I (a.eval i)){v:AV}(h:HS tab T (F2 vx) (EY I)=some (v,δ)):CX P o a g c id v δ:=by
 unfold HS at h;split at h
 ·rename_i aa cs n J U V;have⟨d,K,L⟩:=b.kind T (b.okOf (by rw[J];simp));rw[J] at L;obtain⟨rfl,e,_⟩:=L;have⟨vs,M,h3,N⟩:=W7 U S;have⟨k,O⟩:=JJ V hi;split at h
  ·rename_i Q;split at h
   ·rename_i p;have⟨X,w,B⟩:=La.1 h;cases B;have⟨h7,Y,h9⟩:=Wy w;refine CX.pure G (u:=.agg (vs.extract (n*(tab (tab T).elem).size) (n*(tab (tab T).elem).size+(tab (tab T).elem).size))) ?_ ⟨_,rfl,by simp;omega,fun j y R=> ?_⟩
    ·unfold execOp;simp[H,M,O,Instr.index,asIntOf,run_underlying K,Q,b.sizeOf e,part,b.isAgg e,p]
    rw[Y] at R;have⟨g1,Z⟩:=KH _ _ _ _ _ R;have⟨C,E,F⟩:=N _ _ Z;refine⟨C,?_,F⟩;rw[OP,ifp];exact E
   rename_i p;have⟨X,w,B⟩:=La.1 h;cases B;have⟨C,E,F⟩:=N _ _ w;refine CX.pure G (u:=C) ?_ F.toAt;unfold execOp;simp[H,M,O,Instr.index,asIntOf,run_underlying K,Q,b.sizeOf e,part,b.isAgg e,p,E]
  cases h
 cases h
theorem gk (b:o.op= .call { callee:=.builtin .clear,args:= #[x],argTypes:= #[T] }){w:World}(h:∀d,(Builtin.clear_ #[T] d #[a.eval x]).run P w= .ok u w'):(execOp a.eval o).run P w= .ok (.value u) w':=by
 unfold execOp;simp[b,resolve,invoke,builtin,h]
theorem gl {b:Cf}:A6 g b (.tu []) (.tuple #[]):=⟨#[],rfl,rfl,fun j x h=>by simp at h⟩
theorem gm (b:HR g c)(d:Ad P tab){T:Nat}(e:o.op= .call { callee:=.builtin .clear,args:= #[x],argTypes:= #[T] })(p:(tab T).kind= .slice){C:Nat}(v:a.eval x= .slice A 0 C):CX P o a g c id (.tu []) []:=by
 refine CX.pure b (u:=.tuple #[]) (gk e fun w=> ?_) gl;rw[v];cases A<;>simp[Builtin.clear_,run_underlying (d.slice p)]
theorem rO (B:HR g c){b:AO}{C cur':Array Value}(hi:c.hp i=some ao)(M:ao.fz=false)(I:c.w.heap[c.φ i]? =some (.cells C T (0,0)))(N:cur'.size=C.size)
  (h:(execOp a.eval o).run P c.w= .ok (.value (.tuple #[])) (c.w.setRow (c.φ i) cur')) (O:ao.isRw=false->b.isRw=false)
  (Q:∀p sz d E F,b= .rw p sz d E F->∃es v br G,ao= .rw es sz v br G/\v<=d/\(v=d->es.length=p.length))
  (R:∀w,CR c w->w.φ i=c.φ i->w.w.heap[c.φ i]? =some (.cells cur' T (0,0))->OK g w i b):CX P o a g c id (.tu []) [(i,b)]:=by
 have J:(c.w.setRow (c.φ i) cur').heap[c.φ i]? =some (.cells cur' T (0,0)):=setRow_heap c.w (c.φ i) C _ T _ I;have K:∀k,k<c.w.heap.size->k≠c.φ i->(c.w.setRow (c.φ i) cur').heap[k]? =c.w.heap[k]? :=fun k _ S=>setRow_other c.w (c.φ i) k _ S;have H:CR c ⟨upd i (some b) c.hp,upd i (c.φ i) c.φ,c.w.setRow (c.φ i) cur',fun k=>c.kn k\/k=id⟩:=by
  refine CR.chg B hi M rfl rfl rfl (by simp) K (.inl rfl) (fun _ h=>.inl h) (fun h=>⟨rfl,O h⟩) fun p sz d E F e=> ?_;have⟨es,v,br,G,U,V,X⟩:=Q p sz d E F e;refine⟨es,v,br,G,U,V,fun e=>⟨rfl,X e,fun Y T0 L=> ?_⟩⟩;rw[I] at L;cases L;exact⟨cur',J,N⟩
 refine⟨_,.tuple #[],_,.val h,H,HR.chg B hi H K (.inl rfl) (by simpa using(B.dom i _ hi).2.2) (R _ H (At _ _ _) J),gl⟩
theorem rP (X:HR g c)(Q:Ad P tab){T:Nat}(ho:o.op= .call { callee:=.builtin .clear,args:= #[x],argTypes:= #[T] })(hk:(tab T).kind= .slice)(Y:(tab (tab T).elem).ok=true)(bb:0<(tab (tab T).elem).size)
    {es:List (List D)} (hx:A6 g c (.so i ver off n) (a.eval x)) (hi:c.hp i=some (.rw es sz ver br false)) (B:sz=(tab (tab T).elem).size) (hn:0<n) (bd:off+n<=es.length):
  CX P o a g c id (.tu []) [(i,.rw (es.take off++List.replicate n ((tab (tab T).elem).zero.map D.v)++es.drop (off+n)) sz ver br false)]:=by
 have⟨_,_,J,T',C,R,h4,e1⟩:=A6.so hx hi;have⟨Z,K,T2,vs,C2,aa,g2,g3,g4,g5⟩:=X.obj i _ hi;rw[R] at aa;cases aa;have⟨ti,z,k1,k2,k3,k4,L,M,k7,k8,k9⟩:=Q.info _ Y;have ab:=Zv Q Y;let E:List Value:=(Builtin.zeroCells z.cells n).toList;have F:E.length=n*sz:=by
  show(Builtin.zeroCells z.cells n).toList.length=_;rw[NM,size_zeroCells,L,Ni,M,B]
 have N:off*sz+n*sz<=J.size:=by
  rw[g2,<-Nk];exact LS _ (by omega)
 have ag:∀p j,p<n->j<sz->∃v,E[p*sz+j]? =some v/\(tab (tab T).elem).zero[j]? =some v:=by
  intro p j b w;have ak:j<(tab (tab T).elem).zero.length:=by rw[M,<-B];exact w
  refine⟨(tab (tab T).elem).zero[j],?_,by simp[ak]⟩;have G:p*sz+j<n*sz:=by
   have:(p+1)*sz<=n*sz:=LS _ (by omega);rw[Nk,Bk] at this;omega
  show(Builtin.zeroCells z.cells n).toList[p*sz+j]? =_;have a1:(p*sz+j)%z.cells.size=j:=by
   rw[L,Ni,M,<-B,BN,BT];exact BQ w
  have a2:n*z.cells.size=n*sz:=by rw[L,Ni,M,B]
  simp only[Builtin.zeroCells];rw[NQ,B8,On,if_pos (by rw[a2];exact G)];simp only[LT,Lg];rw[a1,L];simp[ak]
 have a3:∀v∈E,v.oneCell'=true:=by
  intro v hv;have⟨t,aq⟩:=NX.1 hv;have G:=(Lb.1 aq).1;rw[F] at G;have q:=Nat.div_add_mod t sz;rw[Bv] at q;have hd:t / sz<n:=O2 (by rw[Bv];exact G);have⟨v',H,O⟩:=ag (t / sz) (t%sz) hd (Om _ Z);rw[q] at H;rw[aq] at H;cases H;exact k7 _ (Ly O)
 have av:=run_storeCells_at P (c.φ i) (off*sz) T' E 0 J c.w R (by simpa [F] using N) a3;simp only[NP] at av;obtain⟨m,rfl⟩:∃m,n=m+1:=⟨n-1,by omega⟩;have aE:(es.take off++List.replicate (m+1) ((tab (tab T).elem).zero.map D.v)++es.drop (off+(m+1))).length=es.length:=by simp;omega
 refine rO (cur':=(DN (off*sz) E J.toList).toArray) X hi rfl R (by rw[Ni,IJ _ _ _ (by rw[F];simpa using N)];simp) (gk ho fun ty=> ?_) (fun h=>by cases h) (fun be bg v' bl bo e=>by cases e;exact⟨es,ver,br,false,rfl,Lc _,fun _=>aE.symm⟩) fun c' a4 a5 hw=>
  ⟨Z,fun p cs b=> ?_,T',_,C2,by rw[a5];exact hw,by rw[Ni,IJ _ _ _ (by rw[F];simpa using N)];simpa using g2,by rw[aE];exact g3,g4,fun p j cs d b w=> ?_⟩
 ·rw[e1];simp only[Builtin.clear_,Nx,Nc,Sem.run_bind,run_underlying (Q.slice hk),Result.andThen_ok];have a6:(storeCells ⟨c.φ i,off*sz,none⟩ (Builtin.zeroCells z.cells (m+1)).toList).run P c.w=_:=av;simp[zeroValue,typeInfo,k1,k4,DN,a6,E]
 ·rw[Bo,Bo] at b;split at b
  ·split at b
   ·rw[Nh] at b;split at b
    ·exact K _ _ b
    cases b
   rw[N6] at b;split at b
   ·cases b;rw[ab,B]
   cases b
  rw[NT] at b;exact K _ _ b
 rw[Nx,IK _ _ _ (by rw[F];simpa using N)];rw[F];have S:∀ {I:List D},I.length=sz->I[j]? =some d->j<sz:=fun h1 h2=>by have:=(Lb.1 h2).1;omega
 have a0:∀ {i0:Nat} {I:List D},es[i0]? =some I->I[j]? =some d->∃u,J.toList[i0*sz+j]? =some u/\RC c'.w (Im g c' br) d u:=fun h6 h7=>by
  have⟨u,h8,h9⟩:=g5 _ j _ d h6 h7;exact⟨u,by simpa using h8,RC.ext a4 h9⟩
 rw[Bo,Bo] at b;simp only[Ld,Lx,NH] at b;rw[B5 (by omega)] at b;split at b
 ·rename_i G;split at b
  ·rename_i a9;rw[Nh,if_pos a9] at b;have U:=S (K _ _ b) w
   have:(p+1)*sz<=off*sz:=LS _ (by omega);rw[Nk,Bk] at this;rw[ifp];exact a0 b w
  rename_i ba;rw[N6,ifp] at b;cases b;have U:=S (by rw[ab,B]) w;have⟨v,H,O⟩:=ag (p-off) j (by omega) U;have bs:p*sz=off*sz+(p-off)*sz:=by rw[<-Nk];congr 1;omega
  have V:(p-off+1)*sz<=(m+1)*sz:=LS _ (by omega);rw[Nk,Bk] at V;rw[ifn,ifp,show p*sz+j-off*sz=(p-off)*sz+j by omega];rw[Ln,O] at w;cases w;exact⟨v,H,RC.v v (k7 v (Ly O))⟩
 rename_i ba;rw[NT] at b;have e0:off+(m+1)+(p-(off+(m+1)))=p:=by omega
 rw[e0] at b;have U:=S (K _ _ b) w;have V:(off+(m+1))*sz<=p*sz:=LS _ (by omega);rw[Nk] at V;rw[ifn,ifn];exact a0 b w
end
end
section
section
variable {P:Program}{tab:Nat->TI}{o:Oper}{a:Act}{g:Gh}{c:Cf}{id:Nat}{ρ:Operand->AV}
theorem gp {es:List (List D)}{b:Bool}(h:RC c.w (Im g c b) (.sl es) u):∃A d,u= .slice A es.length d/\es.length<=d:=by
 generalize e:D.sl es=B at h;cases h with
 |nl A d=>cases e;exact⟨A,d,rfl,Lf _⟩
 |sl C E p d sz F G w H I J=>cases e;exact⟨_,_,rfl,w⟩
 |v _ _=>cases e
 |pt _ _ _ _ _ _ _ _=>cases e
 |mp _ _ _ _ _ _ _ _ _=>cases e
theorem rQ {es:List (List D)}{b:Bool}{B:Nat}(F:RC c.w (Im g c b) (.sl es) (.slice A es.length B))(M:EZ sz es=true)(X:l<=h)(N:h<=es.length):
  RC c.w (Im g c b) (.sl ((es.take h).drop l)) (.slice (if B=l then A else A.map (·.add (l*sz))) (h-l) (B-l)):=by
 have C:((es.take h).drop l).length=h-l:=by rw[ND,Lx];omega
 by_cases I:(es.take h).drop l= []
 ·rw[I] at C⊢;simp only[LB] at C;rw[<-C];exact .nl _ _
 have Y:0<h-l:=by rw[<-C];exact Nz.2 I
 generalize E:D.sl es=Z at F;generalize J:Value.slice A es.length B=uu at F;cases F with
 |nl A B=>cases E;simp at N;omega
 |sl aa O p ab w Q R hc K S U=>
  cases E;simp only[Value.slice.injEq] at J;obtain⟨rfl,_,rfl⟩:=J;have V:w=sz:=by
   have hp:0<es.length:=(by omega);have L:es[0]? =some es[0]:=Le hp;rw[<-K 0 _ L,SF M L]
  subst V;have G:∀(i:Nat) (cs:List D),((es.take h).drop l)[i]? =some cs->es[l+i]? =some cs:=fun i cs hi=>by
   rw[NT,Nh] at hi;split at hi
   ·exact hi
   cases hi
  rw[ifn];simp only[LT,HT];rw[<-C];refine .sl _ O (p+l*w) _ w (fun i j=>Q (l+i) j) R (by omega) (fun i cs hi=>K _ _ (G i cs hi)) (fun i j cs d hi H=> ?_) fun i j cs d hi H=>U _ _ _ _ (G i cs hi) H
  have:=S _ _ _ _ (G i cs hi) H;have e:p+(l+i)*w+j=p+l*w+i*w+j:=by rw[Nk];omega
  rw[<-e];exact this
 |v _ _=>cases E
 |pt _ _ _ _ _ _ _ _=>cases E
 |mp _ _ _ _ _ _ _ _ _=>cases E
theorem P7 {es:List (List D)}{b:Bool}{cs:List D}(E:RC c.w (Im g c b) (.sl es) u)(B:es[n]? =some cs)(H:cs.length=sz):∃e p F,u= .slice (some ⟨e,p,none⟩) es.length F/\RC c.w (Im g c b) (.pt cs 0) (.pointer (some ⟨e,p+n*sz,none⟩)):=by
 generalize w:D.sl es=Q at E;cases E with
 |nl A F=>cases w;simp at B
 |sl R e p I G J K S L M N=>
  cases w;have O:G=sz:=by rw[<-L n cs B,H]
  subst O;exact⟨e,p,I,rfl,RC.pt cs 0 e (p+n*G) (J n) K (fun j d C=>M n j cs d B C) fun j d C=>N n j cs d B C⟩
 |v _ _=>cases w
 |pt _ _ _ _ _ _ _ _=>cases w
 |mp _ _ _ _ _ _ _ _ _=>cases w
theorem Zw {cs:List D}{b:Bool}(h:RC c.w (Im g c b) (.pt cs off) u):∃e o,u= .pointer (some ⟨e,o+off,none⟩)/\(∀v,RC c.w (Im g c b) (.pt cs v) (.pointer (some ⟨e,o+v,none⟩)))/\
  ∃p:Nat->Value,(∀(j:Nat) (d:D),cs[j]? =some d->c.w.cell? ⟨e,o+j,none⟩=some (p j))/\∀(j:Nat) (d:D),cs[j]? =some d->RC c.w (Im g c b) d (p j):=by
 cases h with
 |pt _ _ e o p C w B=>exact⟨e,o,rfl,fun v=>.pt cs v e o p C w B,p,w,B⟩
theorem rR {x v:AV}(h:Ku k x=some v)(d:A6 g c x u):∃ad,u= .pointer (some ad)/\A6 g c v (.pointer (some (ad.add k))):=by
 unfold Ku at h;split at h
 ·rename_i i p;cases h;have⟨w,B,E⟩:=d.pt;exact⟨_,w,by rw[HT];exact RA.pt i (p+k) B E⟩
 ·rename_i cs p b;cases h;have⟨J,q,C,hp,_⟩:=Zw d.dpt;exact⟨_,C,by rw[HT];exact RA.d _ _ _ (by rw[Nv];exact hp (p+k))⟩
 ·rename_i i ver r p;cases h;cases(show RA g c (.pr i ver r p) u from d) with
  |pr _ _ _ _ _ F hp G=>
   have⟨ad,C⟩:=hp;subst C;refine⟨ad,rfl,RA.pr i ver r (p+k) _ F ⟨_,rfl⟩ fun es sz H br I hi=> ?_⟩;have⟨w,B⟩:=G es sz H br I hi;refine⟨w,fun e=> ?_⟩
   have:=B e;simp only[Value.pointer.injEq,Lg] at this;rw[this,HT,Nv]
 cases h
theorem Di.toAt {x:AV}(h:Di g c x u):A6 g c x u:=by
 cases x with
 |tu cs=>cases h
 |d x b=>cases x with
  |tu cs=>cases h with |d _ _ _ e=>cases e
  |_=>exact h
 |_=>exact h
theorem gq {x:AV}(h:Mj x=true)(e:A6 g c x u):RA g c x u:=by
 cases x with
 |ag cs=>cases h
 |tu cs=>cases h
 |un=>cases h
 |d x b=>cases x with |ag cs=>cases h |tu cs=>cases h |_=>exact e
 |_=>exact e
theorem SH {xs:Array α}{x:α}(h:xs.toList= [x]):xs= #[x]:=by
 cases xs;simp at h;simp[h]
theorem Zy {xs:Array α}{x y:α}(h:xs.toList= [x,y]):xs= #[x,y]:=by
 cases xs;simp at h;simp[h]
theorem gt (B:HR g c)(G:Ad P tab)(w:∀x,A6 g c (ρ x) (a.eval x))(ag:¬c.kn id){v:AV}(h:Cc tab ρ c.hp id o.op=some (v,δ)):CX P o a g c id v δ:=by
 generalize E:o.op=op at h;unfold Cc at h;split at h
 case h_1 x=>cases h;exact gE B (.inl E) (w x)
 case h_2 x=>cases h;exact gE B (.inr E) (w x)
 case h_3 x y z=>
  split at h
  ·rename_i t e;cases h;refine qU B E (t:=t) (D5 e w) ?_;cases t
   ·exact w z
   exact w y
  cases h
 case h_4 T=>
  split at h
  ·rename_i N;cases h;exact qS B G E N ag
  cases h
 case h_5 T x=>
  have⟨cs,F,I⟩:=La.1 h;cases I;exact P0 B E (w x) F ag
 case h_6 T ps=>
  split at h
  ·rename_i L;have⟨cs,F,I⟩:=La.1 h;cases I;exact qt B G E L.1 L.2 w F
  cases h
 case h_7 T x=>
  split at h;rotate_left
  ·cases h
  rename_i N;split at h
  ·rename_i i off e;split at h
   ·rename_i cs hi;have J:=D5 e w;split at h
    ·rename_i U;have⟨c1,F,I⟩:=La.1 h;cases I;exact f0 B G E N J hi (by rw[if_pos U,F];rfl)
    rename_i U;have⟨c1,F,I⟩:=La.1 h;cases I;exact f0 B G E N J hi (by rw[if_neg U,F])
   cases h
  ·rename_i cs off b e;have J:=D5 e w;have⟨bl,p,M,_,us,ab,hd⟩:=Zw J.dpt;split at h
   ·rename_i U;have⟨c1,F,I⟩:=La.1 h;cases I;exact Zh B G E N us M ab hd (by rw[if_pos U,F];rfl)
   rename_i U;have⟨c1,F,I⟩:=La.1 h;cases I;exact Zh B G E N us M ab hd (by rw[if_neg U,F];rfl)
  ·rename_i i ver k off e;split at h
   ·rename_i es sz V br fz hi;split at h
    ·rename_i hv;subst hv;have J:=D5 e w;split at h
     ·rename_i cs H;split at h
      ·rename_i U;have⟨c1,F,I⟩:=La.1 h;cases I;exact f9 B G E N J hi H (by rw[if_pos U,F];rfl)
      rename_i U;have⟨c1,F,I⟩:=La.1 h;cases I;exact f9 B G E N J hi H (by rw[if_neg U,F];rfl)
     cases h
    cases h
   cases h
  cases h
 case h_8 T x y=>
  split at h;rotate_left
  ·cases h
  rename_i N;split at h
  ·rename_i i off xs e K;split at h
   ·rename_i cs hi;split at h
    ·rename_i L;cases h;exact qT B G E N (D5 e w) hi (w y) K L.1 L.2
    cases h
   cases h
  ·rename_i i ver k off xs e K;split at h
   ·rename_i es sz V br ds b is hi hd;split at h
    ·rename_i cs H;split at h
     ·rename_i L;cases h;have⟨hv,aq,R,av⟩:=L;subst hv;exact rA B G E N (D5 e w) hi H (w y) K hd aq R av
     cases h
    cases h
   cases h
  cases h
 case h_9 x=>
  split at h
  ·rename_i hp;cases h;have⟨p,M⟩:=gT hp (w x);exact P3 B E M (w x)
  cases h
 case h_10 op T x y T'=>
  have⟨V,F,I⟩:=La.1 h;cases I;exact rD B G E (w x) (w y) F
 case h_11 op T x=>
  split at h
  ·rename_i b e;cases h
   have:=(D5 e w).v.1;exact gF B E (u:=.bool !b) (by rw[this];simp[Op.unary]) (RA.v _ rfl)
  ·rename_i k n e;cases h
   have:=(D5 e w).v.1;exact gF B E (u:=.int k (k.wrap (0-n))) (by rw[this];simp[Op.unary,Op.intArith]) (RA.v _ rfl)
  cases h
 case h_12 s t x=>
  split at h
  ·rename_i k k' n hs H e;cases h;exact qd B G E hs H (k':=k') (D5 e w)
  ·rename_i n hs H e;cases h;exact qe B G E hs H (D5 e w)
  ·rename_i i ver off a3 hs H e;split at h
   ·rename_i es sz v br fz hi;split at h
    ·rename_i U;obtain⟨F,rfl,h3,h4⟩:=U;have⟨bs,X,h6⟩:=La.1 h;cases h6;exact qh B G E H h3 h4 hi F X (D5 e w)
    cases h
   cases h
  cases h
 case h_13 T x f=>
  split at h;rotate_left
  ·cases h
  rename_i H;split at h;rotate_left
  ·cases h
  rename_i off n O;split at h
  ·cases h
  rename_i hn;split at h
  ·rename_i i p e;cases h;have J:=(D5 e w).pt;exact gH B G E H O hn J.1 (RA.pt i (p+off) J.2.1 J.2.2)
  ·rename_i cs p b e;cases h;have J:=D5 e w;have⟨bl,q,M,hp,_⟩:=Zw J.dpt;exact gH B G E H O hn M (RA.d _ _ _ (by rw[Nv];exact hp (p+off)))
  ·rename_i i ver k p e;cases h;have J:=D5 e w;generalize hU:a.eval x=uu at J;cases(show RA g c (.pr i ver k p) uu from J) with
   |pr _ _ _ _ _ a9 hp hv=>
    have⟨ad,M⟩:=hp;subst M;refine qj B G E H O hn hU (RA.pr i ver k (p+off) _ a9 ⟨_,rfl⟩ fun es sz V br fz hi=> ?_);have⟨F,I⟩:=hv es sz V br fz hi;refine⟨F,fun e=> ?_⟩
    have:=I e;simp only[Value.pointer.injEq,Lg] at this;rw[this,HT,Nv]
  cases h
 case h_14 T x i=>
  split at h
  ·rename_i H;split at h
   ·rename_i es b n e K;split at h
    ·rename_i cs hn;split at h
     ·rename_i L;cases h;have⟨bl,p,cx,M,hv⟩:=P7 (D5 e w).dsl hn L.2;have⟨k,hi⟩:=JJ K (w i);exact gI B G E H L.1 M hi (Lb.1 hn).1 (RA.d _ _ _ hv)
     cases h
    cases h
   ·rename_i j ver off a3 n e K;split at h
    ·rename_i es sz V br fz hi;split at h
     ·rename_i L;have⟨aq,R,av,a4⟩:=L;cases h;subst R;have⟨F,I,a5,T',C,h3,h4,X⟩:=A6.so (D5 e w) hi;have⟨k,a0⟩:=JJ K (w i);refine gI B G E H av X a0 aq (RA.pr j ver (off+n) 0 _ I ⟨_,rfl⟩ fun a6 ba v2 bb bd a1=> ?_);rw[hi] at a1;cases a1;refine⟨Lc _,fun _=> ?_⟩;rw[<-a4,Nk,NP]
     cases h
    cases h
   cases h
  unfold Jb at h;split at h
  ·rename_i a3 n H K;split at h
   ·rename_i hn;have⟨V,F,I⟩:=La.1 h;cases I;have⟨k,a0⟩:=JJ K (w i);have⟨ad,M,hv⟩:=rR F (w x);exact qm B G E H M a0 hn hv
   cases h
  cases h
 case h_15 T x i=>
  split at h
  ·rename_i H;split at h
   ·rename_i s n e K;have⟨b,F,I⟩:=La.1 h;cases I;have⟨k,a0⟩:=JJ K (w i);exact qo B G E H (D5 e w).v.1 a0 F
   cases h
  exact rN B G E (w x) (w i) h
 case h_16 T x lo hi=>
  split at h
  ·rename_i s H e;have⟨⟨l,u⟩,F,I⟩:=La.1 h;cases I;exact qp B G E H w (D5 e w).v.1 F
  ·rename_i es b H e;split at h
   ·rename_i L;have⟨⟨l,u⟩,F,I⟩:=La.1 h;cases I;have hd:=(D5 e w).dsl;have⟨A,cx,M,Y⟩:=gp hd;rw[M] at hd;have⟨_,b1,b2⟩:=T5 (P:=P) true w F Y c.w;exact W3 B G E H L.1 w M Y F (RA.d _ _ _ (rQ hd L.2 b1 b2))
   cases h
  ·rename_i j ver off a3 H e;split at h;rotate_left
   ·cases h
   rename_i l u es sz V br fz F hi;split at h;rotate_left
   ·cases h
   rename_i L;have⟨R,av,a4⟩:=L;subst R;have⟨q1,q2,a5,T',C,q3,q4,q5⟩:=A6.so (D5 e w) hi;have⟨h0,hz,T2,vs,C2,q6,q7,q8,q9,bg⟩:=B.obj j _ hi;rw[q3] at q6;cases q6;have bo:off+C=C2:=BS h0 (q4.symm.trans q7);have Y:a3<=C:=(by omega);have⟨_,b1,b2⟩:=T5 (P:=P) true w F Y c.w;split at h
   case isFalse aq=>
    cases h;refine W3 B G E H av w q5 Y F ?_
    have:u-l=0:=(by omega);rw[this];exact RA.d _ _ _ (.nl _ _)
   rename_i aq;cases h;have be:(if C=l then(some ⟨c.φ j,off*sz,none⟩:Option Addr) else(some ⟨c.φ j,off*sz,none⟩:Option Addr).map (·.add (l*sz)))=some ⟨c.φ j,(off+l)*sz,none⟩:=by
    have e5:off*sz+l*sz=(off+l)*sz:=(by rw[Nk]);split
    ·rename_i e6;rcases aq with I |I
     ·subst I;simp
     omega
    simp only[LT,HT,e5]
   refine W3 B G E H av w q5 Y F ?_;rw[<-a4,be];refine RA.so j ver (off+l) (u-l) _ q2 ⟨_,_,rfl⟩ fun a6 ba v2 bb bd a1=> ?_;rw[hi] at a1;cases a1;exact⟨Lc _,fun _=>⟨by omega,a5,T',C-l,q3,by rw[q4];congr 1;omega,rfl⟩⟩
  ·rename_i H e;split at h
   ·rename_i N;have⟨⟨l,u⟩,F,I⟩:=La.1 h;cases I;have J:=(D5 e w).v.1;have⟨_,b1,b2⟩:=T5 (P:=P) true w F (Lc 0) c.w;refine W3 B G E H N w J (Lc 0) F ?_;have Q:u=0:=(by omega);have K:l=0:=(by omega);subst Q;subst K;exact RA.v _ rfl
   cases h
  cases h
 case h_17 x i=>
  split at h
  ·rename_i vs e;have⟨V,F,I⟩:=La.1 h;cases I;have⟨us,M,_,h3⟩:=(D5 e w);have⟨y,h4,X⟩:=h3 i v F;exact gJ B E M h4 X.toAt
  ·rename_i ds b e;have⟨d,F,I⟩:=La.1 h;cases I;have⟨us,M,_,h3⟩:=(D5 e w);have⟨y,h4,X⟩:=h3 i d F;refine gJ B E M h4 ?_;unfold Dc at X;split at X
   ·exact X
   exact(RC.toRA X).toAt
  cases h
 case h_18 f first caps=>
  split at h
  ·rename_i h0;cases h;exact qq B E h0.1 fun j x hj=>gq (LP.1 h0.2 _ (LG (by
    have:=Ok hj;simpa using this))) (w x)
  cases h
 case h_19 T n ps=>
  split at h
  ·rename_i L;have⟨F,I,h3,h4,X⟩:=L;split at h
   ·rename_i ds b is hd;split at h
    ·rename_i ak;cases h;exact qv B G E F I h3 h4 X w hd ak ag
    cases h
   cases h
  cases h
 case h_20 args argTypes=>
  split at h;rotate_left
  ·cases h
  rename_i x T Q K;have ea:=SH Q;have et:=SH K;subst ea;subst et;split at h
  ·rename_i es b H e;cases h;have⟨A,cx,M,_⟩:=gp (D5 e w).dsl;exact W4 B E fun ty=>by rw[M];simp[Builtin.len_,run_underlying (G.slice H)]
  ·rename_i j ver off n H e;cases h;generalize hU:a.eval x=uu;have J:RA g c (.so j ver off n) uu:=(by rw[<-hU];have:=w x;rw[e] at this;exact this);cases J with
   |so _ _ _ _ _ _ hp _=>
    obtain⟨A,m,rfl⟩:=hp;exact W4 B E fun ty=>by rw[hU];simp[Builtin.len_,run_underlying (G.slice H)]
  ·rename_i H e;cases h
   have:=(D5 e w).v.1;exact W4 B E (n:=0) fun ty=>by rw[this];simp[Builtin.len_,run_underlying (G.slice H)]
  ·rename_i s H e;cases h
   have:=(D5 e w).v.1;exact W4 B E fun ty=>by rw[this];simp[Builtin.len_,run_underlying (G.string H)]
  cases h
 case h_21 args argTypes=>
  split at h;rotate_left
  ·cases h
  rename_i x y T T' Q K;have ea:=Zy Q;have et:=Zy K;subst ea;subst et;split at h;rotate_left
  ·exact rM B G E (w x) (w y) ag h
  rename_i L;have⟨hT,H,N,aE⟩:=L;subst hT;split at h
  ·rename_i ys b is e3 e4;split at h
   ·rename_i R;have⟨ak,a2,Y⟩:=R;have J:=(D5 e4 w).v.1;have hb:ys.length*(tab (tab T).elem).bytes<=4294967296*32768:=Bg Y a2;exact append_nil B G E H N aE J (gQ B (w y) e3 ak) ak (by omega) (by simp only[maxLen];omega) ag h
   cases h
  ·rename_i ys b is j V off n e3 e4;split at h
   ·rename_i es sz ver br hi;split at h
    ·rename_i R;have⟨F,I,h3,h4,ak,a2,Y⟩:=R;cases h;subst F;subst I;subst h4;have hb:(n+ys.length)*(tab (tab T).elem).bytes<=4294967296*32768:=Bg Y a2;exact qy B G E H N aE hi (D5 e4 w) h3 (gQ B (w y) e3 ak) ak (by omega) (by simp only[maxLen];omega)
    cases h
   cases h
  cases h
 case h_22 T=>
  split at h
  ·cases h;exact rF B E ag
  cases h
 case h_23 T x k ok=>
  split at h;rotate_left
  ·cases h
  rename_i q kv z Z aa hz;split at h;rotate_left
  ·cases h
  rename_i S;split at h
  ·rename_i i e;split at h
   ·rename_i es dl hi;have ab:=D5 e w;split at h
    ·rename_i O;cases h;exact gX B G E Z aa (w k) hz S ab hi O rfl
    ·rename_i j V O;cases h;exact gX B G E Z aa (w k) hz S ab hi O rfl
    cases h
   cases h
  ·rename_i es b e;have ab:=D5 e w;split at h
   ·rename_i O;cases h;exact gZ B G E Z aa (w k) hz S ab O rfl
   ·rename_i j V O;cases h;exact gZ B G E Z aa (w k) hz S ab O rfl
   cases h
  ·rename_i e;cases h;exact rI B G E Z aa (w k) hz S (D5 e w) rfl
  cases h
 case h_24 T m k x=>
  split at h
  ·rename_i q kv Z aa;split at h
   ·rename_i S;split at h
    ·rename_i i e;split at h
     ·rename_i es dl hi;have⟨a6,F,I⟩:=La.1 h;cases I;exact gg B G (.inl E) Z aa (w k) S.1 (w x) S.2 (D5 e w) hi F
     cases h
    cases h
   cases h
  cases h
 case h_25 T m k x=>
  split at h
  ·rename_i q kv Z aa;split at h
   ·rename_i S;split at h
    ·rename_i i e;split at h
     ·rename_i es dl hi;have⟨a6,F,I⟩:=La.1 h;cases I;exact gg B G (.inr E) Z aa (w k) S.1 (w x) S.2 (D5 e w) hi F
     cases h
    cases h
   cases h
  cases h
 case h_26 T m k=>
  split at h
  ·rename_i q kv z Z aa hz;split at h
   ·rename_i S;split at h
    ·rename_i i e;split at h
     ·rename_i es hi;have ab:=D5 e w;split at h
      ·rename_i O;cases h;exact gj B G E Z aa (w k) hz S ab hi O rfl
      ·rename_i j V O;cases h;exact gj B G E Z aa (w k) hz S ab hi O rfl
      cases h
     cases h
    cases h
   cases h
  cases h
 case h_27 T m st x=>
  split at h
  ·rename_i i j e K;split at h
   ·rename_i J;split at h
    ·rename_i es hi;split at h
     ·rename_i k v0 hj;cases h;exact rJ B E (w x) J K (w st) (D5 e w) hi hj
     cases h
    cases h
   cases h
  cases h
 case h_28=>cases h
 case h_29 T l k=>
  split at h
  ·rename_i L;have⟨H,N,aE,a2⟩:=L;split at h
   ·rename_i n m Q K;split at h
    ·rename_i R;cases h;exact rK B G E H N aE a2 Q K (w l) (w k) R.1 R.2 ag
    cases h
   cases h
  cases h
 case h_30 args ty=>
  split at h
  ·rename_i x y Q;have ea:=Zy Q;subst ea;split at h
   ·rename_i k p k' q K e3;cases h;exact P6 B E (k':=k') (D5 K w) (D5 e3 w)
   cases h
  cases h
 case h_31=>cases h
 case h_32 args argTypes=>
  split at h;rotate_left
  ·cases h
  rename_i x T Q K;have ea:=SH Q;have et:=SH K;subst ea;subst et;split at h;rotate_left
  ·cases h
  rename_i L;have⟨H,N,aE⟩:=L;split at h
  ·rename_i e;cases h;exact gm B G E H (D5 e w).v.1
  ·rename_i i ver off n e;split at h
   ·rename_i es sz V br hi;split at h
    ·rename_i R;obtain⟨rfl,hs,Y⟩:=R;have J:=D5 e w;split at h
     ·rename_i h0;cases h;subst h0;have⟨_,_,a5,T',C,h3,h4,Q⟩:=A6.so J hi;exact gm B G E H Q
     rename_i h0;cases h;exact rP B G E H N aE J hi hs (by omega) Y
    cases h
   cases h
  cases h
 case h_33 args argTypes=>
  split at h
  ·rename_i x T Q K;have ea:=SH Q;have et:=SH K;subst ea;subst et;split at h
   ·rename_i H e;cases h;have J:=(D5 e w).v.1;refine CX.pure B (u:=.int .i64 0) ?_ (RA.v _ rfl);unfold execOp;simp[E,resolve,invoke,builtin,J,Builtin.cap_,run_underlying (G.slice H),goInt]
   cases h
  cases h
 case h_34=>cases h
end
end
end Go.Proofs.YtnmkbmefohakmaaGreat.Ab
