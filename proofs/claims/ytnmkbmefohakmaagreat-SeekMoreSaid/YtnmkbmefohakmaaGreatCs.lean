/-
 Two texts held against each other: the library's own contract, laid at this program.
-/
import Derived.Test.YtnmkbmefohakmaaGreatSmw
import Derived.Shelf.Small.Strs
set_option linter.all false
namespace Go.Proofs.YtnmkbmefohakmaaGreat.Ab
open Go.RowKit
theorem vS {w w2:World}{M0:Nat->Prop}{F:Nat}{c':Cf}{u:Value}{v:AV}{d:D}{fr:Bool}{nx:Nat}(hbw:Below w.heap.size w w2)(hdw:w.drawn<=w2.drawn)(h5:CF ⟨AS,fun _=>0,w2,fun _=>False⟩ c')(h6:HR ⟨w.heap.size,M0,F⟩ c')(h7:Am ⟨w.heap.size,M0,F⟩ c' v u)(hR:D9 d fr v c'.hp nx):
  (Below w.heap.size w c'.w/\w.drawn<=c'.w.drawn)/\RV c'.w (fun k=>k<c'.w.heap.size/\¬M0 k/\(fr=true->w.heap.size<=k)) d u:=by
 obtain⟨b,is,h2,h3⟩:=hR;refine⟨⟨⟨h5.os.trans hbw.os,h5.tape.trans hbw.tape,h5.output.trans hbw.output,Lp hbw.size h5.size,fun k hk=>(h5.block k (Lz hk hbw.size) fun id o ho=>by simp[AS] at ho).trans (hbw.block k hk)⟩,Lp hdw h5.drawn⟩,?_⟩;have hI:∀k,Im ⟨w.heap.size,M0,F⟩ c' b k->k<c'.w.heap.size/\¬M0 k/\(fr=true->w.heap.size<=k):=fun k hk=>⟨hk.1,hk.2.1,fun hf=>hk.2.2.2 (h3 hf)⟩;have hrow:∀i,(∃es sz v br fz,c'.hp i=some (.rw es sz v br fz))->c'.φ i<c'.w.heap.size/\¬M0 (c'.φ i)/\(fr=true->w.heap.size<=c'.φ i):=fun i ⟨es,sz,v,br,fz,hi⟩=>by
  obtain⟨_,g1,g2⟩:=h6.dom i _ hi;exact⟨g2,g1.2,fun _=>g1.1⟩
 unfold toR at h2;split at h2
 ·rename_i cs;obtain⟨⟨ds',b',is'⟩,e1,e2⟩:=La.1 h2;simp only[Lu] at e2;obtain⟨rfl,rfl,rfl⟩:=e2;obtain⟨vs,hv,hn,hc⟩:=h7;obtain⟨g1,g2⟩:=Ra h6 rfl (fun k=>k<c'.w.heap.size/\¬M0 k/\(fr=true->w.heap.size<=k)) (fun j=>vs.getD j undef) e1 (TT fun j x hj=>let ⟨y,k1,k2⟩:=hc j x hj;⟨y,k1,k2.toAt⟩) hI fun i hi=>hrow i (Pi e1 i hi);exact⟨vs,hv,by omega,fun j x hj=>⟨_,TU (by have:=(Lb.1 hj).1;omega),(g2 j x hj).1⟩⟩
 obtain⟨g1,g2,_⟩:=TL h6 rfl (fun k=>k<c'.w.heap.size/\¬M0 k/\(fr=true->w.heap.size<=k)) h2 h7 hI fun i hi=>hrow i (TM h2 i hi);cases d with
 |tu ds=>exact absurd rfl (g2 ds)
 |_=>exact g1
theorem vT {rest:Code}{d:D}{fr:Bool}{φ0:Fr}(hd:DY 131 rest=true)(h:CA 0 Tryz.prog [.c rest] (Cu tab #[.tmp 8] (D9 d fr)) ⟨φ0,AS,0⟩){w w2:World}{M0:Nat->Prop}{a:Act}(hM:∀k,M0 k->k<w.heap.size)(hbw:Below w.heap.size w w2)(hdw:w.drawn<=w2.drawn)(hsz:a.tmps.size=131)(hdf:a.defers= [])
  (hfr:∀t,Am ⟨w.heap.size,M0,w2.heap.size⟩ ⟨AS,fun _=>0,w2,fun _=>False⟩ (φ0 t) (a.tmps.getD t undef)):
  rest.wp Tryz.prog (fun e a' w'=>(e= .normal\/e= .ret)/\∃B,DC B a'.defers w'/\∃v,(results Tryz.f4 a'.tmps).run Tryz.prog (Dn a'.defers w')= .ok v (Dn a'.defers w')/\∃u,Ending.returned v= .returned u/\(Below w.heap.size w (Dn a'.defers w')/\w.drawn<=(Dn a'.defers w').drawn)/\RV (Dn a'.defers w') (fun k=>k<(Dn a'.defers w').heap.size/\¬M0 k/\(fr=true->w.heap.size<=k)) d u) a w2:=by
 have hr:HR ⟨w.heap.size,M0,w2.heap.size⟩ ⟨AS,fun _=>0,w2,fun _=>False⟩:=⟨hbw.size,fun k hk=>Lz (hM k hk) hbw.size,fun _ _ h=>by simp[AS] at h,fun _ _ _ _ h=>by simp[AS] at h,fun _ _ h=>by simp[AS] at h⟩;have key:=(show Co 0 Tryz.prog rest (DL 0 Tryz.prog [] (Cu tab #[.tmp 8] (D9 d fr))) ⟨φ0,AS,0⟩ from h) ⟨w.heap.size,M0,w2.heap.size⟩ 131 ⟨AS,fun _=>0,w2,fun _=>False⟩ a hd ⟨rfl,hr,fun _ h=>h.elim,hfr,hsz,by rw[hdf];exact⟨Lc _,trivial⟩⟩ (Lc _);refine Code.wp_mono (fun e a' w' hp=> ?_) key;obtain⟨ex,s',c',h1,h2,h3,h4,h5,h6,h7⟩:=Cj.toE (hp.mono (Q':=Cu tab #[.tmp 8] (D9 d fr)) fun e s h=>by cases e<;>exact h) hr (fun _ h=>h.elim);subst h1;subst h4;have fin:=Yw (g:=⟨w.heap.size,M0,w2.heap.size⟩) (fn:=Tryz.f4) (R:=D9 d fr) EO h3 h5 h6 h7;have fin2:(∃v hp',Dw tab Tryz.f4.results s'=some v/\Fj hp' s'.hp/\D9 d fr v hp' s'.nx)->(∃B,DC B a'.defers c'.w/\∃v,(results Tryz.f4 a'.tmps).run Tryz.prog (Dn a'.defers c'.w)= .ok v (Dn a'.defers c'.w)/\∃u,Ending.returned v= .returned u/\(Below w.heap.size w (Dn a'.defers c'.w)/\w.drawn<=(Dn a'.defers c'.w).drawn)/\RV (Dn a'.defers c'.w) (fun k=>k<(Dn a'.defers c'.w).heap.size/\¬M0 k/\(fr=true->w.heap.size<=k)) d u):=fun q=>by
  obtain⟨B,m1,v,m2,u,v',c'',nx',e1,e2,e3,e4,e5,e6,_⟩:=fin q;have e:=vS hbw hdw e4 e5 e6 e2;rw[e3] at e;exact⟨B,m1,v,m2,u,e1,e⟩
 cases ex with
 |normal=>exact⟨.inl rfl,fin2 h2⟩
 |ret=>exact⟨.inr rfl,fin2 h2⟩
 |exit n=>exact h2.elim
abbrev eU (x:UInt8):List D:=[D.v (.int .u8 (x.toNat:Nat))]
def RL (t1 t2:List Int)(t3:Int)(bs:List UInt8):Fr:=upd 9 (.d (.sl (bs.map eU)) false) (upd 8 (.v (.bool false)) (upd 1 (.d (.sl (t1.map eI)) true) (upd 2 (.d (.sl (t2.map eI)) true) (upd 3 (.v (.int .i64 t3)) AQ))))
theorem vU {A B C rest:Code}(hcode:Tryz.f4.body=some (.seq A (.seq B (.seq C rest)))){n:Nat}{t0 t1 t2:List Int}{t3:Int}{s:ByteArray}{d:D}{fr:Bool}(hs:M6 n t0=some s)(hsz:s.size<1000000)(hd:DY 131 rest=true)
  (h:CA 0 Tryz.prog [.c rest] (Cu tab #[.tmp 8] (D9 d fr)) ⟨RL t1 t2 t3 (DI s.data.toList),AS,0⟩):AI Tryz.prog 4 [D.sl (t0.map eI),D.sl (t1.map eI),D.sl (t2.map eI),D.v (.int .i64 t3)] d fr:=by
 refine⟨⟨_,Tryz.func4,by kernel_rfl,by kernel_rfl⟩,fun w M0 args hM hz hargs=> ?_⟩;obtain⟨v0,e0,b0⟩:=hargs 0 _ rfl;obtain⟨v1,e1,b1⟩:=hargs 1 _ rfl;obtain⟨v2,e2,b2⟩:=hargs 2 _ rfl;obtain⟨v3,e3,b3⟩:=hargs 3 _ rfl;cases(show RC w _ (.v _) v3 from b3);have hargs2:args= #[v0,v1,v2,.int .i64 t3]:=by
  have hsz2:args.size=4:=by simpa using hz
  apply OD
  ·simpa using hsz2
  intro j h1 h2;have hj:j=0\/j=1\/j=2\/j=3:=by omega
  rcases hj with rfl |rfl |rfl |rfl
  ·simpa [h1] using e0
  ·simpa [h1] using e1
  ·simpa [h1] using e2
  simpa [h1] using e3
 subst hargs2;have hmade:Calls Tryz.prog 9 #[v0] w fun e w'=>e= .returned (.string s)/\Below w.heap.size w w'/\w.drawn<=w'.drawn:=by
  refine((tN hs).2 w M0 #[v0] hM rfl fun j x hj=> ?_).mono ?_
  ·cases j with |zero=>cases hj;exact⟨v0,rfl,b0⟩ |succ j=>cases hj
  rintro e w' ⟨u,rfl,h1,h2⟩;cases(show RC w' _ (.v (.string s)) u from h2);exact⟨rfl,h1⟩
 refine Yv Tryz.func4 hcode (vY hcode w v0 v1 v2 t3 s hsz hmade fun a w' b cap hT hcl z1 z2 y0 y1 y2 y3 y8 y9=> ?_);have hlen:(DI s.data.toList).length=s.size:=by rw[KG];exact Nr
 refine vT hd h hM hT.below hT.dr z1 z2 fun t=> ?_;have hun:∀x:Value,Am ⟨w.heap.size,M0,w'.heap.size⟩ ⟨AS,fun _=>0,w',fun _=>False⟩ .un x:=fun _=>trivial
 have harg:∀ {l:List Int} {v:Value},DJ w (fun k=>k<w.heap.size/\¬M0 k) (.sl (l.map eI)) v->Am ⟨w.heap.size,M0,w'.heap.size⟩ ⟨AS,fun _=>0,w',fun _=>False⟩ (.d (.sl (l.map eI)) true) v:=fun{l v} hv=>
  (RC.toRA (c:=⟨AS,fun _=>0,w',fun _=>False⟩) (show RC w' (Im ⟨w.heap.size,M0,w'.heap.size⟩ ⟨AS,fun _=>0,w',fun _=>False⟩ true) (.sl (l.map eI)) v from(hv.mono (fun k hk=>hT.below.block k hk.1) fun k hk=>⟨Lz hk.1 hT.below.size,hk.2,fun _ _ h=>by simp[AS] at h,by simp⟩:DJ w' _ (.sl (l.map eI)) v))).toAt
 unfold RL;by_cases t9:t=9
 ·subst t9;rw[Ah,y9,<-hlen];obtain⟨cells,T,z,k1,k2,k3⟩:=hT.row;have hb:b<w'.heap.size:=(LN.1 k1).1;have hl2:((DI s.data.toList).map eU).length=(DI s.data.toList).length:=LC ..;rw[<-hl2];refine RA.d _ _ _ (RC.sl _ b 0 cap 1 (fun i _=>.int .u8 (((DI s.data.toList).getD i 0).toNat:Nat)) ⟨hb,fun h=>Nat.not_le.2 (hM b h) hT.hb,fun _ _ h=>by simp[AS] at h,fun _=>hT.hb⟩ (by rw[hl2,hlen];exact hcl) (fun i cs hi=> ?_) (fun i j cs x hi hj=> ?_) fun i j cs x hi hj=> ?_);all_goals (rw[Lj,La] at hi;obtain⟨y,hy,rfl⟩:=hi)
  ·rfl
  ·obtain rfl:j=0:=by
    have:=(Lb.1 hj).1;simp at this;exact this
   rw[show 0+i*1+0=i by omega,hT.cell hy];simp[List.getD,hy]
  obtain rfl:j=0:=by
   have:=(Lb.1 hj).1;simp at this;exact this
  cases hj;have e:(DI s.data.toList).getD i 0=y:=by simp[List.getD,hy]
  rw[e];exact .v _ rfl
 rw[Ad _ _ t9];by_cases t8:t=8
 ·subst t8;rw[Ah,y8];exact RA.v _ rfl
 rw[Ad _ _ t8];by_cases h1:t=1
 ·subst h1;rw[Ah,y1];exact harg b1
 rw[Ad _ _ h1];by_cases h2:t=2
 ·subst h2;rw[Ah,y2];exact harg b2
 rw[Ad _ _ h2];by_cases h3:t=3
 ·subst h3;rw[Ah,y3];exact RA.v _ rfl
 rw[Ad _ _ h3];exact hun _
structure J9 where
 t:ByteArray
 rel:ByteArray
 deriving DecidableEq,Inhabited
structure Hj where
 type_:ByteArray
 rel:ByteArray
 less:Bool
 deriving DecidableEq,Inhabited
end Go.Proofs.YtnmkbmefohakmaaGreat.Ab
namespace Go.Proofs.YtnmkbmefohakmaaGreat.Ab
open Go.Shelf Go.RowKit
def Up:Go.Shelf.Ren:=⟨fun |213=>138 |265=>155 |n=>n,fun |9=>9 |3=>3 |n=>n,fun |n=>n⟩
theorem iV:Lays.n213 Tryz.prog Up:={
 mixed:=by kernel_rfl
 f213:=Tryz.func138.trans (congrArg some (by kernel_rfl))
 f265:=Tryz.func155.trans (congrArg some (by kernel_rfl))
 t3:=Tryz.underlying3
 a3:=Tryz.isAgg3
 z3:=Tryz.sizeOf3
 v3:=Tryz.zeroValue3
 t9:=Tryz.underlying9
 a9:=Tryz.isAgg9
 z9:=Tryz.sizeOf9
 v9:=Tryz.zeroValue9 }
end Go.Proofs.YtnmkbmefohakmaaGreat.Ab
