/-
 rows.Of: the set of some tuples.
-/
import Derived.Test.YtnmkbmefohakmaaGreatAbS
import Derived.Ground.SlsfProg
namespace Go.Proofs
open Go.Shelf Go.RowKit Go.Sort
def Tryz.sortFuncTuple_ren:Go.Shelf.Ren:=⟨fun |6=>119 |15=>104 |14=>144 |28=>136 |29=>137 |20=>168 |21=>169 |22=>170 |23=>171 |24=>172 |25=>173 |26=>174 |27=>175 |46=>183 |47=>151 |48=>152 |49=>184 |50=>185 |57=>188 |n=>n,fun |22=>26 |24=>35 |25=>207 |3=>3 |39=>48 |0=>0 |53=>223 |55=>225 |4=>4 |46=>216 |45=>215 |50=>220 |5=>5 |9=>9 |66=>232 |70=>236 |76=>252 |77=>94 |n=>n,fun |n=>n⟩
theorem Tryz.sortFuncTuple:Go.Proofs.SlLaysF0.n6 Tryz.prog Tryz.sortFuncTuple_ren:={
 mixed:=by kernel_rfl
 f6:=⟨Tryz.f119.name,by decide,Tryz.func119.trans (congrArg some (by kernel_rfl))⟩
 f14:=⟨Tryz.f144.name,by decide,Tryz.func144.trans (congrArg some (by kernel_rfl))⟩
 f15:=Tryz.func104.trans (congrArg some (by kernel_rfl))
 f20:=⟨Tryz.f168.name,by decide,Tryz.func168.trans (congrArg some (by kernel_rfl))⟩
 f21:=⟨Tryz.f169.name,by decide,Tryz.func169.trans (congrArg some (by kernel_rfl))⟩
 f22:=⟨Tryz.f170.name,by decide,Tryz.func170.trans (congrArg some (by kernel_rfl))⟩
 f23:=⟨Tryz.f171.name,by decide,Tryz.func171.trans (congrArg some (by kernel_rfl))⟩
 f24:=⟨Tryz.f172.name,by decide,Tryz.func172.trans (congrArg some (by kernel_rfl))⟩
 f25:=⟨Tryz.f173.name,by decide,Tryz.func173.trans (congrArg some (by kernel_rfl))⟩
 f26:=⟨Tryz.f174.name,by decide,Tryz.func174.trans (congrArg some (by kernel_rfl))⟩
 f27:=⟨Tryz.f175.name,by decide,Tryz.func175.trans (congrArg some (by kernel_rfl))⟩
 f28:=Tryz.func136.trans (congrArg some (by kernel_rfl))
 f29:=Tryz.func137.trans (congrArg some (by kernel_rfl))
 f46:=⟨Tryz.f183.name,by decide,Tryz.func183.trans (congrArg some (by kernel_rfl))⟩
 f47:=Tryz.func151.trans (congrArg some (by kernel_rfl))
 f48:=Tryz.func152.trans (congrArg some (by kernel_rfl))
 f49:=⟨Tryz.f184.name,by decide,Tryz.func184.trans (congrArg some (by kernel_rfl))⟩
 f50:=⟨Tryz.f185.name,by decide,Tryz.func185.trans (congrArg some (by kernel_rfl))⟩
 f57:=⟨Tryz.f188.name,by decide,Tryz.func188.trans (congrArg some (by kernel_rfl))⟩
 t0:=Tryz.underlying0
 a0:=Tryz.isAgg0
 z0:=Tryz.sizeOf0
 v0:=Tryz.zeroValue0
 t3:=Tryz.underlying3
 a3:=Tryz.isAgg3
 z3:=Tryz.sizeOf3
 v3:=Tryz.zeroValue3
 t4:=Tryz.underlying4
 a4:=Tryz.isAgg4
 z4:=Tryz.sizeOf4
 v4:=Tryz.zeroValue4
 t5:=Tryz.underlying5
 a5:=Tryz.isAgg5
 z5:=Tryz.sizeOf5
 v5:=Tryz.zeroValue5
 t9:=Tryz.underlying9
 a9:=Tryz.isAgg9
 z9:=Tryz.sizeOf9
 v9:=Tryz.zeroValue9
 t22:=Tryz.underlying26
 a22:=Tryz.isAgg26
 z22:=Tryz.sizeOf26
 v22:=Tryz.zeroValue26
 t25:=Tryz.underlying207
 a25:=Tryz.isAgg207
 z25:=Tryz.sizeOf207
 v25:=Tryz.zeroValue207
 t39:=Tryz.underlying48
 a39:=Tryz.isAgg48
 z39:=Tryz.sizeOf48
 v39:=Tryz.zeroValue48
 t45:=Tryz.underlying215
 a45:=Tryz.isAgg215
 z45:=Tryz.sizeOf215
 v45:=Tryz.zeroValue215
 t46:=Tryz.underlying216
 a46:=Tryz.isAgg216
 z46:=Tryz.sizeOf216
 v46:=Tryz.zeroValue216
 t50:=Tryz.underlying220
 a50:=Tryz.isAgg220
 z50:=Tryz.sizeOf220
 v50:=Tryz.zeroValue220
 t53:=Tryz.underlying223
 a53:=Tryz.isAgg223
 z53:=Tryz.sizeOf223
 v53:=Tryz.zeroValue223
 t55:=Tryz.underlying225
 a55:=Tryz.isAgg225
 z55:=Tryz.sizeOf225
 v55:=Tryz.zeroValue225
 t66:=Tryz.underlying232
 a66:=Tryz.isAgg232
 z66:=Tryz.sizeOf232
 v66:=Tryz.zeroValue232
 t70:=Tryz.underlying236
 a70:=Tryz.isAgg236
 z70:=Tryz.sizeOf236
 v70:=Tryz.zeroValue236
 t76:=Tryz.underlying252
 a76:=Tryz.isAgg252
 z76:=Tryz.sizeOf252
 v76:=Tryz.zeroValue252
 t77:=Tryz.underlying94
 a77:=Tryz.isAgg94
 z77:=Tryz.sizeOf94
 v77:=Tryz.zeroValue94 }
end Go.Proofs
namespace Go.Proofs.YtnmkbmefohakmaaGreat.Ab
open Go.Shelf Go.RowKit Go.Sort
def tk (t:GTuple):List ByteArray:=[t.obj.type_,t.obj.id_,t.rel,t.sub_.type_,t.sub_.id_,t.sub_.rel]
theorem tk_inj (x y:GTuple)(h:tk x=tk y):x=y:=by
 obtain⟨⟨a,b⟩,c,⟨d,e,f⟩⟩:=x;obtain⟨⟨a',b'⟩,c',⟨d',e',f'⟩⟩:=y;simp only[tk,List.cons.injEq,and_true] at h;obtain⟨rfl,rfl,rfl,rfl,rfl,rfl⟩:=h;rfl
def tO:Lin GTuple:=linL tk (fun _ _=>rfl) tk_inj
def cfT (x y:GTuple):Int:=cfL (tk x) (tk y)
theorem pF_ {n:Nat}{vs:List Int}(hx:vs.length<4611686018427387904):∀(c j:Nat),j<=vs.length->vs.length-j<c->zs_ n vs c (j:Int)=some (if orI (vs.drop j)=0 then .inl () else .inr (orI (vs.drop j)))
 |0,_,_,h=>by omega
 |c+1,j,hj,hc=>by
  have ih:=pF_ (n:=n) hx c;unfold zs_;by_cases hlt:j<vs.length
  ·rw[dlt hlt,if_pos rfl,idxS hlt,Zo,List.drop_eq_getElem_cons hlt,wr1 (by omega)]
   unfold orI;by_cases h:vs[j]=0
   ·rw[h,if_pos rfl,ih _ (by omega) (by omega)]
    simp
   ·rw[if_neg h]
    simp[h]
  ·rw[dnlt (by omega),if_neg (by decide),List.drop_eq_nil_of_le (by omega)]
   rfl
theorem cR_ {n:Nat}{vs:List Int}(hx:vs.length<4611686018427387904)(hn:vs.length<n):dP_ n vs=some (orI vs):=by
 unfold dP_;have h:zs_ n vs n 0=_:=pF_ hx n 0 (by omega) (by omega);rw[h,List.drop_zero,Zo];by_cases e:orI vs=0
 ·rw[if_pos e,e]
 ·rw[if_neg e]
theorem pG_ (n:Nat)(a b:ByteArray):qS_ n a b=some (cmS a b):=rfl
theorem dx_ {n:Nat}(hn:10<n)(x y:GTuple):zH_ n x y=some (cfT x y):=by
 unfold zH_;simp only[pG_,Zo];rw[cR_ (by simp) (by simp;omega)];rfl
theorem ss_ (x y:GTuple):PureOK Tryz.prog 120 [.ag (eGTuple x),.ag (eGTuple y)] (.v (.int .i64 (cfT x y))) true:=uz_ (dx_ (n:=100) (by decide) x y)
theorem cS_:PureOK Tryz.prog 118 [.sl []] (.sl []) true:=
 yV_ qf_ fol Tryz.func118 (T:=26) (B:=4) rfl (by kernel_rfl) (by kernel_rfl) (by decide) rfl (by simp only[go_sem]) (by simp only[go_sem]) (by simp only[go_sem];decide) (by simp only[go_sem];decide)
theorem pH_ (xs:List GTuple)(h0:0<xs.length)(hn:xs.length<=4294967296){b:Bool}{hp:Hp}{nx:Nat}:
  InlOK Tryz.prog 118 [.d (.sl (xs.map eGTuple)) b] hp nx fun v hp2 nx2=>v= .so (nx+3) 1 0 xs.length/\hp2=upd (nx+3) (some (.rw (xs.map eGTuple) 6 1 false false)) hp/\nx2=nx+7:=by
 have h:=y1_ (e:=eGTuple) (k:=6) (b:=b) (hp:=hp) (nx:=nx) qf_ fol Tryz.func118 (T:=26) (B:=4) rfl (by kernel_rfl) (by kernel_rfl) (by decide) rfl (by simp only[go_sem]) (by simp only[go_sem]) (by simp only[go_sem]) (by decide) (by simp only[go_sem];decide) (fun _=>rfl) xs h0 hn;rw[v2_ (f:=eGTuple) (fun _=>rfl),Bool.not_true,Bool.and_false] at h;exact h
theorem pI_:vn_ Tryz.prog 119:=⟨_,Tryz.func119,by kernel_rfl,by kernel_rfl⟩
theorem st_ (xs:List GTuple)(h0:0<xs.length)(hn:xs.length<=4294967296){id ver:Nat}{br:Bool}{hp:Hp}{nx:Nat}(hi:hp id=some (.rw (xs.map eGTuple) 6 ver br false)):
  InlOK Tryz.prog 119 [.so id ver 0 xs.length,.fn 120 []] hp nx fun v hp2 nx2=>v= .tu []/\nx2=nx/\∃ys:List GTuple,ys.length=xs.length/\Lib.compact ys=tO.ofL xs/\hp2=upd id (some (.rw (ys.map eGTuple) 6 ver br false)) hp:=by
 have h:=r2_ (encD:=eGTuple) (k:=6) (br:=br) (nx:=nx) Tryz.sortFuncTuple (fun w=>by kernel_rfl) (fun w=>by kernel_rfl) (fun _=>rfl) cfT tO.swo rfl pI_ (enters_of Tryz.func120 (by kernel_rfl) rfl) ss_ xs (by rintro rfl;simp at h0) (by omega) hi;refine h.mono ?_;rintro v hp2 nx2 ⟨rfl,rfl,ys,h1,h2,h3⟩
 exact⟨rfl,rfl,ys,h1.length_eq,tO.compact_sorted (fun x=>h1.mem_iff) h2,h3⟩
theorem su_ (xs:List GTuple)(h0:0<xs.length)(hn:xs.length<=4294967296){id ver:Nat}{br:Bool}{hp:Hp}{nx:Nat}(hi:hp id=some (.rw (xs.map eGTuple) 6 ver br false)):
  InlOK Tryz.prog 121 [.so id ver 0 xs.length] hp nx fun v hp2 _=>v= .so id (ver+1) 0 (Lib.compact xs).length/\hp2=upd id (some (.rw ((Lib.compact xs).map eGTuple) 6 (ver+1) br false)) hp:=
 cs_ hi (cr_ (cC_ xs h0 hn nx))
theorem sort0_in {b:Bool}{hp:Hp}{nx:Nat}:InlOK Tryz.prog 119 [.d (.sl []) b,.fn 120 []] hp nx fun v hp2 nx2=>v= .tu []/\hp2=hp/\nx2=nx:=by
 refine⟨pI_,fun g c args hhp hkn hr hsz hargs=> ?_⟩;obtain⟨u0,a0,b0⟩:=hargs 0 _ rfl;obtain⟨u1,a1,b1⟩:=hargs 1 _ rfl;have e0:∃a k,u0= .slice a 0 k:=by
  cases(show RA g c (.d (.sl []) b) u0 from b0) with
  |d _ _ _ hr=>cases hr with
   |nl a k=>exact⟨a,k,rfl⟩
   |sl _ b o k=>exact⟨_,_,rfl⟩
 obtain⟨a,k,rfl⟩:=e0;have hu1:u1= .func (.func 120) #[] #[]:=by
  cases(show RA g c (.fn 120 []) u1 from b1) with
  |fn _ _ us n hn' _=>
   simp only[List.length_nil] at hn';subst hn';rfl
 subst hu1;have hargs2:args= #[.slice a 0 k,.func (.func 120) #[] #[]]:=by
  have hsz2:args.size=2:=by simpa using hsz
  apply Array.ext
  ·simpa using hsz2
  ·intro j h1 h2
   have hj:j=0\/j=1:=by omega
   rcases hj with rfl |rfl
   ·simpa [h1] using a0
   ·simpa [h1] using a1
 subst hargs2;have hcon:=AnyF.slices_SortFunc_none Tryz.sortFuncTuple a k (.func (.func 120) #[] #[]) c.w;change Calls Tryz.prog 119 _ _ _ at hcon;refine hcon.mono ?_;rintro e w' ⟨rfl,rfl⟩;exact⟨.tuple #[],.tu [],c,nx,rfl,⟨rfl,hhp,rfl⟩,rfl,Ext.refl c,hr,⟨#[],rfl,rfl,fun j x e=>by simp at e⟩,Nat.le_refl _,fun i h=>.inl h⟩
theorem compT0:PureOK Tryz.prog 121 [.sl []] (.sl []) false:=by
 refine fW_ (tab:=tab) qf_ fol Tryz.func121 rfl (by kernel_rfl) (by kernel_rfl) (by simp[Tryz.f121]) ?_;simp -implicitDefEqProofs only[go_sem,Int.reduceLT,decide_true,Nat.reduceAdd,reduceCtorEq, ↓reduceIte];exact xM_ (v:=.d (.sl []) true) (b:=true) (is:=[]) (by simp -implicitDefEqProofs only[go_sem, ↓reduceIte,Tryz.f121]<;>rfl) rfl rfl (fun h=>by cases h)
theorem fv_ (xs:List GTuple)(hn:xs.length<=4294967296):PureOK Tryz.prog 94 [.sl (xs.map eGTuple)] (.sl ((tO.ofL xs).map eGTuple)) true:=by
 refine fW_ (tab:=tab) qf_ fol Tryz.func94 rfl (by kernel_rfl) (by kernel_rfl) (by simp[Tryz.f94]) ?_;simp -implicitDefEqProofs only[go_sem,Nat.reduceAdd,reduceCtorEq, ↓reduceIte];by_cases h0:0<xs.length
 ·refine qe_ ((pH_ xs h0 hn).mono ?_)
  rintro v hp2 nx2 ⟨rfl,rfl,rfl⟩;simp -implicitDefEqProofs only[go_sem,Nat.reduceAdd, ↓reduceIte];refine qe_ ((st_ xs h0 hn (by simp -implicitDefEqProofs only[go_sem, ↓reduceIte]<;>rfl)).mono ?_);rintro v hp2 nx2 ⟨rfl,rfl,ys,h1,h2,rfl⟩;simp -implicitDefEqProofs only[go_sem,Nat.reduceEqDiff,Nat.reduceAdd, ↓reduceIte];rw[<-h1];have h0':0<ys.length:=by omega
  refine qe_ ((su_ ys h0' (by omega) (by simp -implicitDefEqProofs only[go_sem, ↓reduceIte]<;>rfl)).mono ?_);rintro v hp2 nx2 ⟨rfl,rfl⟩;rw[h2];simp -implicitDefEqProofs only[go_sem,Nat.reduceAdd, ↓reduceIte]
  exact xM_ (v:=.so 7 2 0 (tO.ofL xs).length) (b:=false) (is:=[7]) (by simp -implicitDefEqProofs only[go_sem, ↓reduceIte,Tryz.f94]<;>rfl) (by simp -implicitDefEqProofs only[go_sem, ↓reduceIte]<;>rfl) rfl (fun _=>rfl)
 ·have e:xs= []:=List.eq_nil_of_length_eq_zero (by omega)
  subst e;refine zl_ (by simp -implicitDefEqProofs only[go_sem]<;>rfl) cS_ (.inr rfl) ?_;simp -implicitDefEqProofs only[go_sem,Nat.reduceAdd, ↓reduceIte];refine qe_ (sort0_in.mono ?_);rintro v hp2 nx2 ⟨rfl,rfl,rfl⟩;simp -implicitDefEqProofs only[go_sem,Nat.reduceEqDiff,Nat.reduceAdd, ↓reduceIte];refine zl_ (by simp -implicitDefEqProofs only[go_sem]<;>rfl) compT0 (.inl rfl) ?_
  simp -implicitDefEqProofs only[go_sem,Nat.reduceAdd, ↓reduceIte];exact xM_ (v:=.d (.sl []) false) (b:=false) (is:=[]) (by simp -implicitDefEqProofs only[go_sem, ↓reduceIte,Tryz.f94]<;>rfl) rfl rfl (fun _=>rfl)
def bi_ (_n:Nat)(xs:List GTuple):Option (List GTuple):=if xs.length<=4294967296 then some (tO.ofL xs) else none
theorem mn_ {n:Nat}{xs r:List GTuple}(h:bi_ n xs=some r):PureOK Tryz.prog 94 [D.sl (List.map eGTuple xs)] (D.sl (List.map eGTuple r)) true:=by
 unfold bi_ at h;split at h
 ·rename_i hn
  obtain rfl:=Option.some.inj h;exact fv_ xs hn
 ·cases h
end Go.Proofs.YtnmkbmefohakmaaGreat.Ab
