/-
 Lists of texts: Clone, Sort, Compact of the library.
-/
import Derived.Sort.EncStr
import Derived.Lib.OwnBridge
import Derived.Sort.Grow
import Derived.Test.YtnmkbmefohakmaaGreatAbJ
namespace Go.Proofs.YtnmkbmefohakmaaGreat.Ab
section
open Go.RowKit Go.Sort Go.Proofs
section
variable {P:Program}{tab:Nat->TI}
theorem b8_ (ht:TabOk P tab)(hm:P.follows .mixedOrders=true){f:FuncId}{fn:Func}{T B:TypeId}(hf:P.funcs[f]? =some fn)(hb:fn.body=some (xR_ T B))(hname:(fn.name== "runtime.NumGoroutine")=false)(hd:jK_ fn.ntmps (xR_ T B)=true)(hl:1<=fn.ntmps)(hr:fn.results= #[.tmp 2])
  (hk:(tab T).kind= .slice) (ho:(tab (tab T).elem).ok=true) (hs:0<(tab (tab T).elem).size) (hbt:(tab (tab T).elem).bytes<=32768) {x:List D} {es:List (List D)} {b:Bool} {hp:Hp} {nx:Nat}
  (hz:(x.length==(tab (tab T).elem).size&&es.all fun e=>e.length==(tab (tab T).elem).size)=true) (hn:es.length+1<=4294967296):
  InlOK P f [.d (.sl (x::es)) b] hp nx fun v hp2 nx2=>nx2=nx+7/\v= .so (nx+3) 1 0 (es.length+1)/\hp2=upd (nx+3) (some (.rw (x::es) (tab (tab T).elem).size 1 (b&& !(zU_ x&&zV_ es)) false)) hp:=by
 refine qN_ (tab:=tab) ht hm hf hb hname hd (by simpa using hl) ?_;rw[hr];unfold xR_;simp -implicitDefEqProofs only[go_sem,Nat.reduceEqDiff,Nat.reduceAdd,reduceCtorEq, ↓reduceIte,hk,ho,hs,hbt,Nat.zero_mul,Nat.zero_le,and_self,true_and,List.map,List.all,chk,frz,toDl];rw[if_pos ⟨hz,hn⟩];simp -implicitDefEqProofs only[go_sem,Nat.reduceAdd, ↓reduceIte]
 exact jM_ (by rfl) ⟨rfl,rfl,qI_ _ _ _ _⟩
abbrev eT (s:ByteArray):List D:=[.v (.string s)]
def ofT (l:List UInt8):ByteArray:=⟨l.toArray⟩
def toT (s:ByteArray):List UInt8:=s.data.toList
theorem cq_ (s:ByteArray):ofT (toT s)=s:=by
 cases s;simp[ofT,toT]
theorem gX_ (l:List UInt8):toT (ofT l)=l:=by simp[ofT,toT]
theorem yZ_ (xs:List ByteArray):(xs.map toT).map ofT=xs:=by
 rw[List.map_map];exact(List.map_congr_left fun s _=>cq_ s).trans (List.map_id _)
theorem ay_ (s:ByteArray):encStr (toT s)= .string s:=by
 rfl
def srtT (xs:List ByteArray):List ByteArray:=((xs.map toT).mergeSort fun x y=>decide (x<=y)).map ofT
def cmpT (xs:List ByteArray):List ByteArray:=(Lib.compact (xs.map toT)).map ofT
theorem hh_ (xs:List ByteArray):(srtT xs).length=xs.length:=by simp[srtT]
theorem b9_ {gh:Gh}{c:Cf}(hr:HR gh c){xs:List ByteArray}{id ver:Nat}{br:Bool}(hi:c.hp id=some (.rw (xs.map eT) 1 ver br false)):Holds encStr c.w (c.φ id) 0 (xs.map toT).toArray:=by
 obtain⟨_,_,T,vs,C,h3,h4,h5,h6,h7⟩:=hr.obj id _ hi;intro j hj;have hj':j<xs.length:=by simpa using hj
 obtain⟨u,e1,e2⟩:=h7 j 0 (eT xs[j]) (.v (.string xs[j])) (by simp[hj']) rfl;cases e2;simp_all [World.frozen?,Nat.zero_add,World.cell?,toT]
theorem y0_ {gh:Gh}{c:Cf}(hr:HR gh c){xs:List ByteArray}{id ver:Nat}{br:Bool}(hi:c.hp id=some (.rw (xs.map eT) 1 ver br false))(ys:List (List UInt8))(hl:ys.length=xs.length)(n:Nat)(os:Array Obj)
  {c':Cf} (hc':c'=⟨upd id (some (.rw ((ys.map ofT).map eT) 1 ver br false)) c.hp,upd id (c.φ id) c.φ,grow (putRow encStr (Sort.ahead c.w n) (c.φ id) 0 ys.toArray) os,c.kn⟩):Ext c c'/\HR gh c'/\∀cur T,c.w.heap[c.φ id]? =some (.cells cur T (0,0))->∃cur',c'.w.heap[c'.φ id]? =some (.cells cur' T (0,0))/\cur'.size=cur.size:=by
 subst hc';obtain⟨hk0,hz,T,vs,C,h3,h4,h5,h6,h7⟩:=hr.obj id _ hi;rw[List.length_map] at h5;obtain⟨hkn1,hgb,hgs⟩:=hr.dom id _ hi;have hsz:c.w.heap.size<=(grow (putRow encStr (Sort.ahead c.w n) (c.φ id) 0 ys.toArray) os).heap.size:=by
  simp[grow,putRow,mapBlock,Sort.ahead]
 have hnew:(grow (putRow encStr (Sort.ahead c.w n) (c.φ id) 0 ys.toArray) os).heap[c.φ id]? =some (.cells (putCells encStr 0 ys.toArray vs) T (0,0)):=by
  rw[Sort.heap_grow_old _ _ (by simpa [putRow,mapBlock,Sort.ahead] using hgs)];simp[putRow,mapBlock,Sort.ahead,Array.getElem?_modify,h3,onCells]
 have hbl:∀b,b<c.w.heap.size->b≠c.φ id->(grow (putRow encStr (Sort.ahead c.w n) (c.φ id) 0 ys.toArray) os).heap[b]? =c.w.heap[b]? :=fun b hb hne=>by
  rw[Sort.heap_grow_old _ _ (by simpa [putRow,mapBlock,Sort.ahead] using hb)];simp[putRow,mapBlock,Sort.ahead,Array.getElem?_modify,Ne.symm hne]
 have hcell:∀(i:Nat) (y:List UInt8),ys[i]? =some y->(putCells encStr 0 ys.toArray vs)[i]? =some (encStr y):=by
  intro i y hy;have hi2:i<ys.length:=(List.getElem?_eq_some_iff.1 hy).1;have hlt2:i<vs.size:=by omega
  simp only[putCells,Array.getElem?_mapIdx,Array.getElem?_eq_getElem hlt2,Option.map_some];rw[if_pos (by simp;exact hi2),Nat.sub_zero];have e3:ys.toArray[i]! =y:=by
   rw[List.getElem?_eq_getElem hi2] at hy;cases hy;simp[hi2]
  rw[e3]
 have hext:Ext c ⟨upd id (some (.rw ((ys.map ofT).map eT) 1 ver br false)) c.hp,upd id (c.φ id) c.φ,grow (putRow encStr (Sort.ahead c.w n) (c.φ id) 0 ys.toArray) os,c.kn⟩:=by
  refine Ext.chg hr hi rfl rfl rfl rfl hsz hbl (.inl rfl) (fun _ h=>h) (fun h=>by cases h) (fun es' sz' v' br' fz' e=> ?_) (Nat.le_add_right _ _);cases e;refine⟨_,ver,br,false,rfl,Nat.le_refl _,fun _=>⟨rfl,by simp[hl],fun cur T0 e0=> ?_⟩⟩;rw[h3] at e0;cases e0;exact⟨_,hnew,by simp[putCells]⟩
 refine⟨hext,HR.chg hr hi hext hbl (.inl rfl) (Nat.lt_of_lt_of_le hgs hsz) ⟨hk0,fun i cs hi2=> ?_,T,putCells encStr 0 ys.toArray vs,C,?_,by simp only[putCells,Array.size_mapIdx];exact h4,by simp only[List.length_map];omega,h6,fun i j cs dd hi2 hj=> ?_⟩,fun cur T0 e0=> ?_⟩
 ·rw[List.getElem?_map,Option.map_eq_some_iff] at hi2
  obtain⟨x,_,rfl⟩:=hi2;rfl
 ·simp only[qd_]
  exact hnew
 ·rw[List.getElem?_map,Option.map_eq_some_iff] at hi2
  obtain⟨y,e1,rfl⟩:=hi2;rw[List.getElem?_map,Option.map_eq_some_iff] at e1;obtain⟨l,e1,rfl⟩:=e1;have hj0:j=0:=by
   have:=(List.getElem?_eq_some_iff.1 hj).1
   simpa using this
  subst hj0;cases hj;refine⟨_,?_,.v _ rfl⟩;rw[show i*1+0=i by omega,hcell i l e1];rfl
 ·rw[h3] at e0
  cases e0;simp only[qd_];exact⟨_,hnew,by simp[putCells]⟩
theorem nP_ {gh:Gh}{c:Cf}{es:List (List D)}{sz id ver len:Nat}{br:Bool}(hi:c.hp id=some (.rw es sz ver br false)){args:Array Value}(hsz:args.size=1)
  (hargs:∀(j:Nat) (x:AV),[AV.so id ver 0 len][j]? =some x->∃u,args[j]? =some u/\RAt gh c x u):len<=es.length/\∃C cur T,args= #[.slice (some ⟨c.φ id,0,none⟩) len C]/\c.w.heap[c.φ id]? =some (.cells cur T (0,0))/\cur.size=C*sz:=by
 obtain⟨u0,a0,b0⟩:=hargs 0 _ rfl;cases(show RA gh c (.so id ver 0 len) u0 from b0) with
 |so _ _ _ _ _ _ _ h=>
  grind
theorem nQ_ {f:FuncId}(hE:vn_ P f)
  (hS:∀(blk cap:Nat) (zs:List (List UInt8)) (w:World),Holds encStr w blk 0 zs.toArray->blk<w.heap.size->zs.length<4611686018427387904->
   Calls P f #[.slice (some ⟨blk,0,none⟩) zs.length cap] w fun e w'=>e= .returned (.tuple #[])/\∃n os,w'=grow (putRow encStr (Sort.ahead w n) blk 0 (zs.mergeSort fun x y=>decide (x<=y)).toArray) os)
  (xs:List ByteArray) (hn:xs.length<4611686018427387904) {id ver:Nat} {br:Bool} {hp:Hp} {nx:Nat} (hi:hp id=some (.rw (xs.map eT) 1 ver br false)):
  InlOK P f [.so id ver 0 xs.length] hp nx fun v hp2 nx2=>v= .tu []/\nx2=nx/\hp2=upd id (some (.rw ((srtT xs).map eT) 1 ver br false)) hp:=by
 refine⟨hE,fun gh c args hhp hkn hr hsz hargs=> ?_⟩;rw[<-hhp] at hi;obtain⟨_,C,cur,T,rfl,_,_⟩:=nP_ hi (by simpa using hsz) hargs;have hcon:=hS (c.φ id) C (xs.map toT) c.w (b9_ hr hi) (hr.dom id _ hi).2.2 (by simpa using hn);rw[List.length_map] at hcon;refine hcon.mono ?_;rintro e w' ⟨he,n,os,rfl⟩
 obtain⟨h1,h2,h8⟩:=y0_ hr hi ((xs.map toT).mergeSort fun x y=>decide (x<=y)) (by simp) n os rfl;exact⟨.tuple #[],.tu [],_,nx,he,⟨rfl,rfl,by simp only[hhp];rfl⟩,rfl,h1,h2,⟨#[],rfl,rfl,fun j x e=>by simp at e⟩,Nat.le_refl _,fun i h=>.inl h⟩
theorem da_ {f:FuncId}(hE:vn_ P f)
  (hS:∀(blk cap:Nat) (zs:List (List UInt8)) (w:World),Holds encStr w blk 0 zs.toArray->zs.length<=9223372036854775807->zs.length<=cap->
   Calls P f #[.slice (some ⟨blk,0,none⟩) zs.length cap] w fun e w'=>e= .returned (.slice (some ⟨blk,0,none⟩) (Lib.compact zs).length cap)/\∃q,w'=putRow encStr (Sort.ahead w q) blk 0 (Lib.compact zs++List.replicate (zs.length-(Lib.compact zs).length) []).toArray)
  (xs:List ByteArray) (hn:xs.length<=9223372036854775807) {id ver:Nat} {br:Bool} {hp:Hp} {nx:Nat} (hi:hp id=some (.rw (xs.map eT) 1 ver br false)):
  InlOK P f [.so id ver 0 xs.length] hp nx fun v hp2 nx2=>v= .so id ver 0 (cmpT xs).length/\nx2=nx/\hp2=upd id (some (.rw ((cmpT xs++List.replicate (xs.length-(cmpT xs).length) (ofT [])).map eT) 1 ver br false)) hp:=by
 refine⟨hE,fun gh c args hhp hkn hr hsz hargs=> ?_⟩;rw[<-hhp] at hi;obtain⟨_,C,cur,T,rfl,hcur,hcsz⟩:=nP_ hi (by simpa using hsz) hargs;obtain⟨_,_,T2,vs,C2,h3,h4,h5,h6,h7⟩:=hr.obj id _ hi;rw[List.length_map] at h5;have hC:xs.length<=C:=by
  rw[h3] at hcur;cases hcur;omega
 have hcon:=hS (c.φ id) C (xs.map toT) c.w (b9_ hr hi) (by simpa using hn) (by simpa using hC);rw[List.length_map] at hcon;refine hcon.mono ?_;rintro e w' ⟨he,n,rfl⟩;have hle:(Lib.compact (xs.map toT)).length<=xs.length:=by simpa using Lib.compact_length_le (xs.map toT)
 have hlen:(cmpT xs).length=(Lib.compact (xs.map toT)).length:=by simp[cmpT]
 obtain⟨h1,h2,h8⟩:=y0_ hr hi (Lib.compact (xs.map toT)++List.replicate (xs.length-(Lib.compact (xs.map toT)).length) []) (by simp;omega) n #[] rfl;have eg:∀w:World,grow w #[]=w:=fun w=>by simp[grow]
 rw[eg] at h1 h2 h8;have em:(Lib.compact (xs.map toT)++List.replicate (xs.length-(Lib.compact (xs.map toT)).length) []).map ofT=cmpT xs++List.replicate (xs.length-(cmpT xs).length) (ofT []):=by
  rw[List.map_append,List.map_replicate,hlen];rfl
 rw[em] at h1 h2 h8;refine⟨_,.so id ver 0 (cmpT xs).length,_,nx,he,⟨rfl,rfl,by simp only[hhp]⟩,rfl,h1,h2,?_,Nat.le_refl _,fun i h=>.inl h⟩;obtain⟨cur',k3,k4⟩:=h8 _ _ hcur
 have hi2:(upd id (some (AO.rw ((cmpT xs++List.replicate (xs.length-(cmpT xs).length) (ofT [])).map eT) 1 ver br false)) c.hp) id=some (AO.rw ((cmpT xs++List.replicate (xs.length-(cmpT xs).length) (ofT [])).map eT) 1 ver br false):=by rw[qd_]
 obtain⟨hkn2,_,_⟩:=h2.dom id _ hi2;refine(show RA gh _ (.so id ver 0 (cmpT xs).length) _ from RA.so id ver 0 (cmpT xs).length _ hkn2 ⟨_,_,by rw[hlen]⟩ fun es sz v br' fz e=> ?_);have e':=hi2.symm.trans e;cases e';simp_all [qd_]
end
end
section
open Go.RowKit
section
variable {P:Program}{tab:Nat->TI}
variable {ops:Array Oper}{nx0 nx:Nat}{k:List It}{Q:Ex->St->Prop}{i:Nat}{r:List Oper}{dst:Option Nat}{acc:List Rec}{ids:List Nat}{fr:Fr}{hp:Hp}
theorem j1_ {g:FuncId}{caps vs:List AV}{v:AV}{δ:List (Nat × AO)}{nx':Nat}(h1:InlOK P g (vs++caps) hp nx fun v2 hp2 nx2=>v2=v/\hp2=upds δ hp/\nx2=nx')(h:Rd P tab ops nx0 nx' k Q i r (⟨[sent],δ.map (·.1),true⟩::acc) (putS dst v fr) (upds δ hp)):
  vz_ P tab ops nx0 nx k Q i r dst acc ids fr hp (.fn g caps) vs:=
 q3_ (ids':=[sent]) (fun hp1 hq=>by rw[hq.2 (List.mem_singleton.2 rfl)];exact h1) h
end
end
section
open Go.RowKit
section
variable {P:Program}{tab:Nat->TI}
theorem cr_ {f:FuncId}{vs:List AV}{hp0 hp:Hp}{nx id ver sz m:Nat}{br:Bool}{es:List (List D)}(h:InlOK P f vs hp0 nx fun v hp2 _=>∃es',m<=es'.length/\es'.take m=es/\v= .so id ver 0 m/\hp2=upd id (some (.rw es' sz ver br false)) hp):
  InlOK P f vs hp0 nx fun v hp2 _=>v= .so id (ver+1) 0 m/\hp2=upd id (some (.rw es sz (ver+1) br false)) hp:=by
 refine⟨h.1,fun g c args hhp hkn hr hsz hargs=>(h.2 g c args hhp hkn hr hsz hargs).mono ?_⟩;rintro e w' ⟨u,v,c',nx',he,⟨es',hm,rfl,rfl,e2⟩,rfl,e5,e6,e7,e8,e9⟩;have hi:c'.hp id=some (.rw es' sz ver br false):=by rw[e2,qd_]
 obtain⟨hk0,hz,T,cur,C,h3,h4,h5,h6,h7⟩:=e6.obj id _ hi;obtain⟨_,_,hbs⟩:=e6.dom id _ hi;have hext:Ext c' ⟨upd id (some (.rw (es'.take m) sz (ver+1) br false)) c'.hp,upd id (c'.φ id) c'.φ,c'.w,c'.kn⟩:=by
  refine Ext.chg e6 hi rfl rfl rfl rfl (Nat.le_refl _) (fun _ _ _=>rfl) (.inl rfl) (fun _ h=>h) (fun h=>by cases h) (fun es2 sz2 v2 br2 fz2 e=> ?_) (Nat.le_refl _);cases e;exact⟨es',ver,br,false,rfl,Nat.le_succ _,fun e=>by omega⟩
 have hh:HR g ⟨upd id (some (.rw (es'.take m) sz (ver+1) br false)) c'.hp,upd id (c'.φ id) c'.φ,c'.w,c'.kn⟩:=by
  refine HR.chg e6 hi hext (fun _ _ _=>rfl) (.inl rfl) hbs ⟨hk0,fun i cs hi2=> ?_,T,cur,C,by simp only[qd_];exact h3,h4,by rw[List.length_take];omega,h6,fun i j cs d hi2 hj=> ?_⟩
  ·grind
  ·rw[List.getElem?_take] at hi2
   split at hi2
   ·obtain⟨u2,k1,k2⟩:=h7 i j cs d hi2 hj
    exact⟨u2,k1,k2.ext hext⟩
   ·cases hi2
 refine⟨u,.so id (ver+1) 0 m,⟨upd id (some (.rw (es'.take m) sz (ver+1) br false)) c'.hp,upd id (c'.φ id) c'.φ,c'.w,c'.kn⟩,nx',he,⟨rfl,?_⟩,rfl,e5.trans hext,hh,?_,e8,e9⟩
 ·show upd id (some (.rw (es'.take m) sz (ver+1) br false)) c'.hp=_
  rw[e2,qI_]
 ·have h8:RA g c' (.so id ver 0 m) u:=e7
  cases h8 with
  |so _ _ _ _ _ hkn2 hp2 h9=>
   obtain⟨_,k2⟩:=h9 _ _ _ _ _ hi;obtain⟨k3,cur2,T2,C2,k4,k5,k6⟩:=k2 rfl;refine(show RA g _ (.so id (ver+1) 0 m) _ from RA.so id (ver+1) 0 m _ hkn2 hp2 fun es2 sz2 v2 br2 fz2 e=> ?_);have e':=(qd_ id (some (AO.rw (es'.take m) sz (ver+1) br false)) c'.hp).symm.trans e;cases e';simp_all [List.length_take,qd_]
theorem y1_ (ht:TabOk P tab)(hm:P.follows .mixedOrders=true){f:FuncId}{fn:Func}{T B:TypeId}(hf:P.funcs[f]? =some fn)(hb:fn.body=some (xR_ T B))(hname:(fn.name== "runtime.NumGoroutine")=false)(hd:jK_ fn.ntmps (xR_ T B)=true)(hl:1<=fn.ntmps)(hr:fn.results= #[.tmp 2])
  (hk:(tab T).kind= .slice) (ho:(tab (tab T).elem).ok=true) {k:Nat} (hs0:(tab (tab T).elem).size=k) (hs:0<k) (hbt:(tab (tab T).elem).bytes<=32768) {α:Type} {e:α->List D} (he:∀x,(e x).length=k) (xs:List α) (h0:0<xs.length) (hn:xs.length<=4294967296) {b:Bool} {hp:Hp} {nx:Nat}:
  InlOK P f [.d (.sl (xs.map e)) b] hp nx fun v hp2 nx2=>v= .so (nx+3) 1 0 xs.length/\hp2=upd (nx+3) (some (.rw (xs.map e) k 1 (b&& !(zV_ (xs.map e))) false)) hp/\nx2=nx+7:=by
 subst hs0;obtain⟨x,r,rfl⟩:∃x r,xs=x::r:=by cases xs with |nil=>simp at h0 |cons x r=>exact⟨x,r,rfl⟩
 have h:=b8_ (x:=e x) (es:=r.map e) (b:=b) (hp:=hp) (nx:=nx) ht hm hf hb hname hd hl hr hk ho hs hbt (by simp[he]) (by simp at hn⊢;omega);refine h.mono ?_;rintro v hp2 nx2 ⟨h1,h2,h3⟩;exact⟨by simpa using h2,h3,h1⟩
theorem cs_ {f:FuncId}{vs:List AV}{hp:Hp}{nx id:Nat}{o:AO}{R:AV->Hp->Nat->Prop}(hi:hp id=some o)(h:InlOK P f vs (upd id (some o) hp) nx R):InlOK P f vs hp nx R:=by
 rwa [qQ_ hi] at h
end
end
section
section
theorem h9_:vm_ []=some []:=rfl
theorem fl_ (x:Value)(r:List AV):vm_ (.v x::r)=(vm_ r).map (x:: ·):=rfl
theorem gY_ (x:Value)(r:List Value):(some r).map (x:: ·)=some (x::r):=rfl
theorem ct_ (k:TK)(x y:Value):eqK [k] [x] [y]=eq1 k x y:=by
 show(match eq1 k x y,some true with
  |some b,some c=>some (b&&c)
  |_,_=>none)=_
 cases eq1 k x y<;>simp
theorem cu_ (k k2:TK)(ks:List TK)(x x2 y y2:Value)(xs ys:List Value):eqK (k::k2::ks) (x::x2::xs) (y::y2::ys)=match eq1 k x y,eqK (k2::ks) (x2::xs) (y2::ys) with
  |some b,some c=>some (b&&c)
  |_,_=>none:=rfl
theorem ma_ (a b:ByteArray):eq1 .string (.string a) (.string b)=some (a==b):=rfl
theorem r3_ (a b:Bool):eq1 .bool (.bool a) (.bool b)=some (a==b):=rfl
theorem cv_ (k:IntKind)(a b:Int):eq1 (.int k) (.int k a) (.int k b)=some (a==b):=if_pos ⟨rfl,rfl⟩
attribute [go_sem] h9_ fl_ gY_ ct_ cu_ ma_ r3_ cv_
end
end
section
open Go.RowKit
def wW_:AV->Bool
 | .ag _=>true
 | .d (.ag _) _=>true
 |_=>false
def zm_:AV->List AV
 | .ag cs=>cs
 | .d (.ag cs) b=>cs.map (lift b)
 |x=>[x]
inductive ToX (hp:Hp) (b:Bool):AV->D->Prop
 |one {x:AV} {d:D} {b':Bool} {is:List Nat} (h:toD1 hp x=some (d,b',is)) (hb:b'=true->b=true):ToX hp b x d
 |pt {id off:Nat} {cs:List AV} {ds:List D} (h:hp id=some (.bx cs)) (hl:ds.length=cs.length) (hc:∀(j:Nat) (x:AV) (d:D),cs[j]? =some x->ds[j]? =some d->ToX hp b x d):ToX hp b (.pt id off) (.pt ds off)
 |mo {id:Nat} {es:List (Value × AV)} {dl:Bool} {ms:List (Value × Bool × List D)} (h:hp id=some (.mo es dl)) (hl:ms.length=es.length)
   (hk:∀(j:Nat) (k:Value) (v:AV) (k':Value) (ag:Bool) (ds:List D),es[j]? =some (k,v)->ms[j]? =some (k',ag,ds)->k'=k/\ag=wW_ v/\ds.length=(zm_ v).length/\(ag=false->we_ v=true))
   (hc:∀(j:Nat) (k:Value) (v:AV) (k':Value) (ag:Bool) (ds:List D) (i:Nat) (x:AV) (d:D),es[j]? =some (k,v)->ms[j]? =some (k',ag,ds)->(zm_ v)[i]? =some x->ds[i]? =some d->ToX hp b x d):ToX hp b (.mo id) (.mp ms)
 |rb {x:AV} {ds:List D} {off:Nat} (m:Nat) (h:ToX hp b x (.pt ds off)):ToX hp b x (.pt ((ds.drop off).take m) 0)
section
variable {P:Program}{tab:Nat->TI}{g:Gh}{c:Cf}
theorem nR_ {u:Value}(h:u.oneCell'=true):u.cells= #[u]:=by
 cases u<;>first |rfl |cases h
theorem db_ {v:AV}{u:Value}(hv:wW_ v=true\/we_ v=true)(h:RA1 g c v u):u.cells.size=(zm_ v).length/\(wW_ v=true->∃vs,u= .agg vs)/\(wW_ v=false->u.cells= #[u])/\∀(j:Nat) (x:AV),(zm_ v)[j]? =some x->∃y,u.cells[j]? =some y/\RA g c x y:=by
 have one:∀ {v:AV},RA g c v u->u.cells.size= [v].length/\(u.cells= #[u])/\∀(j:Nat) (x:AV),[v][j]? =some x->∃y,u.cells[j]? =some y/\RA g c x y:=fun{v} h=>by
  have h1:=nR_ h.one;grind
 have fin:∀ {v:AV},wW_ v=false->zm_ v= [v]->RA g c v u->u.cells.size=(zm_ v).length/\(wW_ v=true->∃vs,u= .agg vs)/\(wW_ v=false->u.cells= #[u])/\∀(j:Nat) (x:AV),(zm_ v)[j]? =some x->∃y,u.cells[j]? =some y/\RA g c x y:=fun{v} h1 h2 h3=>by
  grind
 cases v with
 |ag cs=>
  obtain⟨vs,rfl,h2,h3⟩:=h;exact⟨h2,fun _=>⟨vs,rfl⟩,fun h=>(by cases h),h3⟩
 |d x b=>
  cases x with
  |ag cs=>
   obtain⟨vs,rfl,h2,h3⟩:=h;refine⟨by show vs.size=(cs.map (lift b)).length;rw[List.length_map];exact h2,fun _=>⟨vs,rfl⟩,fun h=>(by cases h),fun j x hj=> ?_⟩;simp only[zm_] at hj;rw[List.getElem?_map,Option.map_eq_some_iff] at hj;obtain⟨d,h4,rfl⟩:=hj;obtain⟨y,h5,h6⟩:=h3 j d h4;exact⟨y,h5,RC.toRA h6⟩
  |tu cs=>rcases hv with hv |hv<;>cases hv
  |v x=>exact fin rfl rfl h
  |sl x=>exact fin rfl rfl h
  |pt x o=>exact fin rfl rfl h
  |mp x=>exact fin rfl rfl h
 |tu cs=>rcases hv with hv |hv<;>cases hv
 |un=>rcases hv with hv |hv<;>cases hv
 |v x=>exact fin rfl rfl h
 |pt i o=>exact fin rfl rfl h
 |pr i v k o=>exact fin rfl rfl h
 |so i v o n=>exact fin rfl rfl h
 |mo i=>exact fin rfl rfl h
 |fn f cs=>exact fin rfl rfl h
theorem ToX.ok {hp:Hp}(hr:HR g c)(hhp:c.hp=hp){b:Bool}{x:AV}{d:D}(h:ToX hp b x d){u:Value}(hu:RA g c x u)(I:Nat->Prop)(hI:∀k,Im g c b k->I k)(hO:∀i o,hp i=some o->I (c.φ i)):RC c.w I d u:=by
 induction h generalizing u with
 | @one x d b' is h hb=>
  refine yr_ hr hhp hu h I (fun k hk=>hI k ?_) fun i hi=> ?_
  ·cases b' with
   |true=>rw[hb rfl];exact hk
   |false=>cases b with
    |true=>exact hk.weak
    |false=>exact hk
  ·obtain⟨es,sz,v,fz,h4⟩:=vv_ h i hi
   exact hO i _ h4
 | @pt id off cs ds h hl hc ih=>
  cases hu with
  |pt _ _ hn ho=>
   have h':=h;rw[<-hhp] at h';obtain⟨T,vs,h1,h2,h3⟩:=hr.obj id _ h';have key:RC c.w I (.pt ds off) (.pointer (some ⟨c.φ id,0+off,none⟩)):=by
    refine RC.pt ds off (c.φ id) 0 (fun j=>vs.getD j undef) (hO id _ h) (fun j d hj=> ?_) fun j d hj=> ?_
    ·have hlt:j<vs.size:=by
      have:=(List.getElem?_eq_some_iff.1 hj).1
      omega
     simp[World.cell?,h1,Array.getD,hlt]
    ·have hlt:j<cs.length:=by
      have:=(List.getElem?_eq_some_iff.1 hj).1
      omega
     obtain⟨y,k1,k2⟩:=h3 j cs[j] (by simp[hlt])
     have:=ih j cs[j] d (by simp[hlt]) hj k2
     rwa [Array.getD_eq_getD_getElem?,k1]
   rwa [Nat.zero_add] at key
 | @mo id es dl ms h hl hk hc ih=>
  cases hu with
  |mo _ hn ho=>
   have h':=h;rw[<-hhp] at h';obtain⟨en,k,h1,h2,_,h3⟩:=hr.obj id _ h';have at_:∀ {j:Nat} {p:Value × Bool × List D},ms[j]? =some p->∃k v,es[j]? =some (k,v):=fun{j p} hj=>by
    have:=(List.getElem?_eq_some_iff.1 hj).1
    exact⟨_,_,List.getElem?_eq_getElem (by omega)⟩
   have val:∀ {j:Nat} {k0:Value} {v:AV} {k':Value} {ag:Bool} {ds:List D} {e:MapEntry},es[j]? =some (k0,v)->ms[j]? =some (k',ag,ds)->en[j]? =some e->e.key=k0/\RA1 g c v e.val:=fun{j k0 v k' ag ds e} q1 _ q3=>by
    grind
   refine RC.mp ms (c.φ id) en k (hO id _ h) h1 (by omega) (fun j x ag ds e q1 q2=> ?_) fun j i x ag ds e d u q1 q2 q3 q4=> ?_
   ·obtain⟨k0,v,q3⟩:=at_ q1
    obtain⟨r1,r2,r3,r4⟩:=hk j k0 v x ag ds q3 q1;obtain⟨s1,s2⟩:=val q3 q1 q2;have hv:wW_ v=true\/we_ v=true:=by
     cases ag with
     |true=>exact .inl r2.symm
     |false=>exact .inr (r4 rfl)
    grind [db_]
   ·obtain⟨k0,v,q5⟩:=at_ q1
    obtain⟨r1,r2,r3,r4⟩:=hk j k0 v x ag ds q5 q1;obtain⟨s1,s2⟩:=val q5 q1 q2;have hv:wW_ v=true\/we_ v=true:=by
     cases ag with
     |true=>exact .inl r2.symm
     |false=>exact .inr (r4 rfl)
    obtain⟨_,_,_,t4⟩:=db_ hv s2;have hlt:i<(zm_ v).length:=by
     have:=(List.getElem?_eq_some_iff.1 q3).1
     omega
    obtain⟨y,t5,t6⟩:=t4 i (zm_ v)[i] (by simp[hlt]);grind
 | @rb x ds off m h ih=>
  have h1:=ih hu;cases h1 with
  |pt _ _ bl o us hI hm hd=>
   have at_:∀ {j:Nat} {d:D},((ds.drop off).take m)[j]? =some d->ds[off+j]? =some d:=fun{j d} hj=>by
    grind
   have key:RC c.w I (.pt ((ds.drop off).take m) 0) (.pointer (some ⟨bl,(o+off)+0,none⟩)):=
    RC.pt _ 0 bl (o+off) (fun j=>us (off+j)) hI (fun j d hj=>by grind) fun j d hj=>hd _ d (at_ hj)
   exact key
inductive ToXV (hp:Hp) (b:Bool):AV->D->Prop
 |one {x:AV} {d:D} (h:ToX hp b x d) (hx:we_ x=true):ToXV hp b x d
 |ag {cs:List AV} {ds:List D} (hl:ds.length=cs.length) (hc:∀(j:Nat) (x:AV) (d:D),cs[j]? =some x->ds[j]? =some d->ToX hp b x d):ToXV hp b (.ag cs) (.ag ds)
 |dag {cs:List D} {b':Bool} (hb:b'=true->b=true\/zU_ cs=true):ToXV hp b (.d (.ag cs) b') (.ag cs)
def PW {α β:Type}(R:α->β->Prop)(xs:List α)(ds:List β):Prop:=ds.length=xs.length/\∀(j:Nat) (x:α) (d:β),xs[j]? =some x->ds[j]? =some d->R x d
theorem PW.nil {α β:Type}{R:α->β->Prop}:PW R [] []:=⟨rfl,fun j x d h=>by simp at h⟩
theorem PW.cons {α β:Type}{R:α->β->Prop}{x:α}{d:β}{xs:List α}{ds:List β}(h:R x d)(hs:PW R xs ds):PW R (x::xs) (d::ds):=⟨by simp[hs.1],fun j y e hy he=>by
 cases j with
 |zero=>grind
 |succ j=>exact hs.2 j y e (by simpa using hy) (by simpa using he)⟩
theorem ToX.place {hp:Hp}{b:Bool}{id off:Nat}{cs:List AV}{ds:List D}(h:hp id=some (.bx cs))(hc:PW (ToX hp b) cs ds):ToX hp b (.pt id off) (.pt ds off):=.pt h hc.1 hc.2
theorem ToX.rbE {hp:Hp}{b:Bool}{x:AV}{ds es:List D}{off:Nat}(m:Nat)(h:ToX hp b x (.pt ds off))(he:(ds.drop off).take m=es):ToX hp b x (.pt es 0):=he▸ToX.rb m h
theorem RV1.of {w:World}{I:Nat->Prop}{d:D}{u:Value}(h:RC w I d u):RV1 w I d u:=by
 cases d<;>first |exact h |cases h
theorem RV.of {w:World}{I:Nat->Prop}{d:D}{u:Value}(h:RV1 w I d u)(hd:∀ds,d≠ .tu ds):RV w I d u:=by
 cases d with
 |tu ds=>exact absurd rfl (hd ds)
 |_=>exact h
theorem ToXV.agP {hp:Hp}{b:Bool}{cs:List AV}{ds:List D}(hc:PW (ToX hp b) cs ds):ToXV hp b (.ag cs) (.ag ds):=.ag hc.1 hc.2
theorem ToXV.ok {hp:Hp}(hr:HR g c)(hhp:c.hp=hp){b:Bool}{x:AV}{d:D}(h:ToXV hp b x d){u:Value}(hu:RAt g c x u)(I:Nat->Prop)(hI:∀k,Im g c b k->I k)(hO:∀i o,hp i=some o->I (c.φ i)):RV1 c.w I d u/\∀ds,d≠ .tu ds:=by
 cases h with
 |one h hx=>
  have h1:=h.ok hr hhp (bJ_ hx hu) I hI hO;exact⟨RV1.of h1,fun ds e=>by subst e;cases h1⟩
 |ag hl hc=>
  obtain⟨vs,rfl,h2,h3⟩:=hu;rename_i cs ds;refine⟨⟨vs,rfl,by omega,fun j d hj=> ?_⟩,fun _ e=>by cases e⟩;have hlt:j<cs.length:=by
   have:=(List.getElem?_eq_some_iff.1 hj).1
   omega
  obtain⟨y,h4,h5⟩:=h3 j cs[j] (by simp[hlt]);exact⟨y,h4,(hc j cs[j] d (by simp[hlt]) hj).ok hr hhp h5 I hI hO⟩
 | @dag cs b' hb=>
  obtain⟨vs,rfl,h2,h3⟩:=hu;refine⟨⟨vs,rfl,h2,fun j d hj=> ?_⟩,fun _ e=>by cases e⟩;obtain⟨y,h4,h5⟩:=h3 j d hj;refine⟨y,h4,?_⟩;cases b' with
  |false=>exact h5.mono (fun _ _=>rfl) fun k hk=>hI k (by cases b with |true=>exact hk.weak |false=>exact hk)
  |true=>
   rcases hb rfl with hb |hb
   ·subst hb
    exact h5.mono (fun _ _=>rfl) hI
   grind [RC.plain,zU_,List.all_eq_true,List.mem_of_getElem?]
inductive ToXR (hp:Hp) (b:Bool):AV->D->Prop
 |val {x:AV} {d:D} (h:ToXV hp b x d):ToXR hp b x d
 |tu {cs:List AV} {ds:List D} (hc:PW (ToXV hp b) cs ds):ToXR hp b (.tu cs) (.tu ds)
theorem ToXR.ok {hp:Hp}(hr:HR g c)(hhp:c.hp=hp){b:Bool}{x:AV}{d:D}(h:ToXR hp b x d){u:Value}(hu:RAt g c x u)(I:Nat->Prop)(hI:∀k,Im g c b k->I k)(hO:∀i o,hp i=some o->I (c.φ i)):RV c.w I d u:=by
 cases h with
 |val h=>
  obtain⟨h1,h2⟩:=h.ok hr hhp hu I hI hO;exact RV.of h1 h2
 | @tu cs ds hc=>
  obtain⟨vs,rfl,h2,h3⟩:=hu;have hl:=hc.1;refine⟨vs,rfl,by omega,fun j d hj=> ?_⟩;have hlt:j<cs.length:=by
   have:=(List.getElem?_eq_some_iff.1 hj).1
   omega
  obtain⟨y,h4,h5⟩:=h3 j cs[j] (by simp[hlt]);exact⟨y,h4,((hc.2 j cs[j] d (by simp[hlt]) hj).ok hr hhp h5.toAt I hI hO).1⟩
def EndX (d:D)(fr:Bool)(v:AV)(hp':Hp)(_nx:Nat):Prop:=∃b,ToXR hp' b v d/\(fr=true->b=false)
theorem xN_ {rs:Array ResultVar}{s:St}{v:AV}{d:D}{fr b:Bool}(h1:resA tab rs s=some v)(h2:ToXR s.hp b v d)(h3:fr=true->b=false):EndW tab rs (EndX d fr) .ret s:=jM_ h1 ⟨b,h2,h3⟩
theorem gZ_ {f:FuncId}{as:List DA}{d:D}{fr:Bool}(h:InlOK P f (as.map DA.av) noHp 0 (EndX d fr)):PureA P f as d fr:=by
 refine⟨h.1,fun w M0 args hM hsz hargs=> ?_⟩;have hr:HR ⟨w.heap.size,M0,w.heap.size⟩ ⟨noHp,fun _=>0,w,fun _=>False⟩:=⟨Nat.le_refl _,hM,fun _ _ h=>by simp[noHp] at h,fun _ _ _ _ h=>by simp[noHp] at h,fun _ _ h=>by simp[noHp] at h⟩
 have hIm:∀k,(k<w.heap.size/\¬M0 k)->Im ⟨w.heap.size,M0,w.heap.size⟩ ⟨noHp,fun _=>0,w,fun _=>False⟩ true k:=fun k hk=>⟨hk.1,hk.2,fun _ _ h=>by simp[noHp] at h,by simp⟩
 refine(h.2 ⟨w.heap.size,M0,w.heap.size⟩ ⟨noHp,fun _=>0,w,fun _=>False⟩ args rfl (fun _ h=>h.elim) hr (by simpa using hsz) (fun j x hj=> ?_)).mono fun e w' ⟨u,v,c',nx',h1,⟨b,h2,h3⟩,h4,h5,h6,h7,_,_⟩=> ?_
 ·rw[List.getElem?_map,Option.map_eq_some_iff] at hj
  obtain⟨x,h1,rfl⟩:=hj;obtain⟨u,h2,h3⟩:=hargs j x h1;refine⟨u,h2,?_⟩;cases x with
  |d d=>
   have h4:RV1 w (Im ⟨w.heap.size,M0,w.heap.size⟩ ⟨noHp,fun _=>0,w,fun _=>False⟩ true) d u:=RV1.mono (fun _ _=>rfl) hIm h3;show RAt _ _ (lift true d) u;cases d with
   |ag cs=>exact h4
   |tu cs=>cases h4
   |v x=>exact(RC.toRA (c:=⟨noHp,fun _=>0,w,fun _=>False⟩) h4).toAt
   |sl x=>exact(RC.toRA (c:=⟨noHp,fun _=>0,w,fun _=>False⟩) h4).toAt
   |pt x y=>exact(RC.toRA (c:=⟨noHp,fun _=>0,w,fun _=>False⟩) h4).toAt
   |mp x=>exact(RC.toRA (c:=⟨noHp,fun _=>0,w,fun _=>False⟩) h4).toAt
  |fn f caps=>
   obtain⟨us,n,e1,rfl,e3⟩:=h3;show RA _ _ (.fn f (caps.map (lift true))) _;refine .fn f _ us n (by simpa using e1) fun j x hj=> ?_;rw[List.getElem?_map,Option.map_eq_some_iff] at hj;obtain⟨y,e4,rfl⟩:=hj;exact RC.toRA (c:=⟨noHp,fun _=>0,w,fun _=>False⟩) ((e3 j y e4).mono (fun _ _=>rfl) hIm)
 ·subst h4
  refine⟨u,h1,⟨⟨h5.os,h5.tape,h5.output,h5.size,fun k hk=>h5.block k hk fun id o ho=>by simp[noHp] at ho⟩,h5.drawn⟩,?_⟩;refine h2.ok h6 rfl h7 (fun k=>k<c'.w.heap.size/\¬M0 k/\(fr=true->w.heap.size<=k)) (fun k hk=>⟨hk.1,hk.2.1,fun hf=>hk.2.2.2 (h3 hf)⟩) fun i o hi=> ?_;obtain⟨_,g1,g2⟩:=h6.dom i _ hi;exact⟨g2,g1.2,fun _=>g1.1⟩
theorem PureOK.of_A {f:FuncId}{ds:List D}{d:D}{fr:Bool}(h:PureA P f (ds.map .d) d fr):PureOK P f ds d fr:=
 ⟨h.1,fun w M0 args h1 h2 h3=>h.2 w M0 args h1 (by simpa using h2) fun j x hj=>by
  rw[List.getElem?_map,Option.map_eq_some_iff] at hj;obtain⟨y,h4,rfl⟩:=hj;exact h3 j y h4⟩
theorem mb_ (ht:TabOk P tab){f:FuncId}{fn:Func}{code:Code}(hf:P.funcs[f]? =some fn)(hb:fn.body=some code)(hname:(fn.name== "runtime.NumGoroutine")=false)(hd:jK_ fn.ntmps code=true){as:List DA}{d:D}{fresh:Bool}
  (hlen:as.length<=fn.ntmps) (h:runR 0 P [.c code] (EndW tab fn.results (EndX d fresh)) ⟨frOf (as.map DA.av),noHp,0⟩):PureA P f as d fresh:=
 gZ_ (qX_ ht hf hb hname hd (by simpa using hlen) h)
inductive ToXA (hp:Hp) (b:Bool):AV->DA->Prop
 |d {x:AV} {d:D} (h:ToXV hp b x d):ToXA hp b x (.d d)
 |fn {f:FuncId} {caps:List AV} {ds:List D} (h:PW (ToX hp b) caps ds):ToXA hp b (.fn f caps) (.fn f ds)
theorem ToXA.ok {hp:Hp}(hr:HR g c)(hhp:c.hp=hp){b:Bool}{x:AV}{d:DA}(h:ToXA hp b x d){u:Value}(hu:RAt g c x u)(I:Nat->Prop)(hI:∀k,Im g c b k->I k)(hO:∀i o,hp i=some o->I (c.φ i)):RVA c.w I d u:=by
 cases h with
 |d h=>exact(h.ok hr hhp hu I hI hO).1
 | @fn f caps ds h=>
  cases(show RA g c (.fn f caps) u from hu) with
  |fn _ _ us n hn hus=>
   have hl:=h.1;refine⟨us,n,by omega,rfl,fun j x hj=> ?_⟩;have hlt:j<caps.length:=by
    have:=(List.getElem?_eq_some_iff.1 hj).1
    omega
   exact(h.2 j caps[j] x (by simp[hlt]) hj).ok hr hhp (hus j caps[j] (by simp[hlt])) I hI hO
theorem kE_ {f:FuncId}{vs:List AV}{hp:Hp}{nx:Nat}{as:List DA}{b:Bool}{d:D}(hd:PW (ToXA hp b) vs as)(hp0:PureA P f as d true):
  InlOK P f vs hp nx fun v2 hp2 nx2=>v2=lift false d/\hp2=hp/\nx2=nx:=by
 refine⟨hp0.1,fun g c vals hhp hkn hr hsz hall=> ?_⟩;obtain⟨_,hp0⟩:=hp0;have hl:=hd.1;refine(hp0 c.w (fun _=>False) vals (fun _ h=>h.elim) (by omega) (fun j x hj=> ?_)).mono fun e w' ⟨u,he,⟨hb,hdr⟩,hv⟩=> ?_
 ·have hlt:j<vs.length:=by
   have:=(List.getElem?_eq_some_iff.1 hj).1
   omega
  obtain⟨u,h1,h2⟩:=hall j vs[j] (by simp[hlt]);exact⟨u,h1,(hd.2 j vs[j] x (by simp[hlt]) hj).ok hr hhp h2 (fun k=>k<c.w.heap.size/\¬False) (fun k hk=>⟨hk.1,fun h=>h⟩) fun i o hi=>⟨(hr.dom i _ (hhp▸hi)).2.2,fun h=>h⟩⟩
 subst he;have he:Ext c ⟨c.hp,c.φ,w',c.kn⟩:=⟨hb.os,hb.tape,hb.output,hb.size,fun _ h=>h,fun k hk _=>hb.block k hk,fun id o ho hf=>.inr ⟨o,ho,hf,rfl⟩,fun _ _ h=>⟨rfl,h⟩,
  fun id es _ v br fz hk hr2=>⟨es,v,br,fz,hr2,Nat.le_refl _,fun _=>⟨rfl,rfl,fun cur _ e=>⟨cur,(hb.block _ (hr.dom id _ hr2).2.2).trans e,rfl⟩⟩⟩,hdr⟩
 have hr':HR g ⟨c.hp,c.φ,w',c.kn⟩:=⟨Nat.le_trans hr.le hb.size,fun k hk=>Nat.lt_of_lt_of_le (hr.m0 k hk) hb.size,fun id o ho=>⟨(hr.dom id o ho).1,(hr.dom id o ho).2.1,Nat.lt_of_lt_of_le (hr.dom id o ho).2.2 hb.size⟩,hr.inj,fun id o ho=>(hr.obj id o ho).ext he rfl (hb.block _ (hr.dom id o ho).2.2)⟩
 refine⟨u,_,⟨c.hp,c.φ,w',c.kn⟩,nx,rfl,⟨rfl,hhp,rfl⟩,rfl,he,hr',?_,Nat.le_refl _,fun i h=>.inl h⟩;have hv2:RV w' (Im g ⟨c.hp,c.φ,w',c.kn⟩ false) d u:=hv.mono (fun _ _=>rfl) fun k hk=>by
  obtain⟨h1,_,h2⟩:=hk;have h3:=h2 rfl;refine⟨h1,fun hm=> ?_,fun id o ho _ e=> ?_,fun _=>Nat.le_trans hr.le h3⟩
  ·have:=hr.m0 k hm
   have:=hr.le
   omega
  ·have:=(hr.dom id o ho).2.2
   simp only at e;omega
 cases d with
 |v x=>exact(RC.toRA (c:=⟨c.hp,c.φ,w',c.kn⟩) hv2).toAt
 |sl es=>exact(RC.toRA (c:=⟨c.hp,c.φ,w',c.kn⟩) hv2).toAt
 |pt cs off=>exact(RC.toRA (c:=⟨c.hp,c.φ,w',c.kn⟩) hv2).toAt
 |mp es=>exact(RC.toRA (c:=⟨c.hp,c.φ,w',c.kn⟩) hv2).toAt
 |ag cs=>exact hv2
 |tu cs=>exact hv2
section
variable {ops:Array Oper}{nx0 nx i:Nat}{k:List It}{Q:Ex->St->Prop}{r:List Oper}{s:St}{dst:Option Nat}{acc:List Rec}{fr:Fr}{hp:Hp}{ids:List Nat}
theorem dc_ {g:FuncId}{caps vs:List AV}{as:List DA}{b:Bool}{d:D}(h1:PW (ToXA s.hp b) (vs++caps) as)(h2:PureA P g as d true)(h:Rt P tab ops nx0 k Q i r ⟨putS dst (lift false d) s.fr,s.hp,s.nx⟩):
  wf_ P tab ops nx0 k Q i r dst s (.fn g caps) vs:=qe_ ((kE_ h1 h2).mono fun v2 hp2 nx2 hq=>by
 obtain⟨rfl,rfl,rfl⟩:=hq;exact h)
theorem x8_ {g:FuncId}{caps vs:List AV}{as:List DA}{b:Bool}{d:D}(ids':List Nat)(h1:∀hp1:Hp,(∀i∈ids',hp1 i=hp i)->PW (ToXA hp1 b) (vs++caps) as)(h2:PureA P g as d true)(h:Rd P tab ops nx0 nx k Q i r (⟨ids',[],true⟩::acc) (putS dst (lift false d) fr) hp):
  vz_ P tab ops nx0 nx k Q i r dst acc ids fr hp (.fn g caps) vs:=
 q3_ (ids':=ids') (v:=lift false d) (δ:=[]) (nx':=nx) (fun hp1 hq=>(kE_ (h1 hp1 hq.1) h2).mono fun _ _ _ ⟨e1,e2,e3⟩=>⟨e1,e2,e3⟩) h
end
end
end
section
open Go.RowKit
instance baLawful:LawfulBEq ByteArray where
 eq_of_beq {a b} h:=by
  cases a;cases b;have h':ByteArray.beq _ _=true:=h;unfold ByteArray.beq at h';simpa using h'
 rfl {a}:=by
  show ByteArray.beq a a=true;unfold ByteArray.beq;simp
def famH {K α:Type}(f:α->List D)(sz B:Nat)(vs:Nat->Nat)(es:List (K × List α))(hp:Hp):Hp:=fun i=>
 bif Nat.ble B i&&Nat.blt i (B+4294967296) then(es[i-B]?).map fun p=>AO.rw (p.2.map f) sz (vs (i-B)) false false else hp i
noncomputable def fid (B j:Nat):Nat:=Classical.choose (⟨j+B,rfl⟩:∃x,x=j+B)
theorem qR_ (B j:Nat):fid B j=j+B:=Classical.choose_spec (⟨j+B,rfl⟩:∃x,x=j+B)
theorem fid_lo {B j c:Nat}(h:c<B):(fid B j=c)=False:=eq_false (by rw[qR_];omega)
theorem y2_ {B j c:Nat}(h:c<B):(c=fid B j)=False:=eq_false (by rw[qR_];omega)
theorem fid_hi {B j c:Nat}(hj:j<4294967296)(h:B+4294967296<=c):(fid B j=c)=False:=eq_false (by rw[qR_];omega)
theorem cw_ {B j c:Nat}(hj:j<4294967296)(h:B+4294967296<=c):(c=fid B j)=False:=eq_false (by rw[qR_];omega)
noncomputable def encG {K α:Type} (kv:K->Value) (B:Nat) (vs:Nat->Nat):Nat->List (K × List α)->List (Value × AV)
 |_,[]=>[]
 |o,p::r=>(kv p.1,.so (fid B o) (vs o) 0 p.2.length)::encG kv B vs (o+1) r
noncomputable def encF {K α:Type} (kv:K->Value) (B:Nat) (vs:Nat->Nat) (es:List (K × List α)):List (Value × AV):=encG kv B vs 0 es
section
variable {K α:Type}[BEq K]
def madd (k:K)(ys:List α):List (K × List α)->List (K × List α)
 |[]=>[(k,ys)]
 |p::r=>if k==p.1 then(k,p.2++ys)::r else p::madd k ys r
def famG (k:K)(es:List (K × List α)):Bool:=decide (es.length<4294967296)&&decide ((qk_ k [] es).length<4294967296)
theorem k9_ {k:K}{es:List (K × List α)}(h:famG k es=true):es.length<4294967296/\(qk_ k [] es).length<4294967296:=by
 simpa [famG] using h
end
section
variable {K α:Type}{kv:K->Value}{B:Nat}{vs:Nat->Nat}{f:α->List D}{sz:Nat}
theorem nS_:∀(es:List (K × List α)) (o j:Nat),(encG kv B vs o es)[j]? =(es[j]?).map fun p=>(kv p.1,AV.so (fid B (o+j)) (vs (o+j)) 0 p.2.length)
 |[],o,j=>by simp[encG]
 |p::r,o,j=>by
  cases j with
  |zero=>simp[encG]
  |succ j=>simp[encG,nS_ r (o+1) j,Nat.add_assoc,Nat.add_comm 1 j]
theorem y3_ (es:List (K × List α))(j:Nat):(encF kv B vs es)[j]? =(es[j]?).map fun p=>(kv p.1,AV.so (fid B j) (vs j) 0 p.2.length):=by
 rw[encF,nS_];simp
theorem r4_ (es:List (K × List α)):(encF kv B vs es).length=es.length:=by
 have:∀(es:List (K × List α)) o,(encG kv B vs o es).length=es.length:=by
  intro es;induction es with
  |nil=>intro o;rfl
  |cons p r ih=>intro o;simp[encG,ih]
 exact this es 0
theorem xZ_ {es:List (K × List α)}{hp:Hp}{j:Nat}{p:K × List α}(h:es[j]? =some p)(hj:j<4294967296):famH f sz B vs es hp (fid B j)=some (.rw (p.2.map f) sz (vs j) false false):=by
 rw[qR_];unfold famH;have h1:(Nat.ble B (j+B)&&Nat.blt (j+B) (B+4294967296))=true:=by simp;omega
 rw[h1];simp[h]
theorem g0_ {es:List (K × List α)}{hp:Hp}{i:Nat}(h:i<B\/B+4294967296<=i):famH f sz B vs es hp i=hp i:=by
 unfold famH;have h1:(Nat.ble B i&&Nat.blt i (B+4294967296))=false:=by
  cases h2:(Nat.ble B i&&Nat.blt i (B+4294967296)) with
  |false=>rfl
  |true=>
   simp only[Bool.and_eq_true,Nat.ble_eq,Nat.blt_eq] at h2;omega
 rw[h1];rfl
theorem nT_ {es:List (K × List α)}{hp:Hp}{i:Nat}{x:Option AO}(h:i<B\/B+4294967296<=i):upd i x (famH f sz B vs es hp)=famH f sz B vs es (upd i x hp):=by
 grind [g0_,upd,famH]
theorem r5_ {α:Type}{i j:Nat}{x y:α}{g:Nat->α}(h:i≠j):upd i x (upd j y g)=upd j y (upd i x g):=by
 funext k;unfold upd;grind
def vsUp (j v:Nat)(vs:Nat->Nat):Nat->Nat:=fun i=>if i=j then v else vs i
theorem ya_ {es:List (K × List α)}{hp:Hp}{j v:Nat}{p q:K × List α}(h:es[j]? =some p)(hj:j<4294967296):upd (fid B j) (some (.rw (q.2.map f) sz v false false)) (famH f sz B vs es hp)=famH f sz B (vsUp j v vs) (es.set j q) hp:=by
 have hlt:=(List.getElem?_eq_some_iff.1 h).1;funext i;by_cases e:i=fid B j
 ·subst e
  rw[xZ_ (p:=q) (by simp[hlt]) hj];simp[upd,vsUp]
 ·have h1:upd (fid B j) (some (AO.rw (q.2.map f) sz v false false)) (famH f sz B vs es hp) i=famH f sz B vs es hp i:=by simp[upd,e]
  rw[h1];unfold famH;cases hr:(Nat.ble B i&&Nat.blt i (B+4294967296)) with
  |false=>rfl
  |true=>
   simp only[Bool.and_eq_true,Nat.ble_eq,Nat.blt_eq] at hr;rw[qR_] at e;have hne:i-B≠j:=by omega
   simp[Ne.symm hne,vsUp,hne]
theorem hi_:∀(es:List (K × List α)) (o j v:Nat) (q:K × List α),j<es.length->(encG kv B vs o es).set j (kv q.1,.so (fid B (o+j)) v 0 q.2.length)=encG kv B (vsUp (o+j) v vs) o (es.set j q)
 |[],_,_,_,_,h=>by simp at h
 |p::r,o,0,v,q,_=>by
  have:∀(r:List (K × List α)) (o':Nat),o<o'->encG kv B vs o' r=encG kv B (vsUp o v vs) o' r:=by
   intro r;induction r with
   |nil=>intro _ _;rfl
   |cons p r ih=>intro o' h;simp[encG,ih (o'+1) (by omega),vsUp,show o'≠o by omega]
  simp[encG,vsUp,this r (o+1) (by omega)]
 |p::r,o,j+1,v,q,h=>by
  have ih:=hi_ r (o+1) j v q (by simpa using h);rw[show o+1+j=o+(j+1) by omega] at ih;simp[encG,ih,vsUp]
theorem yb_ {es:List (K × List α)}{j v:Nat}{q:K × List α}(h:j<es.length):(encF kv B vs es).set j (kv q.1,.so (fid B j) v 0 q.2.length)=encF kv B (vsUp j v vs) (es.set j q):=by
 have:=hi_ (kv:=kv) (B:=B) (vs:=vs) es 0 j v q h
 rw[Nat.zero_add] at this;exact this
variable [BEq K][LawfulBEq K]{q:Bool × List TK}
theorem y4_ (hk:KeyE q kv)(k:K):∀(es:List (K × List α)) (o:Nat),(mget k es=none/\jw_ q (kv k) (encG kv B vs o es)=some none/\∀ys,madd k ys es=es++[(k,ys)])\/
  ∃j xs,es[j]? =some (k,xs)/\mget k es=some xs/\jw_ q (kv k) (encG kv B vs o es)=some (some (j,.so (fid B (o+j)) (vs (o+j)) 0 xs.length))/\∀ys,madd k ys es=es.set j (k,xs++ys)
 |[],o=>.inl ⟨rfl,rfl,fun _=>rfl⟩
 |p::r,o=>by
  cases hb:(k==p.1) with
  |true=>
   have e:k=p.1:=by simpa using hb
   refine .inr ⟨0,p.2,by simp[e],by simp[mget,hb],?_,fun ys=>by simp[madd,hb]⟩;simp[encG,jw_,hk k p.1,hb]
  |false=>
   rcases y4_ hk k r (o+1) with⟨h1,h2,h3⟩ |⟨j,xs,h1,h2,h3,h4⟩
   ·refine .inl ⟨by simp[mget,hb,h1],?_,fun ys=>by simp[madd,hb,h3]⟩
    simp[encG,jw_,hk k p.1,hb,h2]
   ·refine .inr ⟨j+1,xs,by simpa using h1,by simp[mget,hb,h2],?_,fun ys=>by simp[madd,hb,h4]⟩
    rw[show o+1+j=o+(j+1) by omega] at h3;simp[encG,jw_,hk k p.1,hb,h3]
theorem v3_ (hk:KeyE q kv)(k:K)(es:List (K × List α)):(mget k es=none/\jw_ q (kv k) (encF kv B vs es)=some none/\∀ys,madd k ys es=es++[(k,ys)])\/
  ∃j xs,es[j]? =some (k,xs)/\mget k es=some xs/\jw_ q (kv k) (encF kv B vs es)=some (some (j,.so (fid B j) (vs j) 0 xs.length))/\∀ys,madd k ys es=es.set j (k,xs++ys):=by
 have:=y4_ (kv:=kv) (B:=B) (vs:=vs) hk k es 0
 simp only[Nat.zero_add] at this;exact this
end
section
variable {q:Bool × List TK}
theorem zA_ {es:List (Value × AV)}{x:Value}(h:jw_ q x es=some none)(z:AV)(ok:Bool):j6_ q x z ok es=some (if ok then .tu [z,.v (.bool false)] else z,[]):=by
 unfold j6_;rw[h]
theorem zB_ {es:List (Value × AV)}{x:Value}{j:Nat}{v:AV}(h:jw_ q x es=some (some (j,v)))(z:AV)(ok:Bool):j6_ q x z ok es=some (if ok then .tu [v,.v (.bool true)] else v,[]):=by
 unfold j6_;rw[h]
theorem zC_ {es:List (Value × AV)}{x:Value}(h:jw_ q x es=some none)(v:AV):mput q x v es=some (es++[(x,v)]):=by
 unfold mput;rw[h]
theorem zD_ {es:List (Value × AV)}{x:Value}{j:Nat}{w:AV}(h:jw_ q x es=some (some (j,w)))(v:AV):mput q x v es=some (es.set j (x,v)):=by
 unfold mput;rw[h]
theorem s0_ {es:List (Value × AV)}(a:Value × AV):(es++[a])[es.length]? =some a:=by simp
theorem nU_ {es:List (Value × AV)}(a b:Value × AV):(es++[a]).set es.length b=es++[b]:=by simp
theorem wX_ {es:List (Value × AV)}{j:Nat}{c:Value × AV}(h:es[j]? =some c)(a:Value × AV):(es.set j a)[j]? =some a:=by
 grind
end
section
variable {K α:Type}{kv:K->Value}{B:Nat}{vs:Nat->Nat}{f:α->List D}{sz:Nat}
def inR (rs:List Nat)(i:Nat):Bool:=rs.any fun B=>Nat.ble B i&&Nat.blt i (B+4294967296)
def lkF (n:Nat)(JR:Option (Nat × Nat))(rs:List Nat)(L:List (Nat × Nat))(i:Nat):Option Nat:=
 bif Nat.blt i n then some i else bif inR rs i then(match JR with |some (J,R)=>if i=J then some R else some i |none=>some i) else match L.find? (fun p=>Nat.beq p.1 i) with
  |some p=>some p.2
  |none=>none
def okF (n N R:Nat)(rs:List Nat)(L:List (Nat × Nat)):Bool:=
 Nat.ble n N&&okL n N L&&L.all (fun p=> !inR rs p.2&& !Nat.beq p.2 R)&&rs.all (fun B=>Nat.ble n B&&Nat.ble (B+4294967296) N)&&Nat.ble n R&& !inR rs R
theorem cx_ {rs:List Nat}{i:Nat}(h:inR rs i=true):∃B∈rs,B<=i/\i<B+4294967296:=by
 simp_all [inR,List.any_eq_true,Bool.and_eq_true,Nat.ble_eq,Nat.blt_eq]
theorem cy_ {n N nx R:Nat}{fr' fr:Fr}{hp' hp:Hp}(JR:Option (Nat × Nat))(hJ:∀J R',JR=some (J,R')->R'=R)(rs:List Nat)(L:List (Nat × Nat))(h1:okF n N R rs L=true)(h2:∀t,fr' t= .un\/renA (lkF n JR rs L) (fr' t)=some (fr t))
  (h3:∀i o,hp' i=some o->∃j o',lkF n JR rs L i=some j/\renO (lkF n JR rs L) o=some o'/\hp j=some o'):WeakR n ⟨fr',hp',N⟩ ⟨fr,hp,nx⟩:=by
 simp only[okF,Bool.and_eq_true,Nat.ble_eq,List.all_eq_true,Bool.not_eq_true'] at h1;obtain⟨⟨⟨⟨⟨h0,hL⟩,hL2⟩,hB⟩,hR⟩,hR2⟩:=h1;have old:∀i,i<n->lkF n JR rs L i=some i:=fun i hi=>by
  unfold lkF;rw[show Nat.blt i n=true by rw[Nat.blt_eq];exact hi];rfl
 have cases_:∀i j,n<=i->lkF n JR rs L i=some j->(inR rs i=true/\(j=i/\(∀J R',JR=some (J,R')->i≠J)\/∃J,JR=some (J,R)/\i=J/\j=R))\/(inR rs i=false/\(i,j)∈L):=fun i j hi h=>by
  unfold lkF at h;have e:Nat.blt i n=false:=by
   cases h2:Nat.blt i n with
   |false=>rfl
   |true=>rw[Nat.blt_eq] at h2;omega
  rw[e] at h;simp only[cond_false] at h;cases hr:inR rs i with
  |true=>
   grind
  |false=>
   rw[hr] at h;simp only[cond_false] at h;refine .inr ⟨rfl,?_⟩;split at h
   ·rename_i p hp
    obtain⟨e1,e2⟩:=hb_ hp;grind
   ·cases h
 have ge:∀i j,n<=i->lkF n JR rs L i=some j->n<=j:=fun i j hi h=>by
  rcases cases_ i j hi h with⟨_,⟨rfl,_⟩ |⟨J,_,_,rfl⟩⟩ |⟨_,h4⟩
  ·exact hi
  ·exact hR
  ·exact(vB_ hL _ h4).2.1
 refine .ren (lkF n JR rs L) ⟨old,fun i j hi h=>⟨ge i j hi h,?_⟩,fun i i' j e1 e2=> ?_,h2,h3,h0⟩
 ·rcases cases_ i j hi h with⟨hr,_⟩ |⟨_,h4⟩
  ·obtain⟨B,h5,h6,h7⟩:=cx_ hr
   grind
  ·exact(vB_ hL _ h4).2.2.1
 ·by_cases hi:i<n
  ·grind
  ·by_cases hi':i'<n
   ·grind
   ·have no:∀ {a b j:Nat},inR rs a=true->(j=a\/j=R)->(b,j)∈L->False:=fun{a b j} ha hj hb=>by
     have:=hL2 _ hb
     simp only at this;rcases hj with rfl |rfl
     ·rw[ha] at this;simp at this
     ·simp at this
    rcases cases_ i j (by omega) e1 with⟨hr,⟨rfl,n1⟩ |⟨J,q1,rfl,rfl⟩⟩ |⟨hr,h4⟩<;>rcases cases_ i' _ (by omega) e2 with⟨hr',⟨q3,n2⟩ |⟨J',q2,q4,q5⟩⟩ |⟨hr',h4'⟩
    ·exact q3
    ·subst q5;rw[hr] at hR2;cases hR2
    ·exact(no hr (.inl rfl) h4').elim
    ·subst q3;rw[hr'] at hR2;cases hR2
    ·grind
    ·exact(no hr (.inr rfl) h4').elim
    ·exact(no hr' (.inl q3) h4).elim
    ·grind
    ·exact(vB_ hL _ h4').2.2.2 _ h4 rfl
theorem g1_ {n B j:Nat}{JR:Option (Nat × Nat)}{rs:List Nat}{L:List (Nat × Nat)}(hn:Nat.ble n B=true)(hB:B∈rs)(hj:j<4294967296):lkF n JR rs L (fid B j)=match JR with |some (J,R)=>if fid B j=J then some R else some (fid B j) |none=>some (fid B j):=by
 grind [qR_,Nat.ble_eq,lkF,Nat.blt_eq,inR,List.any_eq_true]
theorem y5_ {α:Type}{g:Nat->α}{k c:Nat}{x y:α}(h:k≠c)(h2:g k=y):upd c x g k=y:=by
 unfold upd;rw[if_neg h];exact h2
theorem y6_ {es:List (K × List α)}{hp:Hp}{i:Nat}{y:Option AO}(h:i<B\/B+4294967296<=i)(h2:hp i=y):famH f sz B vs es hp i=y:=by rw[g0_ h];exact h2
theorem s1_ {n:Nat}{JR:Option (Nat × Nat)}{rs:List Nat}{L:List (Nat × Nat)}{es es':List (K × List α)}{hp hp0:Hp}(hn:Nat.ble n B=true)(hB:B∈rs)(hJ:∀J R,JR=some (J,R)->J<B\/B+4294967296<=J)(he:es'=es)
  (h:∀j p,es[j]? =some p->j<4294967296->hp (fid B j)=some (.rw (p.2.map f) sz (vs j) false false)) (hw:∀i o,hp0 i=some o->∃j o',lkF n JR rs L i=some j/\renO (lkF n JR rs L) o=some o'/\hp j=some o'):
  ∀i o,famH f sz B vs es' hp0 i=some o->∃j o',lkF n JR rs L i=some j/\renO (lkF n JR rs L) o=some o'/\hp j=some o':=fun i o hi=>by
 subst he;unfold famH at hi;cases hr:(Nat.ble B i&&Nat.blt i (B+4294967296)) with
 |false=>rw[hr] at hi;exact hw i o hi
 |true=>
  rw[hr] at hi;simp only[cond_true,Option.map_eq_some_iff] at hi;simp only[Bool.and_eq_true,Nat.ble_eq,Nat.blt_eq] at hr;obtain⟨p,h1,rfl⟩:=hi;have h2:=h (i-B) p h1 (by omega);have h3:=g1_ (JR:=JR) (L:=L) hn hB (show i-B<4294967296 by omega);rw[qR_] at h2;simp only[qR_] at h3;rw[show i-B+B=i by omega] at h2 h3;refine⟨i,_,?_,rfl,h2⟩;grind
theorem cz_ {n R:Nat}{rs:List Nat}{L:List (Nat × Nat)}{es es':List (K × List α)}{k:K}{ys:List α}{hp hp0:Hp}(hn:Nat.ble n B=true)(hB:B∈rs)(hl:es.length<4294967296)(he:es'=es++[(k,ys)])
  (h:∀j p,es[j]? =some p->j<4294967296->hp (fid B j)=some (.rw (p.2.map f) sz (vs j) false false)) (hR:hp R=some (.rw (ys.map f) sz 0 false false)) (hw:∀i o,hp0 i=some o->∃j o',lkF n (some (fid B es.length,R)) rs L i=some j/\renO (lkF n (some (fid B es.length,R)) rs L) o=some o'/\hp j=some o'):
  ∀i o,famH f sz B (vsUp es.length 0 vs) es' hp0 i=some o->∃j o',lkF n (some (fid B es.length,R)) rs L i=some j/\renO (lkF n (some (fid B es.length,R)) rs L) o=some o'/\hp j=some o':=fun i o hi=>by
 subst he;unfold famH at hi;cases hr:(Nat.ble B i&&Nat.blt i (B+4294967296)) with
 |false=>rw[hr] at hi;exact hw i o hi
 |true=>
  rw[hr] at hi;simp only[cond_true,Option.map_eq_some_iff] at hi;simp only[Bool.and_eq_true,Nat.ble_eq,Nat.blt_eq] at hr;obtain⟨p,h1,rfl⟩:=hi;have h3:=g1_ (JR:=some (fid B es.length,R)) (L:=L) hn hB (show i-B<4294967296 by omega);simp only[qR_] at h3;rw[show i-B+B=i by omega] at h3;by_cases e:i-B=es.length
  ·rw[if_pos (by omega)] at h3
   rw[e,List.getElem?_append_right (Nat.le_refl _),Nat.sub_self] at h1;cases h1;refine⟨R,_,by rw[<-qR_] at h3;exact h3,rfl,?_⟩;rw[hR];simp[vsUp,e]
  ·rw[if_neg (by omega)] at h3
   have hlt:i-B<es.length:=by
    have:=(List.getElem?_eq_some_iff.1 h1).1
    rw[List.length_append,List.length_singleton] at this;omega
   rw[List.getElem?_append_left hlt] at h1;have h2:=h (i-B) p h1 (by omega);rw[qR_,show i-B+B=i by omega] at h2;refine⟨i,_,by rw[<-qR_] at h3;exact h3,rfl,?_⟩;rw[h2];simp[vsUp,e]
theorem fm_ {n:Nat}{JR:Option (Nat × Nat)}{rs:List Nat}{L:List (Nat × Nat)}(hn:Nat.ble n B=true)(hB:B∈rs):∀(es:List (K × List α)) (o:Nat),(∀J R,JR=some (J,R)->J<o+B\/o+es.length+B<=J)->o+es.length<=4294967296->renM (lkF n JR rs L) (encG kv B vs o es)=some (encG kv B vs o es)
 |[],o,_,_=>rfl
 |p::r,o,hJ,hl=>by
  have ih:=fm_ hn hB (JR:=JR) (L:=L) r (o+1) (fun J R e=>by grind) (by grind);have h1:=g1_ (JR:=JR) (L:=L) hn hB (show o<4294967296 by grind);have h2:lkF n JR rs L (fid B o)=some (fid B o):=by
   rw[h1];cases JR with
   |none=>rfl
   |some q=>
    obtain⟨J,R⟩:=q
    have:=hJ J R rfl
    simp only[List.length_cons] at this;simp only;rw[if_neg (by rw[qR_];omega)]
  simp only[encG,renM,renA,h2,ih,Option.map_some]
theorem hj_ {n:Nat}{JR:Option (Nat × Nat)}{rs:List Nat}{L:List (Nat × Nat)}{es es':List (K × List α)}{dl:Bool}(hn:Nat.ble n B=true)(hB:B∈rs)(hJ:∀J R,JR=some (J,R)->J<B\/B+4294967296<=J)(hl:es.length<=4294967296)(he:es'=es):renO (lkF n JR rs L) (.mo (encF kv B vs es') dl)=some (.mo (encF kv B vs es) dl):=by
 grind [fm_,renO,encF]
theorem hk_:∀(es:List (K × List α)) (o v:Nat) (k:K) (ys:List α),encG kv B (vsUp (o+es.length) v vs) o (es++[(k,ys)])=encG kv B vs o es++[(kv k,.so (fid B (o+es.length)) v 0 ys.length)]
 |[],o,v,k,ys=>by simp[encG,vsUp]
 |p::r,o,v,k,ys=>by
  have ih:=hk_ r (o+1) v k ys;grind [List.length_cons,vsUp,encG]
theorem hl_ {ρ:Nat->Option Nat}:∀(a b a' b':List (Value × AV)),renM ρ a=some a'->renM ρ b=some b'->renM ρ (a++b)=some (a'++b')
 |[],b,a',b',h1,h2=>by cases h1;exact h2
 |(x,c)::r,b,a',b',h1,h2=>by
  unfold renM at h1;split at h1
  ·rename_i d ds e1 e2
   cases h1
   have:=hl_ r b ds b' e2 h2
   simp only[List.cons_append,renM,e1,this]
  ·cases h1
theorem nV_ {n R:Nat}{rs:List Nat}{L:List (Nat × Nat)}{es es':List (K × List α)}{k:K}{ys:List α}{dl:Bool}(hn:Nat.ble n B=true)(hB:B∈rs)(hl:es.length<4294967296)(he:es'=es++[(k,ys)]):renO (lkF n (some (fid B es.length,R)) rs L) (.mo (encF kv B (vsUp es.length 0 vs) es') dl)=some (.mo (encF kv B vs es++[(kv k,.so R 0 0 ys.length)]) dl):=by
 subst he;have h1:=fm_ (kv:=kv) (vs:=vs) (JR:=some (fid B es.length,R)) (L:=L) hn hB es 0 (fun J R e=>by simp only[Option.some.injEq,Prod.mk.injEq,qR_] at e;omega) (by omega);have h2:=hk_ (kv:=kv) (B:=B) (vs:=vs) es 0 0 k ys;rw[Nat.zero_add] at h2
 have h3:lkF n (some (fid B es.length,R)) rs L (fid B es.length)=some R:=(g1_ (JR:=some (fid B es.length,R)) (L:=L) hn hB hl).trans (if_pos rfl);have h4:renM (lkF n (some (fid B es.length,R)) rs L) [(kv k,AV.so (fid B es.length) 0 0 ys.length)]=some [(kv k,AV.so R 0 0 ys.length)]:=by simp only[renM,renA,h3,Option.map_some]
 simp only[renO,encF,h2,hl_ _ _ _ _ h1 h4,Option.map_some]
end
section
variable {P:Program}{tab:Nat->TI}{ops:Array Oper}{nx0 nx i:Nat}{k:List It}{Q:Ex->St->Prop}{r:List Oper}{s:St}{dst:Option Nat}{acc:List Rec}{fr:Fr}{hp:Hp}
@[go_sem] theorem rb_ (A:TypeId)(x y:Operand):xE_ P tab ops nx0 nx k Q i r dst acc fr hp (.mapEntry A x y)=jk_ P tab ops nx0 nx k Q (i+1) r dst acc (qG_ (ev fr) (.mapEntry A x y)) fr hp (ql_ tab (ev fr) hp (nx0+i) (.mapEntry A x y)):=rfl
@[go_sem] theorem mB_ (A:TypeId)(x y z:Operand):xE_ P tab ops nx0 nx k Q i r dst acc fr hp (.entryStore A x y z)=jk_ P tab ops nx0 nx k Q (i+1) r dst acc (qG_ (ev fr) (.entryStore A x y z)) fr hp (ql_ tab (ev fr) hp (nx0+i) (.entryStore A x y z)):=rfl
end
section
variable (ρ:Operand->AV)
@[go_sem] theorem idsOp_ent (T:TypeId)(x y:Operand):qG_ ρ (.mapEntry T x y)=idsA (ρ x)++idsA (ρ y):=by simp[qG_,vq_,Op.operands,idsL]
@[go_sem] theorem idsOp_sto (T:TypeId)(x y z:Operand):qG_ ρ (.entryStore T x y z)=idsA (ρ x)++(idsA (ρ y)++idsA (ρ z)):=by simp[qG_,vq_,Op.operands,idsL]
@[go_sem] theorem idsOp_mu (T:TypeId)(x y z:Operand):qG_ ρ (.mapUpdate T x y z)=idsA (ρ x)++(idsA (ρ y)++idsA (ρ z)):=by simp[qG_,vq_,Op.operands,idsL]
end
def entL (q:Bool × List TK)(kv:Value)(z:AV)(i:Nat)(es:List (Value × AV)):Option (AV × List (Nat × AO)):=
 match jw_ q kv es with
 |some none=>some (.tu [z,.v (.int .i64 es.length)],[(i,.mo (es++[(kv,z)]) false)])
 |some (some (j,v))=>some (.tu [v,.v (.int .i64 j)],[(i,.mo (es.set j (kv,v)) false)])
 |none=>none
def entO (q:Option (Bool × List TK))(kv:Option Value)(z:Option AV)(m:AV)(hp:Hp):Option (AV × List (Nat × AO)):=
 match q,kv,z with
 |some q,some kv,some z=>if xQ_ q kv then match m with
  | .mo i=>match hp i with
   |some (.mo es false)=>entL q kv z i es
   |_=>none
  |_=>none else none
 |_,_,_=>none
@[go_sem ↓ high] theorem az_ {tab:Nat->TI}(ρ:Operand->AV)(hp:Hp)(id T:Nat)(m k:Operand):ql_ tab ρ hp id (.mapEntry T m k)=entO (tab T).mkey (keyA (ρ k)) (wk_ (tab (tab T).elem)) (ρ m) hp:=rfl
@[go_sem] theorem entO_mo (q:Bool × List TK)(kv:Value)(z:AV)(i:Nat)(hp:Hp):entO (some q) (some kv) (some z) (.mo i) hp=if xQ_ q kv then(match hp i with
  |some (.mo es false)=>entL q kv z i es
  |_=>none) else none:=rfl
theorem vg_ {q:Bool × List TK}{es:List (Value × AV)}{x:Value}(h:jw_ q x es=some none)(z:AV)(i:Nat):entL q x z i es=some (.tu [z,.v (.int .i64 es.length)],[(i,.mo (es++[(x,z)]) false)]):=by
 unfold entL;rw[h]
theorem vh_ {q:Bool × List TK}{es:List (Value × AV)}{x:Value}{j:Nat}{v:AV}(h:jw_ q x es=some (some (j,v)))(z:AV)(i:Nat):entL q x z i es=some (.tu [v,.v (.int .i64 j)],[(i,.mo (es.set j (x,v)) false)]):=by
 unfold entL;rw[h]
def stoO (m:AV)(j:Option Nat)(x:AV)(hp:Hp):Option (AV × List (Nat × AO)):=
 match m,j with
 | .mo i,some j=>if isV1 x then match hp i with
  |some (.mo es false)=>match es[j]? with
   |some (k,_)=>some (.un,[(i,.mo (es.set j (k,x)) false)])
   |none=>none
  |_=>none else none
 |_,_=>none
@[go_sem ↓ high] theorem aA_ {tab:Nat->TI}(ρ:Operand->AV)(hp:Hp)(id T:Nat)(m st x:Operand):ql_ tab ρ hp id (.entryStore T m st x)=stoO (ρ m) (qT_ (ρ st)) (ρ x) hp:=rfl
@[go_sem] theorem stoO_mo (i j:Nat)(x:AV)(hp:Hp):stoO (.mo i) (some j) x hp=if isV1 x then(match hp i with
  |some (.mo es false)=>match es[j]? with
   |some (k,_)=>some (.un,[(i,.mo (es.set j (k,x)) false)])
   |none=>none
  |_=>none) else none:=rfl
def sw (J R i:Nat):Nat:=if i=J then R else i
def g2_ (J R:Nat)(a:Rec):Rec:=⟨a.ids.map (sw J R),a.ks.map (sw J R),a.g⟩
section
variable {J R:Nat}
theorem sw_inj {i k:Nat}(hi:i≠R)(hk:k≠R)(h:sw J R i=sw J R k):i=k:=by
 unfold sw at h;grind
theorem nW_ {xs ys:List Nat}(hx:R∉xs)(hy:R∉ys):meet (xs.map (sw J R)) (ys.map (sw J R))=meet xs ys:=by
 unfold meet;rw[Bool.eq_iff_iff];simp only[List.any_eq_true,List.mem_map,List.contains_iff_mem];constructor
 ·rintro⟨_,⟨i,hi,rfl⟩,⟨k,hk,e⟩⟩
  have:k=i:=sw_inj (J:=J) (R:=R) (by rintro rfl;exact hy hk) (by rintro rfl;exact hx hi) e
  subst this;exact⟨k,hi,hk⟩
 grind
theorem cA_ {xs:List Nat}(hJ:J≠sent)(hR:R≠sent):(xs.map (sw J R)).contains sent=xs.contains sent:=by
 rw[Bool.eq_iff_iff];simp only[List.contains_iff_mem,List.mem_map];constructor
 ·rintro⟨i,hi,e⟩
  unfold sw at e;grind
 ·intro h
  exact⟨sent,h,by unfold sw;rw[if_neg (Ne.symm hJ)]⟩
theorem r6_ {a b:Rec}(ha:R∉a.ids++a.ks)(hb:R∉b.ids++b.ks)(hJ:J≠sent)(hR:R≠sent):zj_ (g2_ J R a) (g2_ J R b)=zj_ a b:=by
 simp only[List.mem_append,not_or] at ha hb;have e1:meet (a.ks.map (sw J R)) (b.ids.map (sw J R)++b.ks.map (sw J R))=meet a.ks (b.ids++b.ks):=by
  rw[<-List.map_append];exact nW_ ha.2 (by simp[hb.1,hb.2])
 have e2:=nW_ (J:=J) hb.2 ha.1;simp only[zj_,zZ_,wild,g2_,e1,e2,cA_ hJ hR,List.isEmpty_map]
theorem r7_ {ops:Array Oper}{rs:List Rec}(h:wq_ ops (rs.map (g2_ J R))=true)(hr:∀a∈rs,R∉a.ids++a.ks)(hJ:J≠sent)(hR:R≠sent):wq_ ops rs=true:=by
 simp only[wq_,ko_,Bool.and_eq_true,List.all_eq_true] at h⊢;grind [r6_,List.mem_of_getElem?]
theorem g3_ {P:Program}{tab:Nat->TI}{ops:Array Oper}{nx0 nx i:Nat}{k:List It}{Q:Ex->St->Prop}{acc:List Rec}{fr:Fr}{hp:Hp}(J R:Nat)(hJ:J≠sent)(hR:R≠sent)(hr:∀a∈acc,R∉a.ids++a.ks)(h1:yM_ ops (acc.reverse.map (g2_ J R))=true)(h2:run P tab k Q ⟨fr,hp,nx⟩):Rd P tab ops nx0 nx k Q i [] acc fr hp:=
 ⟨r7_ (wM_ h1) (fun a ha=>hr a (by simpa using ha)) hJ hR,h2⟩
end
def qi_ {K V:Type}(kv:K->Value)(ag:Bool)(enc:V->List D)(m:List (K × V)):List (Value × Bool × List D):=m.map fun p=>(kv p.1,ag,enc p.2)
theorem valX_t (b:Bool)(cs:List D):valX b (true,cs)= .d (.ag cs) b:=rfl
theorem valX_f (b:Bool)(c:D):valX b (false,[c])=lift b c:=rfl
theorem nX_:kg_ (.slice none 0 0)= .sl []:=rfl
theorem nY_ (k:IntKind)(n:Int):kg_ (.int k n)= .v (.int k n):=rfl
theorem nZ_ (x:ByteArray):kg_ (.string x)= .v (.string x):=rfl
theorem mc_ (x:Bool):kg_ (.bool x)= .v (.bool x):=rfl
theorem n0_ (x:Option Addr):kg_ (.pointer x)= .v (.pointer x):=rfl
theorem n1_ (x:Option Nat):kg_ (.map x)= .v (.map x):=rfl
@[go_sem] theorem s2_ {α:Type}(a:α)(l b:List α):List.append (a::l) b=a::List.append l b:=rfl
@[go_sem] theorem cB_ {α:Type}(b:List α):List.append [] b=b:=rfl
@[go_sem] theorem lift_mp (b:Bool)(m:List (Value × Bool × List D)):lift b (.mp m)= .d (.mp m) b:=rfl
attribute [go_sem] uK_ valX_t valX_f nX_ nY_ nZ_ mc_ n0_ n1_
section
variable {K V:Type}[BEq K]{q:Bool × List TK}{kv:K->Value}{ag b:Bool}{enc:V->List D}
theorem lookD (hk:KeyE q kv)(k:K)(z:V)(ok:Bool)(m:List (K × V)):j6_ q (kv k) (valX b (ag,enc z)) ok (xt_ b (qi_ kv ag enc m))=some (if ok then .tu [valX b (ag,enc (qk_ k z m)),.v (.bool (mhas k m))] else valX b (ag,enc (qk_ k z m)),[]):=by
 have e:xt_ b (qi_ kv ag enc m)=encM kv (fun v=>valX b (ag,enc v)) m:=by simp[xt_,qi_,encM]
 rw[e];exact z2_ (ev:=fun v=>valX b (ag,enc v)) hk k z ok m
theorem y7_ (hk:KeyE q kv)(k:K)(z:V)(m:List (K × V))(x:AV)(h:mhas k m=true):j6_ q (kv k) x false (xt_ b (qi_ kv ag enc m))=some (valX b (ag,enc (qk_ k z m)),[]):=by
 have e:xt_ b (qi_ kv ag enc m)=encM kv (fun v=>valX b (ag,enc v)) m:=by simp[xt_,qi_,encM]
 rw[e];obtain⟨o,h1,h2,h3⟩:=xS_ (ev:=fun v=>valX b (ag,enc v)) hk k m;unfold j6_;rw[h1];cases hm:mget k m with
 |none=>simp[mhas,hm] at h
 |some w=>
  obtain⟨i,e1,e2⟩:=h2 w hm;subst e1;simp[qk_,hm]
theorem y8_ (hk:KeyE q kv)(k:K)(m:List (K × V))(x:AV)(h:mhas k m=false):j6_ q (kv k) x false (xt_ b (qi_ kv ag enc m))=some (x,[]):=by
 have e:xt_ b (qi_ kv ag enc m)=encM kv (fun v=>valX b (ag,enc v)) m:=by simp[xt_,qi_,encM]
 rw[e];obtain⟨o,h1,h2,h3⟩:=xS_ (ev:=fun v=>valX b (ag,enc v)) hk k m;simp_all [j6_,mhas]
end
section
variable {K α V:Type}{kv:K->Value}{B:Nat}{vs:Nat->Nat}{f:α->List D}{sz:Nat}
theorem ToX.fam {hp:Hp}{b dl:Bool}{m:Nat}{es:List (K × List α)}(h:hp m=some (.mo (encF kv B vs es) dl))(hl:es.length<=4294967296)(hr:∀j p,es[j]? =some p->j<4294967296->hp (fid B j)=some (.rw (p.2.map f) sz (vs j) false false)):ToX hp b (.mo m) (.mp (qi_ kv false (eL f) es)):=by
 have at_:∀ {j:Nat} {k:Value} {v:AV},(encF kv B vs es)[j]? =some (k,v)->∃p,es[j]? =some p/\k=kv p.1/\v= .so (fid B j) (vs j) 0 p.2.length:=fun{j k v} h=>by
  grind [y3_,Option.map_eq_some_iff,Prod.mk.injEq]
 have at2:∀ {j:Nat} {k:Value} {ag:Bool} {ds:List D} {p:K × List α},es[j]? =some p->(qi_ kv false (eL f) es)[j]? =some (k,ag,ds)->k=kv p.1/\ag=false/\ds= [D.sl (p.2.map f)]:=fun{j k ag ds p} h1 h2=>by
  grind [qi_,Option.some.injEq,Prod.mk.injEq]
 refine .mo h (by simp[qi_,r4_]) (fun j k v k' ag ds h1 h2=> ?_) fun j k v k' ag ds i x d h1 h2 h3 h4=> ?_
 ·obtain⟨p,e1,rfl,rfl⟩:=at_ h1
  obtain⟨rfl,rfl,rfl⟩:=at2 e1 h2;exact⟨rfl,rfl,rfl,fun _=>rfl⟩
 ·obtain⟨p,e1,rfl,rfl⟩:=at_ h1
  obtain⟨rfl,rfl,rfl⟩:=at2 e1 h2;have hlt:=(List.getElem?_eq_some_iff.1 e1).1;have h5:=hr j p e1 (by omega);cases i with
  |zero=>
   simp only[zm_,List.getElem?_cons_zero,Option.some.injEq] at h3 h4;subst h3;subst h4;refine .one (b':=false) (is:=[fid B j]) ?_ (by simp);simp only[toD1,h5,if_true,List.drop_zero];rw[List.take_of_length_le (by simp)]
  |succ i=>simp[zm_] at h3
theorem s3_ {hp:Hp}{b dl:Bool}{m:Nat}{ev:V->AV}{enc:V->List D}{es:List (K × V)}(h:hp m=some (.mo (encM kv ev es) dl))(he:∀v,∃x,ev v= .v x/\enc v= [.v x]/\toD1 hp (.v x)=some (.v x,false,[])):ToX hp b (.mo m) (.mp (qi_ kv false enc es)):=by
 have at_:∀ {j:Nat} {k:Value} {v:AV},(encM kv ev es)[j]? =some (k,v)->∃p,es[j]? =some p/\k=kv p.1/\v=ev p.2:=fun{j k v} h=>by
  grind [encM,Option.map_eq_some_iff,Prod.mk.injEq]
 have at2:∀ {j:Nat} {k:Value} {ag:Bool} {ds:List D} {p:K × V},es[j]? =some p->(qi_ kv false enc es)[j]? =some (k,ag,ds)->k=kv p.1/\ag=false/\ds=enc p.2:=fun{j k ag ds p} h1 h2=>by
  grind [qi_,Option.some.injEq,Prod.mk.injEq]
 refine .mo h (by simp[qi_,encM]) (fun j k v k' ag ds h1 h2=> ?_) fun j k v k' ag ds i x d h1 h2 h3 h4=> ?_
 ·obtain⟨p,e1,rfl,rfl⟩:=at_ h1
  obtain⟨rfl,rfl,rfl⟩:=at2 e1 h2;obtain⟨x,q1,q2,_⟩:=he p.2;rw[q1,q2];exact⟨rfl,rfl,rfl,fun _=>rfl⟩
 ·obtain⟨p,e1,rfl,rfl⟩:=at_ h1
  obtain⟨rfl,rfl,rfl⟩:=at2 e1 h2;obtain⟨y,q1,q2,q3⟩:=he p.2;rw[q1] at h3;rw[q2] at h4;cases i with
  |zero=>
   simp only[zm_,List.getElem?_cons_zero,Option.some.injEq] at h3 h4;subst h3;subst h4;exact .one q3 (by simp)
  |succ i=>simp[zm_] at h3
end
end
end Go.Proofs.YtnmkbmefohakmaaGreat.Ab
