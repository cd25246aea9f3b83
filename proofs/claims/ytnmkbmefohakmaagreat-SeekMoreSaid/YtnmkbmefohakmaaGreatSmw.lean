/-
 SeekMore's beginning, walked by hand: the bytes of a schema that is made, each minus turned to a plus.
-/
import Derived.Test.YtnmkbmefohakmaaGreatSme
import Derived.Deep.LoopGhost
import Derived.Deep.OwnRows
import Derived.Deep.DeepCutAuto
import Derived.WalkSpells
import Derived.WalkLawsBesides
import Derived.StillTailTactics
import Derived.Lib.Hide
import Derived.Lib.ConvBytes
import Derived.Lib.SmallJoins
import Derived.Shelf.Abstract
set_option linter.all false
namespace Go.Proofs.YtnmkbmefohakmaaGreat.Ab
open Go.Shelf Go.RowKit
theorem mK:∀(L:List UInt8) (i:Nat),(DI L)[i]? =(L[i]?).map fun a=>if a==45&&L[i+1]? ==some 32 then 43 else a
 |[],i=>by simp[DI]
 |a::r,0=>by
  show some (if a==45&&r.head? ==some 32 then(43:UInt8) else a)=some (if a==45&&r[0]? ==some 32 then 43 else a)
  rw[List.head?_eq_getElem?]
 |a::r,i+1=>by
  show(DI r)[i]? =_;rw[mK r i];rfl
def HL (L:List UInt8)(i:Nat):List UInt8:=(DI L).take i++L.drop i
theorem YH (L:List UInt8)(i:Nat)(hi:i<=L.length):(HL L i).length=L.length:=by
 unfold HL;rw[Lf,Lw,Nv,KG];omega
theorem Vf (L:List UInt8){i j:Nat}(hij:i<=j)(hi:i<=L.length):(HL L i)[j]? =L[j]? :=by
 unfold HL;rw[L8 (by rw[Lw,KG];omega),Lw,KG,NQ];congr 1
 omega
theorem Vg (L:List UInt8):HL L 0=L:=by simp[HL]
theorem vV (L:List UInt8):HL L L.length=DI L:=by
 unfold HL;rw[NX,LY,<-KG L,Bx]
theorem mL (L:List UInt8){i:Nat}(hi:i<L.length):(HL L i).set i ((if L[i]==45&&L[i+1]? ==some 32 then(43:UInt8) else L[i]))=HL L (i+1):=by
 apply Bc;intro j;have hl:=YH L i (by omega);by_cases e:j=i
 ·subst e
  rw[List.getElem?_set_self (by omega)];unfold HL;rw[Nq (by rw[Lw,KG];omega),B8 (by omega),mK,Ld hi];rfl
 ·rw[BO (fun h=>e h.symm)]
  rcases Nf j i with h |h
  ·unfold HL
   rw[Nq (by rw[Lw,KG];omega),Nq (by rw[Lw,KG];omega),B8 h,B8 (by omega)]
  ·rw[Vf L h (by omega),Vf L (by omega) (by omega)]
structure Kj (w wx:World) (b:Nat) (l:List UInt8):Prop where
 below:Below w.heap.size w wx
 hb:w.heap.size<=b
 dr:w.drawn<=wx.drawn
 row:∃cells T z,wx.heap[b]? =some (.cells cells T z)/\l.length<=z.1/\∀(j:Nat) (x:UInt8),l[j]? =some x->cells[j]? =some (.int .u8 (x.toNat:Nat))
theorem Kj.cell {w wx:World}{b:Nat}{l:List UInt8}(h:Kj w wx b l){j:Nat}{x:UInt8}(hj:l[j]? =some x):wx.cell? ⟨b,j,none⟩=some (.int .u8 (x.toNat:Nat)):=by
 obtain⟨cells,T,z,h1,h2,h3⟩:=h.row;rw[Go.Joins.cell_of_block h1];exact h3 j x hj
theorem Kj.froz {w wx:World}{b:Nat}{l:List UInt8}(h:Kj w wx b l){j:Nat}(hj:j<l.length):wx.frozen? ⟨b,j,none⟩=false:=by
 obtain⟨cells,T,z,h1,h2,h3⟩:=h.row;simp[World.frozen?,h1];omega
theorem Kj.set {w wx:World}{b:Nat}{l:List UInt8}(h:Kj w wx b l){i:Nat}(hi:i<l.length)(x:UInt8):Kj w (wx.setCell ⟨b,i,none⟩ (.int .u8 (x.toNat:Nat))) b (l.set i x):=by
 obtain⟨cells,T,z,h1,h2,h3⟩:=h.row;refine⟨h.below.setCell (p:=⟨b,i,none⟩) h.hb _,h.hb,by simpa using h.dr,_,T,z,Go.Joins.block_setCell h1 _,by rw[Bb];exact h2,fun j y hj=> ?_⟩;have hs:i<cells.size:=by
  have:=h3 i l[i] (Ld hi)
  exact(LN.1 this).1
 rw[Bd] at hj;split at hj
 ·rename_i e
  subst e;cases hj;simp[hs]
 ·rename_i e
  have:=h3 j y hj
  simp[Array.getElem?_setIfInBounds,e,this]
theorem vX {w w1:World}{T:TypeId}(s:ByteArray)(hb:Below w.heap.size w w1)(hd:w.drawn<=w1.drawn):Kj w (Lib.bytesWorld w1 T s) w1.heap.size s.data.toList:=by
 refine⟨hb.trans ⟨rfl,rfl,rfl,by rw[Lib.bytesWorld_size];omega,fun k hk=>Lib.bytesWorld_at_old w1 T s k (Lz hk hb.size)⟩,hb.size,Lp hd (Bj _),_,T,_,Lib.bytesWorld_at_new w1 T s,?_,fun j x hj=> ?_⟩
 ·simp[Lib.bytesCells]
 ·have hlt:=(Lb.1 hj).1
  unfold Lib.bytesCells;rw[NB (by simpa using hlt),BD]
  have:s.data[j]? =some x:=by simpa using hj
  rw[this];rfl
theorem cV {L:List UInt8}{i:Nat}{x:UInt8}(hi:L[i]? =some x)(h:(x==45&&L[i+1]? ==some 32)=false):HL L (i+1)=HL L i:=by
 obtain⟨hlt,e⟩:=Lb.1 hi;subst e;rw[<-mL L hlt,h,if_neg (by decide)];apply Bc;intro j;rw[Bd];split
 ·rename_i e
  subst e;rw[if_pos (by rw[YH L _ (by omega)];exact hlt),Vf L (Lc _) (by omega),Ld hlt]
 ·rfl
set_option maxRecDepth 100000 in
set_option maxHeartbeats 2000000 in
theorem vY {K:Exit->Act->World->Prop}{A B C rest:Code}(hcode:Tryz.f4.body=some (.seq A (.seq B (.seq C rest))))(w:World)(v0 v1 v2:Value)(t3:Int)(s:ByteArray)(hsz:s.size<1000000)(hmade:Calls Tryz.prog 9 #[v0] w fun e w'=>e= .returned (.string s)/\Below w.heap.size w w'/\w.drawn<=w'.drawn)
  (hK:∀(a:Act) (w':World) (b cap:Nat),Kj w w' b (DI s.data.toList)->s.size<=cap->a.tmps.size=131->a.defers= []->a.tmps.getD 0 undef=v0->a.tmps.getD 1 undef=v1->a.tmps.getD 2 undef=v2->a.tmps.getD 3 undef= .int .i64 t3->a.tmps.getD 8 undef= .bool false->a.tmps.getD 9 undef= .slice (some ⟨b,0,none⟩) s.size cap->rest.wp Tryz.prog K a w'):
  (Code.seq A (.seq B (.seq C rest))).wp Tryz.prog K { tmps:= #[v0,v1,v2,.int .i64 t3]++Array.replicate (131-4) undef,defers:=[] } w:=by
 have hu42:Tryz.prog.underlying 42=some (.slice 5):=by kernel_rfl
 have hu5:Tryz.prog.underlying 5=some (.int .u8):=by kernel_rfl
 have hu9:Tryz.prog.underlying 9=some .string:=by kernel_rfl
 have hc:=LI hcode;injection hc with e1 e2;injection e2 with e3 e4;injection e4 with e5 e6;subst e1 e3 e5;clear e6 hcode;simp only[Nat.reduceSub,Array.replicate_succ,Array.replicate_zero,List.push_toArray,List.append_toArray,LE,LJ];have kc:=fun(w:World) (s:ByteArray)=>Lib.run_convert_string_bytes (P:=Tryz.prog) w 9 42 5 s hu9 hu42 hu5
 clear hu42 hu5 hu9;have hK:=Lib.hid hK;go_upto_region 1 with(fail)
 go_wp2_with (go_at_fn 9)
 refine Calls.mono hmade ?_;rintro e w1 ⟨rfl,h1,h2⟩;go_upto_region 2 with(fail)
 obtain⟨L,hL⟩:∃L,L=s.data.toList:=⟨_,rfl⟩;have hn:L.length=s.size:=by rw[hL];exact Nr
 have hT:=Lib.hid (vX (T:=5) s h1 h2);rw[<-hL] at hT hK;obtain⟨b,hb⟩:∃b,b=w1.heap.size:=⟨_,rfl⟩;obtain⟨cap,hcap⟩:∃c,c=grownCap w1 s.size 0 5:=⟨_,rfl⟩;have hcl:=Lib.hid (show s.size<=cap by rw[hcap];have:=grownCap_ge w1 s.size 0 5;omega);obtain⟨w2,hw2⟩:∃x,x=Lib.bytesWorld w1 5 s:=⟨_,rfl⟩;rw[<-hb,<-hcap,<-hw2];rw[<-hb,<-hw2] at hT
 clear hb hcap hw2 h1 h2 kc hmade w1;obtain⟨N,hN⟩:∃N,N=s.size:=⟨_,rfl⟩;rw[<-hN];rw[<-hN] at hn hsz hK hcl;clear hN hL;go_wp2
 go_loopg [10] N (fun gh s10 wr=>∃i:Nat,i<=N/\N-i<=gh/\s10= .int .i64 i/\RowKit.Hid (Kj w wr b (HL L i)))
 case atStart=>exact⟨0,Ll _,Lc _,rfl,Lib.hid (by rw[Vg];exact hT.out)⟩
 case round=>
  clear hT;obtain⟨i,hi,hg,rfl,hT⟩:=hrel;by_cases hlt:i<N
  ·have s7:(i:Int)<N:=by omega
   obtain⟨x,hx⟩:∃x,RowKit.Hid (L[i]? =some x):=⟨_,Lib.hid (Ld (by omega))⟩;have g1:wr.cell? ⟨b,i,none⟩=some (.int .u8 (x.toNat:Nat)):=hT.out.cell (by rw[Vf L (Lc _) (by omega)];exact hx.out);have g2:wr.frozen? ⟨b,i,none⟩=false:=hT.out.froz (by rw[YH L i (by omega)];omega);by_cases hx45:x=45
   ·subst hx45
    have g3:(((45:UInt8).toNat:Int)==45)=true:=rfl;by_cases hlt2:i+1<N
    ·have s8:(i:Int)+1<N:=by omega
     obtain⟨y,hy⟩:∃y,RowKit.Hid (L[i+1]? =some y):=⟨_,Lib.hid (Ld (by omega))⟩;have g4:wr.cell? ⟨b,i+1,none⟩=some (.int .u8 (y.toNat:Nat)):=hT.out.cell (by rw[Vf L (by omega) (by omega)];exact hy.out);by_cases hy32:y=32
     ·subst hy32
      go_wp2
      go_roundg (N-(i+1))
      case measure=>omega
      case rel=>
       refine⟨i+1,by omega,Lc _,by go_num,Lib.hid ?_⟩;have h:=hT.out.set (i:=i) (by rw[YH L i (by omega)];omega) 43;have e:=mL L (i:=i) (by omega);have e0:L[i]=45:=by have:=hx.out;rw[Ld (by omega)] at this;exact LI this
       rw[e0,hy.out,if_pos (by decide)] at e;rw[e] at h;exact h
     ·have g5:((y.toNat:Int)==32)=false:=by
       rw[beq_eq_false_iff_ne];intro h;exact hy32 (BE.1 (by show y.toNat=32;omega))
      go_wp2
      go_roundg (N-(i+1))
      case measure=>omega
      case rel=>
       refine⟨i+1,by omega,Lc _,by go_num,Lib.hid ?_⟩;rw[cV hx.out (by rw[hy.out];simpa using hy32)];exact hT.out
    ·have s8:¬(i:Int)+1<N:=by omega
     go_wp2
     go_roundg (N-(i+1))
     case measure=>omega
     case rel=>
      refine⟨i+1,by omega,Lc _,by go_num,Lib.hid ?_⟩;rw[cV hx.out (by rw[LX (by omega)];rfl)];exact hT.out
   ·have g3:((x.toNat:Int)==45)=false:=by
     rw[beq_eq_false_iff_ne];intro h;exact hx45 (BE.1 (by show x.toNat=45;omega))
    go_wp2
    go_roundg (N-(i+1))
    case measure=>omega
    case rel=>
     refine⟨i+1,by omega,Lc _,by go_num,Lib.hid ?_⟩;rw[cV hx.out (by rw[show(x==45)=false by simpa using hx45];rfl)];exact hT.out
  ·obtain rfl:N=i:=by omega
   have s7:¬(N:Int)<N:=by omega
   go_wp2
   have hT:=hT.out;rw[<-hn,vV] at hT;exact hK.out _ _ b cap hT hcl.out rfl rfl rfl rfl rfl rfl rfl rfl
end Go.Proofs.YtnmkbmefohakmaaGreat.Ab
