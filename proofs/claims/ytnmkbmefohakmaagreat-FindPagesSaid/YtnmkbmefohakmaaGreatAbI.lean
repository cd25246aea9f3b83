/-
 Loops over what stands.
-/
import Derived.Test.YtnmkbmefohakmaaGreatAbH
namespace Go.Proofs.YtnmkbmefohakmaaGreat.Ab
section
open Go.RowKit
def j8_:List (Nat × Nat)->Fr->Fr
 |[],fr=>fr
 |p::r,fr=>fun t=>if p.1<=t/\t<=p.2 then .un else j8_ r fr t
def inSp:List (Nat × Nat)->Nat->Bool
 |[],_=>false
 |p::r,t=>(Nat.ble p.1 t&&Nat.ble t p.2)||inSp r t
theorem b1_:∀ {D:List (Nat × Nat)} {fr:Fr} {t:Nat},inSp D t=true->j8_ D fr t= .un
 |[],_,_,h=>by cases h
 |p::r,fr,t,h=>by
  simp only[inSp,Bool.or_eq_true,Bool.and_eq_true,Nat.ble_eq] at h;simp only[j8_];split
  ·rfl
  ·rename_i hn
   rcases h with h |h
   ·exact absurd h hn
   ·exact b1_ h
theorem b2_:∀(D:List (Nat × Nat)) (fr:Fr) (t:Nat),j8_ D fr t= .un\/j8_ D fr t=fr t
 |[],_,_=>.inr rfl
 |p::r,fr,t=>by
  simp only[j8_];split
  ·exact .inl rfl
  ·exact b2_ r fr t
theorem yW_ (p:Nat × Nat)(r:List (Nat × Nat))(fr:Fr)(t:Nat):j8_ (p::r) fr t=if p.1<=t/\t<=p.2 then .un else j8_ r fr t:=rfl
theorem h2_ (fr:Fr):j8_ [] fr=fr:=rfl
theorem cd_ (D:List (Nat × Nat))(fr:Fr):∀t,j8_ D fr t= .un\/j8_ D fr t=fr t:=b2_ D fr
theorem ce_ (D:List (Nat × Nat))(fr:Fr):∀t,j8_ D fr t= .un\/j8_ D fr t=j8_ D fr t:=fun _=>.inr rfl
theorem cf_ {D:List (Nat × Nat)}{fr f:Fr}{k:Nat}{v:AV}(hk:inSp D k=true)(h:∀t,j8_ D fr t= .un\/j8_ D fr t=f t):∀t,j8_ D fr t= .un\/j8_ D fr t=upd k v f t:=fun t=>by
 unfold upd;split
 ·rename_i e;subst e;exact .inl (b1_ hk)
 ·exact h t
def cutH (N:Nat):List Nat->Hp->Hp
 |[],hp=>fun t=>if N<=t then none else hp t
 |k::M,hp=>fun t=>if t=k then none else cutH N M hp t
theorem rR_ (N:Nat)(hp:Hp)(t:Nat):cutH N [] hp t=if N<=t then none else hp t:=rfl
theorem ny_ (N k:Nat)(M:List Nat)(hp:Hp)(t:Nat):cutH N (k::M) hp t=if t=k then none else cutH N M hp t:=rfl
section
variable {P:Program}{tab:Nat->TI}{k:List It}{Q:Ex->St->Prop}{a:Code}
theorem nz_ {α:Type}{fr:Fr}{hp:Hp}{nx:Nat}(D:List (Nat × Nat))(f:α->Fr->Fr)(m:α->Nat)(μ:α->Nat)(x0:α)
  (h0:Weak ⟨f x0 (j8_ D fr),hp,nx+m x0⟩ ⟨fr,hp,nx⟩)
  (step:∀x,run P tab [.c a,.lp fun s'=>∃x',Weak ⟨f x' (j8_ D fr),hp,nx+m x'⟩ s'/\μ x'<μ x] (cont P tab k Q) ⟨f x (j8_ D fr),hp,nx+m x⟩):run P tab (.c (.loop a)::k) Q ⟨fr,hp,nx⟩:=
 gS_ (fun x=>⟨f x (j8_ D fr),hp,nx+m x⟩) μ x0 h0 step
end
attribute [go_sem] yW_ h2_ rR_ ny_
section
variable {P:Program}{tab:Nat->TI}{ops:Array Oper}{nx0 nx i j d:Nat}{k:List It}{Q:Ex->St->Prop}{r:List Oper}{s:St}{dst:Option Nat}{acc:List Rec}{fr:Fr}{hp:Hp}{op:Op}{T:TypeId}{pos:String}{after:Array Edge}{t c:Bool}
end
theorem rS_ {n:Nat}(h:n<9223372036854775808):IntKind.i64.wrap (n:Int)=n:=IntWalk.i64_in _ (by omega)
theorem v1_ {a:Nat}(h:a+1<9223372036854775808):IntKind.i64.wrap ((a:Int)+1)=((a+1:Nat):Int):=by rw[IntWalk.i64_in _ (by omega)];omega
theorem at_map {α β:Type}{f:α->β}{xs:List α}{k:Nat}(h:k<xs.length):(xs.map f)[k]? =some (f xs[k]):=by simp[h]
theorem ha_ {a b:Nat}(h:a<b):decide ((a:Int)<(b:Int))=true:=by simp;omega
theorem fg_ {a b:Nat}(h:b<=a):decide ((a:Int)<(b:Int))=false:=by simp;omega
end
section
open Go.RowKit
def accV (id ver:Nat):List (List D)->AV
 |[]=>.v (.slice none 0 0)
 |_::r=>.so id ver 0 (r.length+1)
def accO (sz ver:Nat)(br:Bool):List (List D)->Option AO
 |[]=>none
 |e::r=>some (.rw (e::r) sz ver br false)
def accI (nid id:Nat):List (List D)->Nat
 |[]=>nid
 |_::_=>id
def accN (ver:Nat):List (List D)->Nat
 |[]=>0
 |_::_=>ver+1
theorem wS_ (id ver:Nat):accV id ver []= .v (.slice none 0 0):=rfl
theorem k7_ (sz ver:Nat)(br:Bool):accO sz ver br []=none:=rfl
section
variable {tab:Nat->TI}{ρ:Operand->AV}{hp:Hp}{nid id ver T sz:Nat}{x y:Operand}{es:List (List D)}{e:List D}{b:Bool}{is:List Nat}
theorem nA_:gM_ (accV id ver es)=true:=by cases es<;>rfl
theorem h3_:we_ (accV id ver es)=true:=by cases es<;>rfl
theorem nB_:qP_ (accV id ver es)=some [accV id ver es]:=by cases es<;>rfl
end
theorem b3_ (id ver:Nat)(e:List D)(r:List (List D)):accV id ver (e::r)= .so id ver 0 (r.length+1):=rfl
theorem nC_ (sz ver:Nat)(br:Bool)(e:List D)(r:List (List D)):accO sz ver br (e::r)=some (.rw (e::r) sz ver br false):=rfl
theorem gW_ {α β:Type}(f:α->β)(r:List α):(r.map f).take r.length=r.map f:=List.take_of_length_le (by simp)
attribute [go_sem] b3_ nC_ gW_
attribute [go_sem] wS_ k7_ nA_ h3_ nB_
def an (n m:Int):Nat:=(BitVec.ofInt 64 n &&& BitVec.ofInt 64 m).toNat
theorem h4_ (n m:Int):an n m<=(BitVec.ofInt 64 m).toNat:=by
 unfold an;rw[BitVec.toNat_and];exact Nat.and_le_right
theorem yX_ (n m:Int)(h:(BitVec.ofInt 64 m).toNat<9223372036854775808):IntKind.i64.wrap (an n m:Int)=(an n m:Int):=by
 have:=h4_ n m
 exact rS_ (show an n m<_ by omega)
def sh (n:Int)(k:Nat):Int:=n.fdiv (2^(min k 64))
@[go_sem ↓ high] theorem intV_and (a b:Int):intV .and .i64 a b=some (.int .i64 (IntKind.i64.wrap (an a b:Int))):=rfl
@[go_sem ↓ high] theorem binV_shr (a b:Int)(k:IntKind):binV .shr (.int .i64 a) (.int k b)=if b<0 then none else some (.int .i64 (sh a b.toNat)):=rfl
@[go_sem] theorem cast_neg (n:Nat):((n:Int)<0)=False:=by simp
attribute [go_sem] Int.toNat_natCast
theorem rT_ (a b:Nat):((a:Int)).tmod (b:Int)=((a%b:Nat):Int):=by rw[Int.tmod_eq_emod_of_nonneg (by omega)];omega
end
end Go.Proofs.YtnmkbmefohakmaaGreat.Ab
