/-
 What is asked zH_ on no order of tuples, not on tuples told twice, nor on those that do not fit: for every schema, tuples and question of numbers. No condition.
-/
import Derived.Test.YtnmkbmefohakmaaGreatOpn
namespace Go.Proofs.YtnmkbmefohakmaaGreat
open Go.ChangeShapes Go.WideShapes Go.ChangeAt Go.RowKit
namespace Ab
end Ab
namespace SozF
open Ab
set_option maxRecDepth 100000 in
theorem lifted (os:Os)(started:os.Started)(H:Type)(enc:TypeId × Value->H):
  ReturnsInHanded {} Tryz.checked os 3 .any (Rows.seekOrderSpec.pre6 enc Tryz.prog Tryz.f3 Rows.seekOrderRow.domain false) (Rows.seekOrderSpec.post enc Tryz.prog Tryz.f3 false true false false):=by
 refine returnsInHanded_of_change (C:=Tryz.checked) (by kernel_rfl) started (by kernel_rfl) Tryz.func3
  (ChangeSpec.witness6 (enc:=enc) (C:=Tryz.checked) false ⟨#[], #[.slice none 0 0,.slice none 0 0,.int .i64 0],[]⟩ 8 (by kernel_rfl) (by kernel_rfl) (by kernel_rfl) (by kernel_rfl)) ?_
 intro W base args ds gs before hval0 hW _ _;have hval:∀(j:Nat) t v,Tryz.f3.params[j]? =some t->args[j]? =some v->Value.okWide Tryz.prog W .any base t v:=hval0;have hW0:DataW.Whole enc Tryz.prog Tryz.f3.params.toList Rows.seekOrderSpec.vars false W args.toList ds gs before:=hW;have hW':=hW0;obtain⟨p,q,hA0,hV,rfl,_,_⟩:=hW
 have hA:DataW.TrodAll enc Tryz.prog W 0 (fun _=>true) true Tryz.f3.params.toList args.toList ds p:=hA0;rw[Tryz.params3] at hA hval;obtain⟨vs⟩:=args;obtain⟨v0,vs1,d0,ds1,p0,q0,e0,c0,_,h0,hA1⟩:=trodAll_cons hA;obtain⟨v1,vs2,d1,ds2,p1,q1,e1,c1,_,h1,hA2⟩:=trodAll_cons hA1;obtain⟨v2,vs3,d2,ds3,p2,q2,e2,c2,_,h2,hA3⟩:=trodAll_cons hA2
 obtain⟨eN,cN,_⟩:=trodAll_nil hA3;subst eN;subst cN;subst e2;subst c2;subst e1;subst c1;have e0:vs=_:=e0;subst e0;subst c0;obtain⟨x0,y0,z0,rfl⟩:=okWide_slice Tryz.underlying22 (hval 0 22 v0 rfl rfl)
 obtain⟨a0,k0,r0⟩:=Ab.Opens.one (e:=(fun l:List Int=>D.sl (List.map eI l))) (ok:=(fun l:List Int=>l.length<=maxLen/\∀y∈l,(Lit.int .i64 y).wf=true)) (Ab.Opens.slice (k:=1) (ok:=(fun n:Int=>(Lit.int .i64 n).wf=true)) Tryz.underlying22 (by kernel_rfl) (by decide) (by intro _;rfl) (Ab.Opens.int Tryz.underlying2)) rfl h0
 obtain⟨x1,y1,z1,rfl⟩:=okWide_slice Tryz.underlying22 (hval 1 22 v1 rfl rfl)
 obtain⟨a1,k1,r1⟩:=Ab.Opens.one (e:=(fun l:List Int=>D.sl (List.map eI l))) (ok:=(fun l:List Int=>l.length<=maxLen/\∀y∈l,(Lit.int .i64 y).wf=true)) (Ab.Opens.slice (k:=1) (ok:=(fun n:Int=>(Lit.int .i64 n).wf=true)) Tryz.underlying22 (by kernel_rfl) (by decide) (by intro _;rfl) (Ab.Opens.int Tryz.underlying2)) rfl h1
 obtain⟨x2,rfl⟩:=okWide_int Tryz.underlying2 (hval 2 2 v2 rfl rfl);obtain⟨a2,k2,r2⟩:=Ab.Opens.one (e:=(fun n:Int=>D.v (.int .i64 n))) (ok:=(fun n:Int=>(Lit.int .i64 n).wf=true)) (Ab.Opens.int Tryz.underlying2) rfl h2;obtain⟨n,hn⟩:=Ab.law_seekOrder a0 a1 a2
 exact(Ab.law_pure (Ab.law9_SeekOrder_ok hn) W [.slice x0 y0 z0,.slice x1 y1 z1,.int .i64 x2] rfl (Ab.rows_cons r0 (Ab.rows_cons r1 (Ab.rows_cons r2 Ab.rows_nil)))).mono fun e W' ⟨he,hb⟩=>⟨_,he,Cm.law_post (by kernel_rfl) (by kernel_rfl) rfl (tb:=4) (by kernel_rfl) Tryz.underlying4 rfl rfl rfl hW0 hb⟩
theorem said:Rows.SeekOrderSaid:=
 OpenClaim.holds_of_wide 3 Tryz.f3 rfl rfl rfl rfl rfl rfl rfl ⟨rfl,rfl,rfl,rfl,rfl⟩ rfl rfl rfl rfl rfl (by kernel_rfl) Tryz.func3 (by kernel_rfl)
  (of_decide_eq_true (by kernel_rfl)) (by unfold Func.isWrapper;first |(rw[if_pos (by decide+kernel)];kernel_rfl) |(rw[if_neg (by decide+kernel)];exact⟨rfl,rfl⟩))
  (fun os started H enc _=>lifted os started H enc)
#print axioms said
end SozF
end Go.Proofs.YtnmkbmefohakmaaGreat
