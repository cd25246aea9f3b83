/-
 What every law's proof ends in: behind the call nothing that was there has turned, the result is true, the arguments read as they did. No program in sight.
-/
import Derived.Test.YtnmkbmefohakmaaGreatRows
import Derived.WalkKit
import Derived.ProofKit
set_option linter.all false
namespace Go.Proofs.YtnmkbmefohakmaaGreat
open Go.ChangeShapes Go.WideShapes Go.ChangeAt Go.RowKit
namespace Cm
section
variable {H:Type}{enc:TypeId × Value->H}{P:Program}
theorem lz (j:laidOutB P=true){W k:World}(l:Below W.heap.size W k):∀(c:List TypeId) (e:List Value) (f:List (DataW H)) (g:List MemPlace),(∀t∈c,P.readableRec t=true/\t<P.types.size)->
  DataW.TrodAll enc P W 0 (fun _=>true) true c e f g->(∀x∈g,x.block<W.heap.size)->DataW.TrodAll enc P k 0 (fun b=>decide (b<W.heap.size)) true c e f g
 |[],_,_,_,_,h,_=>by
  obtain⟨rfl,rfl,rfl⟩:=trodAll_nil h;exact trodAll_mk0
 |t::c,_,_,_,m,h,n=>by
  obtain⟨v,e,d,f,p,q,rfl,rfl,rfl,o,r⟩:=trodAll_cons h;have⟨a,b⟩:=m t (List.mem_cons_self ..);exact⟨p,q,Below.trod j a b o l (fun x i=>n x (List.mem_append_left _ i)),lz j l c e f q (fun t s=>m t (List.mem_cons_of_mem _ s)) r (fun x i=>n x (List.mem_append_right _ i)),rfl⟩
theorem law_post {f:Func}{s:ChangeSpec}{W b:World}{c:Array Value}{ds k:List (DataW H)}{l:List MemPlace}{tb:TypeId}
  (m:laidOutB P=true) (n:f.params.toList.all (fun t=>P.readableRec t&&decide (t<P.types.size))=true) (d:s.vars= []) (o:f.resultTypes= #[tb]) (r:P.underlying tb=some .bool)
  (u:(s.fn H (ds++[])).results= [.lit (.bool true)]) (v:(s.fn H (ds++[])).args=ds) (w:(s.fn H (ds++[])).vars= [])
  (e:DataW.Whole enc P f.params.toList s.vars false W c.toList ds k l) (g:Below W.heap.size W b):
  s.post enc P f false true false false W c (.bool true) b:=by
 have i:=e;obtain⟨p,q,y,j,rfl,B,_⟩:=e;have z:∀x∈p++q,x.block<W.heap.size:=fun x a=>by simpa using i.lt x a
 rw[d] at j;obtain⟨rfl,rfl⟩:=trodVars_none j;refine⟨ds,[],p++[],[],p,[],i,?_,?_,?_,g.frame _,fun h=>by cases h⟩
 ·rw[u,o];exact trodAll_mk1 (shut_bool r _)
 ·rw[v];refine lz m g _ _ _ _ (fun t A=> ?_) y (fun x a=>z x (by simpa using a))
  have:=List.all_eq_true.1 n t A;simpa using this
 rw[w,d];rfl
end
end Cm
end Go.Proofs.YtnmkbmefohakmaaGreat
