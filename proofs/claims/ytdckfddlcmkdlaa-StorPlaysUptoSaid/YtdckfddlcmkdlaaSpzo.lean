/-
  What is known of what the law is handed.
-/
import Derived.Test.YtdckfddlcmkdlaaRss
import Derived.Test.YtdckfddlcmkdlaaOpu
namespace Go.Proofs.Ytdckfddlcmkdlaa.Ab
open Go.ChangeShapes Go.WideShapes Go.ChangeAt Go.RowKit
def okGObj (N : Nat) (x : GObj) : Prop := (okTx N x.type_) ∧ (okTx N x.id_) ∧ True
theorem monoGObj : ∀ (N M : Nat) (a : GObj), N ≤ M → okGObj N a → okGObj M a := fun N M _ h k => ⟨monoTx N M _ h k.1, monoTx N M _ h k.2.1, trivial⟩
theorem opensGObj {H : Type} {enc : TypeId × Value → H} {W : World} : Opens enc Try.prog W 37 eGObj okGObj :=
  Opens.map (Opens.struct Try.underlying37 (by intro _; kernel_rfl) (OpensF.cons (k := 1) (e1 := eS) (ok1 := okTx) monoTx rfl (by intro _; rfl) (Opens.str Try.underlying9) (OpensF.cons (k := 1) (e1 := eS) (ok1 := okTx) monoTx rfl (by intro _; rfl) (Opens.str Try.underlying9) OpensF.nil))) (fun p => ⟨p.1, p.2.1⟩) (by intro _; rfl) (by intro _ _ h; exact h)
def okGSub (N : Nat) (x : GSub) : Prop := (okTx N x.type_) ∧ (okTx N x.id_) ∧ (okTx N x.rel) ∧ True
theorem monoGSub : ∀ (N M : Nat) (a : GSub), N ≤ M → okGSub N a → okGSub M a := fun N M _ h k => ⟨monoTx N M _ h k.1, monoTx N M _ h k.2.1, monoTx N M _ h k.2.2.1, trivial⟩
theorem opensGSub {H : Type} {enc : TypeId × Value → H} {W : World} : Opens enc Try.prog W 39 eGSub okGSub :=
  Opens.map (Opens.struct Try.underlying39 (by intro _; kernel_rfl) (OpensF.cons (k := 1) (e1 := eS) (ok1 := okTx) monoTx rfl (by intro _; rfl) (Opens.str Try.underlying9) (OpensF.cons (k := 1) (e1 := eS) (ok1 := okTx) monoTx rfl (by intro _; rfl) (Opens.str Try.underlying9) (OpensF.cons (k := 1) (e1 := eS) (ok1 := okTx) monoTx rfl (by intro _; rfl) (Opens.str Try.underlying9) OpensF.nil)))) (fun p => ⟨p.1, p.2.1, p.2.2.1⟩) (by intro _; rfl) (by intro _ _ h; exact h)
def okGTuple (N : Nat) (x : GTuple) : Prop := (okGObj N x.obj) ∧ (okTx N x.rel) ∧ (okGSub N x.sub_) ∧ True
theorem monoGTuple : ∀ (N M : Nat) (a : GTuple), N ≤ M → okGTuple N a → okGTuple M a := fun N M _ h k => ⟨monoGObj N M _ h k.1, monoTx N M _ h k.2.1, monoGSub N M _ h k.2.2.1, trivial⟩
theorem opensGTuple {H : Type} {enc : TypeId × Value → H} {W : World} : Opens enc Try.prog W 41 eGTuple okGTuple :=
  Opens.map (Opens.struct Try.underlying41 (by intro _; kernel_rfl) (OpensF.cons (k := 2) (e1 := eGObj) (ok1 := okGObj) monoGObj rfl (by intro _; rfl) opensGObj (OpensF.cons (k := 1) (e1 := eS) (ok1 := okTx) monoTx rfl (by intro _; rfl) (Opens.str Try.underlying9) (OpensF.cons (k := 3) (e1 := eGSub) (ok1 := okGSub) monoGSub rfl (by intro _; rfl) opensGSub OpensF.nil)))) (fun p => ⟨p.1, p.2.1, p.2.2.1⟩) (by intro _; rfl) (by intro _ _ h; exact h)
def okGBatch (N : Nat) (x : GBatch) : Prop := ((okLs okGTuple) N x.add) ∧ ((okLs okGTuple) N x.drop) ∧ ((okLs okGTuple) N x.must) ∧ ((okLs okGTuple) N x.not_) ∧ True
theorem monoGBatch : ∀ (N M : Nat) (a : GBatch), N ≤ M → okGBatch N a → okGBatch M a := fun N M _ h k => ⟨(monoLs monoGTuple) N M _ h k.1, (monoLs monoGTuple) N M _ h k.2.1, (monoLs monoGTuple) N M _ h k.2.2.1, (monoLs monoGTuple) N M _ h k.2.2.2.1, trivial⟩
theorem opensGBatch {H : Type} {enc : TypeId × Value → H} {W : World} : Opens enc Try.prog W 54 eGBatch okGBatch :=
  Opens.map (Opens.struct Try.underlying54 (by intro _; kernel_rfl) (OpensF.cons (k := 1) (e1 := (eL eGTuple)) (ok1 := (okLs okGTuple)) (monoLs monoGTuple) rfl (by intro _; rfl) (Opens.slice (k := 6) (ok := okGTuple) Try.underlying23 (by kernel_rfl) (by decide) (by intro _; rfl) monoGTuple opensGTuple) (OpensF.cons (k := 1) (e1 := (eL eGTuple)) (ok1 := (okLs okGTuple)) (monoLs monoGTuple) rfl (by intro _; rfl) (Opens.slice (k := 6) (ok := okGTuple) Try.underlying23 (by kernel_rfl) (by decide) (by intro _; rfl) monoGTuple opensGTuple) (OpensF.cons (k := 1) (e1 := (eL eGTuple)) (ok1 := (okLs okGTuple)) (monoLs monoGTuple) rfl (by intro _; rfl) (Opens.slice (k := 6) (ok := okGTuple) Try.underlying23 (by kernel_rfl) (by decide) (by intro _; rfl) monoGTuple opensGTuple) (OpensF.cons (k := 1) (e1 := (eL eGTuple)) (ok1 := (okLs okGTuple)) (monoLs monoGTuple) rfl (by intro _; rfl) (Opens.slice (k := 6) (ok := okGTuple) Try.underlying23 (by kernel_rfl) (by decide) (by intro _; rfl) monoGTuple opensGTuple) OpensF.nil))))) (fun p => ⟨p.1, p.2.1, p.2.2.1, p.2.2.2.1⟩) (by intro _; rfl) (by intro _ _ h; exact h)
end Go.Proofs.Ytdckfddlcmkdlaa.Ab
