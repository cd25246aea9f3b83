/-
  No cell of these rows narrows 'for every input' (looked for: loops, veiled, ifaces, maps, wideKeys, modest, calm, conditions, laid).
  DERIVED. THE GIVEN ROWS OF THIS SEAT. 4 by the template 'for every input the law returns true; each argument reads behind the call as it read before'; 0 by the template 'total and deterministic' (their statements: YtkkhgdmmbhpckaaGreatTotals.lean).
  GIVEN WITH THE SEED: the statements are not yours to turn. If you find one false, say at which input.
  Laid BY PROGRAM, IN A SANDBOX (cutbox-rows.mjs): the forced cells as the released guide's own fill.sh prints them over the translation 0aea1a27919ca072… (all of the seat's roots in one cut). By AI agents, Wed Nov 11 2026. No macro, syntax, notation, axiom, sorry.
-/
import Derived.Test.YtkkhgdmmbhpckaaGreatChecked
import GoSem.Claim
import GoSem.ClaimJoined
import GoSem.ClaimMapViews
import Derived.JoinedTies
import Derived.KernelRfl
namespace Go.Proofs.YtkkhgdmmbhpckaaGreat
/- THE CELL 'sum', in the pinned program and in every row, IS THE sha256 OF THE DUMP (.gsa) THAT YtkkhgdmmbhpckaaGreatProg.lean LOADS. Nothing in Lean hashes anything: it is a label: what it is worth is what the hold of that sum in a sandbox is worth. -/
noncomputable def Tryz.pinned : Pinned := { name := "ytkkhgdmmbhpckaagreat", sum := "0aea1a27919ca07241d33b2d294765723b9169d817f79c1d726b804041d58ad0", checked := Tryz.checked }
namespace Rows
def none {H : Type} : Left H := { results := [], args := [] }

/-- 'entaillaw14.NormUpDown': WHATEVER THE INPUT: true; the input reads as it did. -/
def normUpDownSpec : ChangeSpec := { name := "normUpDown", fn := fun _ => fun
  | [d] => { results := [.lit (.bool true)], args := [d] }
  | _ => none }
def normUpDownRow : OpenClaim := { program := "ytkkhgdmmbhpckaagreat", sum := "0aea1a27919ca07241d33b2d294765723b9169d817f79c1d726b804041d58ad0", func := "entail/entaillaw14.NormUpDown", spec := "normUpDown", inPlace := ["internal/bytealg.abigen_runtime_cmpstring"], unfollowed := true, recurses := true, apart := false }
def NormUpDownSaid : Prop := normUpDownRow.holds Tryz.pinned (OpenSpec.ofChange normUpDownSpec)

/-- ITS FALSE NEIGHBOUR: 'it returns false'. Refute it at one input. -/
def normUpDownWrong : ChangeSpec := { name := "normUpDown", fn := fun _ => fun
  | [d] => { results := [.lit (.bool false)], args := [d] }
  | _ => none }
def NormUpDownWrongFalsely : Prop := normUpDownRow.holds Tryz.pinned (OpenSpec.ofChange normUpDownWrong)

/-- 'entaillaw14.NormTells': WHATEVER THE INPUT: true; the input reads as it did. -/
def normTellsSpec : ChangeSpec := { name := "normTells", fn := fun _ => fun
  | [d1, d2, d3] => { results := [.lit (.bool true)], args := [d1, d2, d3] }
  | _ => none }
def normTellsRow : OpenClaim := { program := "ytkkhgdmmbhpckaagreat", sum := "0aea1a27919ca07241d33b2d294765723b9169d817f79c1d726b804041d58ad0", func := "entail/entaillaw14.NormTells", spec := "normTells", inPlace := ["internal/bytealg.abigen_runtime_cmpstring"], unfollowed := true, recurses := true, apart := false }
def NormTellsSaid : Prop := normTellsRow.holds Tryz.pinned (OpenSpec.ofChange normTellsSpec)

/-- ITS FALSE NEIGHBOUR: 'it returns false'. Refute it at one input. -/
def normTellsWrong : ChangeSpec := { name := "normTells", fn := fun _ => fun
  | [d1, d2, d3] => { results := [.lit (.bool false)], args := [d1, d2, d3] }
  | _ => none }
def NormTellsWrongFalsely : Prop := normTellsRow.holds Tryz.pinned (OpenSpec.ofChange normTellsWrong)

/-- 'entaillaw14.NormOnce': WHATEVER THE INPUT: true; the input reads as it did. -/
def normOnceSpec : ChangeSpec := { name := "normOnce", fn := fun _ => fun
  | [d] => { results := [.lit (.bool true)], args := [d] }
  | _ => none }
def normOnceRow : OpenClaim := { program := "ytkkhgdmmbhpckaagreat", sum := "0aea1a27919ca07241d33b2d294765723b9169d817f79c1d726b804041d58ad0", func := "entail/entaillaw14.NormOnce", spec := "normOnce", inPlace := ["internal/bytealg.abigen_runtime_cmpstring"], unfollowed := true, recurses := true, apart := false }
def NormOnceSaid : Prop := normOnceRow.holds Tryz.pinned (OpenSpec.ofChange normOnceSpec)

/-- ITS FALSE NEIGHBOUR: 'it returns false'. Refute it at one input. -/
def normOnceWrong : ChangeSpec := { name := "normOnce", fn := fun _ => fun
  | [d] => { results := [.lit (.bool false)], args := [d] }
  | _ => none }
def NormOnceWrongFalsely : Prop := normOnceRow.holds Tryz.pinned (OpenSpec.ofChange normOnceWrong)

/-- 'entaillaw14.NormLeast': WHATEVER THE INPUT: true; the input reads as it did. -/
def normLeastSpec : ChangeSpec := { name := "normLeast", fn := fun _ => fun
  | [d] => { results := [.lit (.bool true)], args := [d] }
  | _ => none }
def normLeastRow : OpenClaim := { program := "ytkkhgdmmbhpckaagreat", sum := "0aea1a27919ca07241d33b2d294765723b9169d817f79c1d726b804041d58ad0", func := "entail/entaillaw14.NormLeast", spec := "normLeast", inPlace := ["internal/bytealg.abigen_runtime_cmpstring"], unfollowed := true, recurses := true, apart := false }
def NormLeastSaid : Prop := normLeastRow.holds Tryz.pinned (OpenSpec.ofChange normLeastSpec)

/-- ITS FALSE NEIGHBOUR: 'it returns false'. Refute it at one input. -/
def normLeastWrong : ChangeSpec := { name := "normLeast", fn := fun _ => fun
  | [d] => { results := [.lit (.bool false)], args := [d] }
  | _ => none }
def NormLeastWrongFalsely : Prop := normLeastRow.holds Tryz.pinned (OpenSpec.ofChange normLeastWrong)

/- THE SECOND FORM. 'bulk': how many values and letters a reading holds, each counted each time it is reached (what is shared counts as often as it is met; a slice's spare places count too). A statement '..UptoSaid' is the law's where the arguments, and the package variables that the reading takes, are together of bulk at most 1048576: NARROWER than '..Said'. Prove '..Said' where nothing that the law and all that it calls make is longer than what came in: it says more and counts as full. Else prove '..UptoSaid'. A law counts once. -/
mutual
def uptoBulk {H : Type} : DataW H → Nat
  | .lit (.string bytes) => bytes.length + 1
  | .lit _ => 1
  | .nil => 1
  | .ptr d => uptoBulk d + 1
  | .slice elems spare => uptoBulkAll elems + uptoBulkAll spare + 1
  | .agg parts => uptoBulkAll parts + 1
  | .iface _ d => uptoBulk d + 1
  | .map entries => uptoBulkEntries entries + 1
  | .held _ => 1
def uptoBulkAll {H : Type} : List (DataW H) → Nat
  | [] => 0
  | d :: r => uptoBulk d + uptoBulkAll r
def uptoBulkEntries {H : Type} : List (Lit × DataW H) → Nat
  | [] => 0
  | x :: r => uptoBulkEntry x + uptoBulkEntries r
def uptoBulkEntry {H : Type} : Lit × DataW H → Nat
  | (.string bytes, d) => bytes.length + uptoBulk d + 1
  | (_, d) => uptoBulk d + 1
 end
def uptoSmall : (H : Type) → List (DataW H) → Bool := fun _ ds => decide (uptoBulkAll ds ≤ 1048576)
def OpenSpec.upto (s : _root_.Go.ChangeSpec) : _root_.Go.OpenSpec := { _root_.Go.OpenSpec.ofChange s with cond := some uptoSmall }

/-- 'entaillaw14.NormUpDown', WHERE WHAT IT READS IS OF BULK AT MOST 1048576: true; the input reads as it did. -/
def normUpDownUptoRow : OpenClaim := { program := "ytkkhgdmmbhpckaagreat", sum := "0aea1a27919ca07241d33b2d294765723b9169d817f79c1d726b804041d58ad0", func := "entail/entaillaw14.NormUpDown", spec := "normUpDown", inPlace := ["internal/bytealg.abigen_runtime_cmpstring"], unfollowed := true, recurses := true, apart := false, narrowed := true }
def NormUpDownUptoSaid : Prop := normUpDownUptoRow.holds Tryz.pinned (OpenSpec.upto normUpDownSpec)

/-- 'entaillaw14.NormTells', WHERE WHAT IT READS IS OF BULK AT MOST 1048576: true; the input reads as it did. -/
def normTellsUptoRow : OpenClaim := { program := "ytkkhgdmmbhpckaagreat", sum := "0aea1a27919ca07241d33b2d294765723b9169d817f79c1d726b804041d58ad0", func := "entail/entaillaw14.NormTells", spec := "normTells", inPlace := ["internal/bytealg.abigen_runtime_cmpstring"], unfollowed := true, recurses := true, apart := false, narrowed := true }
def NormTellsUptoSaid : Prop := normTellsUptoRow.holds Tryz.pinned (OpenSpec.upto normTellsSpec)

/-- 'entaillaw14.NormOnce', WHERE WHAT IT READS IS OF BULK AT MOST 1048576: true; the input reads as it did. -/
def normOnceUptoRow : OpenClaim := { program := "ytkkhgdmmbhpckaagreat", sum := "0aea1a27919ca07241d33b2d294765723b9169d817f79c1d726b804041d58ad0", func := "entail/entaillaw14.NormOnce", spec := "normOnce", inPlace := ["internal/bytealg.abigen_runtime_cmpstring"], unfollowed := true, recurses := true, apart := false, narrowed := true }
def NormOnceUptoSaid : Prop := normOnceUptoRow.holds Tryz.pinned (OpenSpec.upto normOnceSpec)

/-- 'entaillaw14.NormLeast', WHERE WHAT IT READS IS OF BULK AT MOST 1048576: true; the input reads as it did. -/
def normLeastUptoRow : OpenClaim := { program := "ytkkhgdmmbhpckaagreat", sum := "0aea1a27919ca07241d33b2d294765723b9169d817f79c1d726b804041d58ad0", func := "entail/entaillaw14.NormLeast", spec := "normLeast", inPlace := ["internal/bytealg.abigen_runtime_cmpstring"], unfollowed := true, recurses := true, apart := false, narrowed := true }
def NormLeastUptoSaid : Prop := normLeastUptoRow.holds Tryz.pinned (OpenSpec.upto normLeastSpec)

end Rows
end Go.Proofs.YtkkhgdmmbhpckaaGreat
