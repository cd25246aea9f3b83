/-
  No cell of these rows narrows 'for every input' (looked for: loops, veiled, ifaces, maps, wideKeys, modest, calm, conditions, laid).
  DERIVED. THE GIVEN ROWS OF THIS SEAT. 8 by the template 'for every input the law returns true; each argument reads behind the call as it read before'; 0 by the template 'total and deterministic' (their statements: YtkkhgdmmbhpckaaTotals.lean).
  GIVEN WITH THE SEED: the statements are not yours to turn. If you find one false, say at which input.
  Laid BY PROGRAM, IN A SANDBOX (cutbox-rows.mjs): the forced cells as the released guide's own fill.sh prints them over the translation 44281b9daa2edecc… (all of the seat's roots in one cut). By AI agents, Wed Nov 11 2026. No macro, syntax, notation, axiom, sorry.
-/
import Derived.Test.YtkkhgdmmbhpckaaChecked
import GoSem.Claim
import GoSem.ClaimJoined
import GoSem.ClaimMapViews
import Derived.JoinedTies
import Derived.KernelRfl
namespace Go.Proofs.Ytkkhgdmmbhpckaa
/- THE CELL 'sum', in the pinned program and in every row, IS THE sha256 OF THE DUMP (.gsa) THAT YtkkhgdmmbhpckaaProg.lean LOADS. Nothing in Lean hashes anything: it is a label: what it is worth is what the hold of that sum in a sandbox is worth. -/
noncomputable def Try.pinned : Pinned := { name := "ytkkhgdmmbhpckaa", sum := "44281b9daa2edecceca610aa55b98f25cd2ca1840884891b63e41de4eb2f3050", checked := Try.checked }
namespace Rows
def none {H : Type} : Left H := { results := [], args := [] }

/-- 'entaillaw24.GlobGroups': WHATEVER THE INPUT: true; the input reads as it did. -/
def globGroupsSpec : ChangeSpec := { name := "globGroups", fn := fun _ => fun
  | [d1, d2] => { results := [.lit (.bool true)], args := [d1, d2] }
  | _ => none }
def globGroupsRow : OpenClaim := { program := "ytkkhgdmmbhpckaa", sum := "44281b9daa2edecceca610aa55b98f25cd2ca1840884891b63e41de4eb2f3050", func := "entail/entaillaw24.GlobGroups", spec := "globGroups", unfollowed := true, recurses := true, apart := false }
def GlobGroupsSaid : Prop := globGroupsRow.holds Try.pinned (OpenSpec.ofChange globGroupsSpec)

/-- ITS FALSE NEIGHBOUR: 'it returns false'. Refute it at one input. -/
def globGroupsWrong : ChangeSpec := { name := "globGroups", fn := fun _ => fun
  | [d1, d2] => { results := [.lit (.bool false)], args := [d1, d2] }
  | _ => none }
def GlobGroupsWrongFalsely : Prop := globGroupsRow.holds Try.pinned (OpenSpec.ofChange globGroupsWrong)

/-- 'entaillaw24.GlobTells': WHATEVER THE INPUT: true; the input reads as it did. -/
def globTellsSpec : ChangeSpec := { name := "globTells", fn := fun _ => fun
  | [d1, d2, d3, d4, d5, d6, d7, d8] => { results := [.lit (.bool true)], args := [d1, d2, d3, d4, d5, d6, d7, d8] }
  | _ => none }
def globTellsRow : OpenClaim := { program := "ytkkhgdmmbhpckaa", sum := "44281b9daa2edecceca610aa55b98f25cd2ca1840884891b63e41de4eb2f3050", func := "entail/entaillaw24.GlobTells", spec := "globTells", unfollowed := true, recurses := true, apart := false }
def GlobTellsSaid : Prop := globTellsRow.holds Try.pinned (OpenSpec.ofChange globTellsSpec)

/-- ITS FALSE NEIGHBOUR: 'it returns false'. Refute it at one input. -/
def globTellsWrong : ChangeSpec := { name := "globTells", fn := fun _ => fun
  | [d1, d2, d3, d4, d5, d6, d7, d8] => { results := [.lit (.bool false)], args := [d1, d2, d3, d4, d5, d6, d7, d8] }
  | _ => none }
def GlobTellsWrongFalsely : Prop := globTellsRow.holds Try.pinned (OpenSpec.ofChange globTellsWrong)

/-- 'entaillaw24.GlobMatch': WHATEVER THE INPUT: true; the input reads as it did. -/
def globMatchSpec : ChangeSpec := { name := "globMatch", fn := fun _ => fun
  | [d1, d2, d3] => { results := [.lit (.bool true)], args := [d1, d2, d3] }
  | _ => none }
def globMatchRow : OpenClaim := { program := "ytkkhgdmmbhpckaa", sum := "44281b9daa2edecceca610aa55b98f25cd2ca1840884891b63e41de4eb2f3050", func := "entail/entaillaw24.GlobMatch", spec := "globMatch", unfollowed := true, recurses := true, apart := false }
def GlobMatchSaid : Prop := globMatchRow.holds Try.pinned (OpenSpec.ofChange globMatchSpec)

/-- ITS FALSE NEIGHBOUR: 'it returns false'. Refute it at one input. -/
def globMatchWrong : ChangeSpec := { name := "globMatch", fn := fun _ => fun
  | [d1, d2, d3] => { results := [.lit (.bool false)], args := [d1, d2, d3] }
  | _ => none }
def GlobMatchWrongFalsely : Prop := globMatchRow.holds Try.pinned (OpenSpec.ofChange globMatchWrong)

/-- 'entaillaw24.GlobRules': WHATEVER THE INPUT: true; the input reads as it did. -/
def globRulesSpec : ChangeSpec := { name := "globRules", fn := fun _ => fun
  | [d1, d2, d3] => { results := [.lit (.bool true)], args := [d1, d2, d3] }
  | _ => none }
def globRulesRow : OpenClaim := { program := "ytkkhgdmmbhpckaa", sum := "44281b9daa2edecceca610aa55b98f25cd2ca1840884891b63e41de4eb2f3050", func := "entail/entaillaw24.GlobRules", spec := "globRules", unfollowed := true, recurses := true, apart := false }
def GlobRulesSaid : Prop := globRulesRow.holds Try.pinned (OpenSpec.ofChange globRulesSpec)

/-- ITS FALSE NEIGHBOUR: 'it returns false'. Refute it at one input. -/
def globRulesWrong : ChangeSpec := { name := "globRules", fn := fun _ => fun
  | [d1, d2, d3] => { results := [.lit (.bool false)], args := [d1, d2, d3] }
  | _ => none }
def GlobRulesWrongFalsely : Prop := globRulesRow.holds Try.pinned (OpenSpec.ofChange globRulesWrong)

/-- 'entaillaw15.SessGives': WHATEVER THE INPUT: true; the input reads as it did. -/
def sessGivesSpec : ChangeSpec := { name := "sessGives", fn := fun _ => fun
  | [d1, d2, d3] => { results := [.lit (.bool true)], args := [d1, d2, d3] }
  | _ => none }
def sessGivesRow : OpenClaim := { program := "ytkkhgdmmbhpckaa", sum := "44281b9daa2edecceca610aa55b98f25cd2ca1840884891b63e41de4eb2f3050", func := "entail/entaillaw15.SessGives", spec := "sessGives", unfollowed := true, recurses := true, apart := false }
def SessGivesSaid : Prop := sessGivesRow.holds Try.pinned (OpenSpec.ofChange sessGivesSpec)

/-- ITS FALSE NEIGHBOUR: 'it returns false'. Refute it at one input. -/
def sessGivesWrong : ChangeSpec := { name := "sessGives", fn := fun _ => fun
  | [d1, d2, d3] => { results := [.lit (.bool false)], args := [d1, d2, d3] }
  | _ => none }
def SessGivesWrongFalsely : Prop := sessGivesRow.holds Try.pinned (OpenSpec.ofChange sessGivesWrong)

/-- 'entaillaw15.SessNormal': WHATEVER THE INPUT: true; the input reads as it did. -/
def sessNormalSpec : ChangeSpec := { name := "sessNormal", fn := fun _ => fun
  | [d1, d2] => { results := [.lit (.bool true)], args := [d1, d2] }
  | _ => none }
def sessNormalRow : OpenClaim := { program := "ytkkhgdmmbhpckaa", sum := "44281b9daa2edecceca610aa55b98f25cd2ca1840884891b63e41de4eb2f3050", func := "entail/entaillaw15.SessNormal", spec := "sessNormal", unfollowed := true, recurses := true, apart := false }
def SessNormalSaid : Prop := sessNormalRow.holds Try.pinned (OpenSpec.ofChange sessNormalSpec)

/-- ITS FALSE NEIGHBOUR: 'it returns false'. Refute it at one input. -/
def sessNormalWrong : ChangeSpec := { name := "sessNormal", fn := fun _ => fun
  | [d1, d2] => { results := [.lit (.bool false)], args := [d1, d2] }
  | _ => none }
def SessNormalWrongFalsely : Prop := sessNormalRow.holds Try.pinned (OpenSpec.ofChange sessNormalWrong)

/-- 'entaillaw15.SessDuty': WHATEVER THE INPUT: true; the input reads as it did. -/
def sessDutySpec : ChangeSpec := { name := "sessDuty", fn := fun _ => fun
  | [d] => { results := [.lit (.bool true)], args := [d] }
  | _ => none }
def sessDutyRow : OpenClaim := { program := "ytkkhgdmmbhpckaa", sum := "44281b9daa2edecceca610aa55b98f25cd2ca1840884891b63e41de4eb2f3050", func := "entail/entaillaw15.SessDuty", spec := "sessDuty", unfollowed := true, recurses := true, apart := false }
def SessDutySaid : Prop := sessDutyRow.holds Try.pinned (OpenSpec.ofChange sessDutySpec)

/-- ITS FALSE NEIGHBOUR: 'it returns false'. Refute it at one input. -/
def sessDutyWrong : ChangeSpec := { name := "sessDuty", fn := fun _ => fun
  | [d] => { results := [.lit (.bool false)], args := [d] }
  | _ => none }
def SessDutyWrongFalsely : Prop := sessDutyRow.holds Try.pinned (OpenSpec.ofChange sessDutyWrong)

/-- 'entaillaw15.SessErrors': WHATEVER THE INPUT: true; the input reads as it did. -/
def sessErrorsSpec : ChangeSpec := { name := "sessErrors", fn := fun _ => fun
  | [d] => { results := [.lit (.bool true)], args := [d] }
  | _ => none }
def sessErrorsRow : OpenClaim := { program := "ytkkhgdmmbhpckaa", sum := "44281b9daa2edecceca610aa55b98f25cd2ca1840884891b63e41de4eb2f3050", func := "entail/entaillaw15.SessErrors", spec := "sessErrors", unfollowed := true, recurses := true, apart := false }
def SessErrorsSaid : Prop := sessErrorsRow.holds Try.pinned (OpenSpec.ofChange sessErrorsSpec)

/-- ITS FALSE NEIGHBOUR: 'it returns false'. Refute it at one input. -/
def sessErrorsWrong : ChangeSpec := { name := "sessErrors", fn := fun _ => fun
  | [d] => { results := [.lit (.bool false)], args := [d] }
  | _ => none }
def SessErrorsWrongFalsely : Prop := sessErrorsRow.holds Try.pinned (OpenSpec.ofChange sessErrorsWrong)

/- THE SECOND FORM. 'bulk': how many values and letters a reading holds, each counted each time it is reached (what is shared counts as often as it is met; a slice's spare places count too). A statement '..UptoSaid' is the law's where the arguments, and the package variables that the reading takes, are together of bulk at most 1048576: NARROWER than '..Said'. Prove '..Said' where nothing that the law and all that it calls make is longer than what came in: it says more and counts as full. Else prove '..UptoSaid'. A law counts once. -/
mutual
def uptoBulk {H : Type} : DataW H → Nat
  | .lit (.string bytes) => bytes.length + 1
  | .lit _ => 1
  | .nil => 1
  | .ptr d => uptoBulk d + 1
  | .slice elems spare => uptoBulkAll elems + uptoBulkAll spare + 1
  | .agg parts => uptoBulkAll parts + 1
  | .iface _ d => uptoBulk d + 1
  | .map entries => uptoBulkEntries entries + 1
  | .held _ => 1
def uptoBulkAll {H : Type} : List (DataW H) → Nat
  | [] => 0
  | d :: r => uptoBulk d + uptoBulkAll r
def uptoBulkEntries {H : Type} : List (Lit × DataW H) → Nat
  | [] => 0
  | x :: r => uptoBulkEntry x + uptoBulkEntries r
def uptoBulkEntry {H : Type} : Lit × DataW H → Nat
  | (.string bytes, d) => bytes.length + uptoBulk d + 1
  | (_, d) => uptoBulk d + 1
 end
def uptoSmall : (H : Type) → List (DataW H) → Bool := fun _ ds => decide (uptoBulkAll ds ≤ 1048576)
def OpenSpec.upto (s : _root_.Go.ChangeSpec) : _root_.Go.OpenSpec := { _root_.Go.OpenSpec.ofChange s with cond := some uptoSmall }

/-- 'entaillaw24.GlobGroups', WHERE WHAT IT READS IS OF BULK AT MOST 1048576: true; the input reads as it did. -/
def globGroupsUptoRow : OpenClaim := { program := "ytkkhgdmmbhpckaa", sum := "44281b9daa2edecceca610aa55b98f25cd2ca1840884891b63e41de4eb2f3050", func := "entail/entaillaw24.GlobGroups", spec := "globGroups", unfollowed := true, recurses := true, apart := false, narrowed := true }
def GlobGroupsUptoSaid : Prop := globGroupsUptoRow.holds Try.pinned (OpenSpec.upto globGroupsSpec)

/-- 'entaillaw24.GlobTells', WHERE WHAT IT READS IS OF BULK AT MOST 1048576: true; the input reads as it did. -/
def globTellsUptoRow : OpenClaim := { program := "ytkkhgdmmbhpckaa", sum := "44281b9daa2edecceca610aa55b98f25cd2ca1840884891b63e41de4eb2f3050", func := "entail/entaillaw24.GlobTells", spec := "globTells", unfollowed := true, recurses := true, apart := false, narrowed := true }
def GlobTellsUptoSaid : Prop := globTellsUptoRow.holds Try.pinned (OpenSpec.upto globTellsSpec)

/-- 'entaillaw24.GlobMatch', WHERE WHAT IT READS IS OF BULK AT MOST 1048576: true; the input reads as it did. -/
def globMatchUptoRow : OpenClaim := { program := "ytkkhgdmmbhpckaa", sum := "44281b9daa2edecceca610aa55b98f25cd2ca1840884891b63e41de4eb2f3050", func := "entail/entaillaw24.GlobMatch", spec := "globMatch", unfollowed := true, recurses := true, apart := false, narrowed := true }
def GlobMatchUptoSaid : Prop := globMatchUptoRow.holds Try.pinned (OpenSpec.upto globMatchSpec)

/-- 'entaillaw24.GlobRules', WHERE WHAT IT READS IS OF BULK AT MOST 1048576: true; the input reads as it did. -/
def globRulesUptoRow : OpenClaim := { program := "ytkkhgdmmbhpckaa", sum := "44281b9daa2edecceca610aa55b98f25cd2ca1840884891b63e41de4eb2f3050", func := "entail/entaillaw24.GlobRules", spec := "globRules", unfollowed := true, recurses := true, apart := false, narrowed := true }
def GlobRulesUptoSaid : Prop := globRulesUptoRow.holds Try.pinned (OpenSpec.upto globRulesSpec)

/-- 'entaillaw15.SessGives', WHERE WHAT IT READS IS OF BULK AT MOST 1048576: true; the input reads as it did. -/
def sessGivesUptoRow : OpenClaim := { program := "ytkkhgdmmbhpckaa", sum := "44281b9daa2edecceca610aa55b98f25cd2ca1840884891b63e41de4eb2f3050", func := "entail/entaillaw15.SessGives", spec := "sessGives", unfollowed := true, recurses := true, apart := false, narrowed := true }
def SessGivesUptoSaid : Prop := sessGivesUptoRow.holds Try.pinned (OpenSpec.upto sessGivesSpec)

/-- 'entaillaw15.SessNormal', WHERE WHAT IT READS IS OF BULK AT MOST 1048576: true; the input reads as it did. -/
def sessNormalUptoRow : OpenClaim := { program := "ytkkhgdmmbhpckaa", sum := "44281b9daa2edecceca610aa55b98f25cd2ca1840884891b63e41de4eb2f3050", func := "entail/entaillaw15.SessNormal", spec := "sessNormal", unfollowed := true, recurses := true, apart := false, narrowed := true }
def SessNormalUptoSaid : Prop := sessNormalUptoRow.holds Try.pinned (OpenSpec.upto sessNormalSpec)

/-- 'entaillaw15.SessDuty', WHERE WHAT IT READS IS OF BULK AT MOST 1048576: true; the input reads as it did. -/
def sessDutyUptoRow : OpenClaim := { program := "ytkkhgdmmbhpckaa", sum := "44281b9daa2edecceca610aa55b98f25cd2ca1840884891b63e41de4eb2f3050", func := "entail/entaillaw15.SessDuty", spec := "sessDuty", unfollowed := true, recurses := true, apart := false, narrowed := true }
def SessDutyUptoSaid : Prop := sessDutyUptoRow.holds Try.pinned (OpenSpec.upto sessDutySpec)

/-- 'entaillaw15.SessErrors', WHERE WHAT IT READS IS OF BULK AT MOST 1048576: true; the input reads as it did. -/
def sessErrorsUptoRow : OpenClaim := { program := "ytkkhgdmmbhpckaa", sum := "44281b9daa2edecceca610aa55b98f25cd2ca1840884891b63e41de4eb2f3050", func := "entail/entaillaw15.SessErrors", spec := "sessErrors", unfollowed := true, recurses := true, apart := false, narrowed := true }
def SessErrorsUptoSaid : Prop := sessErrorsUptoRow.holds Try.pinned (OpenSpec.upto sessErrorsSpec)

end Rows
end Go.Proofs.Ytkkhgdmmbhpckaa
