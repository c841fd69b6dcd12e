/-
  No cell of these rows narrows 'for every input' (looked for: loops, veiled, ifaces, maps, wideKeys, modest, calm, conditions, laid).
  DERIVED. THE GIVEN ROWS OF THIS SEAT. 6 by the template 'for every input the law returns true; each argument reads behind the call as it read before'; 0 by the template 'total and deterministic' (their statements: YtnpdgmoeoidppaaTotals.lean).
  GIVEN WITH THE SEED: the statements are not yours to turn. If you find one false, say at which input.
  Laid BY PROGRAM, IN A SANDBOX (cutbox-rows.mjs): the forced cells as the released guide's own fill.sh prints them over the translation 6381fc0a4a7bd437… (all of the seat's roots in one cut). By AI agents, Wed Nov 11 2026. No macro, syntax, notation, axiom, sorry.
-/
import Derived.Test.YtnpdgmoeoidppaaChecked
import GoSem.Claim
import GoSem.ClaimJoined
import GoSem.ClaimMapViews
import Derived.JoinedTies
import Derived.KernelRfl
namespace Go.Proofs.Ytnpdgmoeoidppaa
/- THE CELL 'sum', in the pinned program and in every row, IS THE sha256 OF THE DUMP (.gsa) THAT YtnpdgmoeoidppaaProg.lean LOADS. Nothing in Lean hashes anything: it is a label: what it is worth is what the hold of that sum in a sandbox is worth. -/
noncomputable def Try.pinned : Pinned := { name := "ytnpdgmoeoidppaa", sum := "6381fc0a4a7bd4370ff2e901cb7e86d38cbe43e0301394c061ad695715895298", checked := Try.checked }
namespace Rows
def none {H : Type} : Left H := { results := [], args := [] }

/-- 'nameplatelaw17.TableParts': WHATEVER THE INPUT: true; the input reads as it did. -/
def tablePartsSpec : ChangeSpec := { name := "tableParts", fn := fun _ => fun
  | [d1, d2, d3] => { results := [.lit (.bool true)], args := [d1, d2, d3] }
  | _ => none }
def tablePartsRow : OpenClaim := { program := "ytnpdgmoeoidppaa", sum := "6381fc0a4a7bd4370ff2e901cb7e86d38cbe43e0301394c061ad695715895298", func := "nameplate/nameplatelaw17.TableParts", spec := "tableParts", inPlace := ["internal/bytealg.abigen_runtime_cmpstring", "internal/abi.NoEscape"], unfollowed := true, recurses := true, plainKeys := false, apart := false }
def TablePartsSaid : Prop := tablePartsRow.holds Try.pinned (OpenSpec.ofChange tablePartsSpec)

/-- ITS FALSE NEIGHBOUR: 'it returns false'. Refute it at one input. -/
def tablePartsWrong : ChangeSpec := { name := "tableParts", fn := fun _ => fun
  | [d1, d2, d3] => { results := [.lit (.bool false)], args := [d1, d2, d3] }
  | _ => none }
def TablePartsWrongFalsely : Prop := tablePartsRow.holds Try.pinned (OpenSpec.ofChange tablePartsWrong)

/-- 'nameplatelaw17.TablePushes': WHATEVER THE INPUT: true; the input reads as it did. -/
def tablePushesSpec : ChangeSpec := { name := "tablePushes", fn := fun _ => fun
  | [d1, d2, d3] => { results := [.lit (.bool true)], args := [d1, d2, d3] }
  | _ => none }
def tablePushesRow : OpenClaim := { program := "ytnpdgmoeoidppaa", sum := "6381fc0a4a7bd4370ff2e901cb7e86d38cbe43e0301394c061ad695715895298", func := "nameplate/nameplatelaw17.TablePushes", spec := "tablePushes", inPlace := ["internal/bytealg.abigen_runtime_cmpstring", "internal/abi.NoEscape"], unfollowed := true, recurses := true, plainKeys := false, apart := false }
def TablePushesSaid : Prop := tablePushesRow.holds Try.pinned (OpenSpec.ofChange tablePushesSpec)

/-- ITS FALSE NEIGHBOUR: 'it returns false'. Refute it at one input. -/
def tablePushesWrong : ChangeSpec := { name := "tablePushes", fn := fun _ => fun
  | [d1, d2, d3] => { results := [.lit (.bool false)], args := [d1, d2, d3] }
  | _ => none }
def TablePushesWrongFalsely : Prop := tablePushesRow.holds Try.pinned (OpenSpec.ofChange tablePushesWrong)

/-- 'nameplatelaw17.TableDiffs': WHATEVER THE INPUT: true; the input reads as it did. -/
def tableDiffsSpec : ChangeSpec := { name := "tableDiffs", fn := fun _ => fun
  | [d1, d2, d3] => { results := [.lit (.bool true)], args := [d1, d2, d3] }
  | _ => none }
def tableDiffsRow : OpenClaim := { program := "ytnpdgmoeoidppaa", sum := "6381fc0a4a7bd4370ff2e901cb7e86d38cbe43e0301394c061ad695715895298", func := "nameplate/nameplatelaw17.TableDiffs", spec := "tableDiffs", inPlace := ["internal/bytealg.abigen_runtime_cmpstring", "internal/abi.NoEscape"], unfollowed := true, recurses := true, plainKeys := false, apart := false }
def TableDiffsSaid : Prop := tableDiffsRow.holds Try.pinned (OpenSpec.ofChange tableDiffsSpec)

/-- ITS FALSE NEIGHBOUR: 'it returns false'. Refute it at one input. -/
def tableDiffsWrong : ChangeSpec := { name := "tableDiffs", fn := fun _ => fun
  | [d1, d2, d3] => { results := [.lit (.bool false)], args := [d1, d2, d3] }
  | _ => none }
def TableDiffsWrongFalsely : Prop := tableDiffsRow.holds Try.pinned (OpenSpec.ofChange tableDiffsWrong)

/-- 'nameplatelaw17.TableNames': WHATEVER THE INPUT: true; the input reads as it did. -/
def tableNamesSpec : ChangeSpec := { name := "tableNames", fn := fun _ => fun
  | [] => { results := [.lit (.bool true)], args := [] }
  | _ => none }
def tableNamesRow : OpenClaim := { program := "ytnpdgmoeoidppaa", sum := "6381fc0a4a7bd4370ff2e901cb7e86d38cbe43e0301394c061ad695715895298", func := "nameplate/nameplatelaw17.TableNames", spec := "tableNames", inPlace := ["internal/bytealg.abigen_runtime_cmpstring", "internal/abi.NoEscape"], unfollowed := true, recurses := true, plainKeys := false, apart := false }
def TableNamesSaid : Prop := tableNamesRow.holds Try.pinned (OpenSpec.ofChange tableNamesSpec)

/-- ITS FALSE NEIGHBOUR: 'it returns false'. Refute it at one input. -/
def tableNamesWrong : ChangeSpec := { name := "tableNames", fn := fun _ => fun
  | [] => { results := [.lit (.bool false)], args := [] }
  | _ => none }
def TableNamesWrongFalsely : Prop := tableNamesRow.holds Try.pinned (OpenSpec.ofChange tableNamesWrong)

/-- 'nameplatelaw14.VipsNames': WHATEVER THE INPUT: true; the input reads as it did. -/
def vipsNamesSpec : ChangeSpec := { name := "vipsNames", fn := fun _ => fun
  | [] => { results := [.lit (.bool true)], args := [] }
  | _ => none }
def vipsNamesRow : OpenClaim := { program := "ytnpdgmoeoidppaa", sum := "6381fc0a4a7bd4370ff2e901cb7e86d38cbe43e0301394c061ad695715895298", func := "nameplate/nameplatelaw14.VipsNames", spec := "vipsNames", inPlace := ["math/bits.Add64", "internal/abi.NoEscape", "maps.clone"], unfollowed := true, recurses := true, plainKeys := false, apart := false }
def VipsNamesSaid : Prop := vipsNamesRow.holds Try.pinned (OpenSpec.ofChange vipsNamesSpec)

/-- ITS FALSE NEIGHBOUR: 'it returns false'. Refute it at one input. -/
def vipsNamesWrong : ChangeSpec := { name := "vipsNames", fn := fun _ => fun
  | [] => { results := [.lit (.bool false)], args := [] }
  | _ => none }
def VipsNamesWrongFalsely : Prop := vipsNamesRow.holds Try.pinned (OpenSpec.ofChange vipsNamesWrong)

/-- 'nameplatelaw14.VipsNil': WHATEVER THE INPUT: true; the input reads as it did. -/
def vipsNilSpec : ChangeSpec := { name := "vipsNil", fn := fun _ => fun
  | [d1, d2] => { results := [.lit (.bool true)], args := [d1, d2] }
  | _ => none }
def vipsNilRow : OpenClaim := { program := "ytnpdgmoeoidppaa", sum := "6381fc0a4a7bd4370ff2e901cb7e86d38cbe43e0301394c061ad695715895298", func := "nameplate/nameplatelaw14.VipsNil", spec := "vipsNil", inPlace := ["math/bits.Add64", "internal/abi.NoEscape", "maps.clone"], unfollowed := true, recurses := true, plainKeys := false, apart := false }
def VipsNilSaid : Prop := vipsNilRow.holds Try.pinned (OpenSpec.ofChange vipsNilSpec)

/-- ITS FALSE NEIGHBOUR: 'it returns false'. Refute it at one input. -/
def vipsNilWrong : ChangeSpec := { name := "vipsNil", fn := fun _ => fun
  | [d1, d2] => { results := [.lit (.bool false)], args := [d1, d2] }
  | _ => none }
def VipsNilWrongFalsely : Prop := vipsNilRow.holds Try.pinned (OpenSpec.ofChange vipsNilWrong)

/- THE SECOND FORM. 'bulk': how many values and letters a reading holds, each counted each time it is reached (what is shared counts as often as it is met; a slice's spare places count too). A statement '..UptoSaid' is the law's where the arguments, and the package variables that the reading takes, are together of bulk at most 1048576: NARROWER than '..Said'. Prove '..Said' where nothing that the law and all that it calls make is longer than what came in: it says more and counts as full. Else prove '..UptoSaid'. A law counts once. -/
mutual
def uptoBulk {H : Type} : DataW H → Nat
  | .lit (.string bytes) => bytes.length + 1
  | .lit _ => 1
  | .nil => 1
  | .ptr d => uptoBulk d + 1
  | .slice elems spare => uptoBulkAll elems + uptoBulkAll spare + 1
  | .agg parts => uptoBulkAll parts + 1
  | .iface _ d => uptoBulk d + 1
  | .map entries => uptoBulkEntries entries + 1
  | .held _ => 1
def uptoBulkAll {H : Type} : List (DataW H) → Nat
  | [] => 0
  | d :: r => uptoBulk d + uptoBulkAll r
def uptoBulkEntries {H : Type} : List (Lit × DataW H) → Nat
  | [] => 0
  | x :: r => uptoBulkEntry x + uptoBulkEntries r
def uptoBulkEntry {H : Type} : Lit × DataW H → Nat
  | (.string bytes, d) => bytes.length + uptoBulk d + 1
  | (_, d) => uptoBulk d + 1
 end
def uptoSmall : (H : Type) → List (DataW H) → Bool := fun _ ds => decide (uptoBulkAll ds ≤ 1048576)
def OpenSpec.upto (s : _root_.Go.ChangeSpec) : _root_.Go.OpenSpec := { _root_.Go.OpenSpec.ofChange s with cond := some uptoSmall }

/-- 'nameplatelaw17.TableParts', WHERE WHAT IT READS IS OF BULK AT MOST 1048576: true; the input reads as it did. -/
def tablePartsUptoRow : OpenClaim := { program := "ytnpdgmoeoidppaa", sum := "6381fc0a4a7bd4370ff2e901cb7e86d38cbe43e0301394c061ad695715895298", func := "nameplate/nameplatelaw17.TableParts", spec := "tableParts", inPlace := ["internal/bytealg.abigen_runtime_cmpstring", "internal/abi.NoEscape"], unfollowed := true, recurses := true, plainKeys := false, apart := false, narrowed := true }
def TablePartsUptoSaid : Prop := tablePartsUptoRow.holds Try.pinned (OpenSpec.upto tablePartsSpec)

/-- 'nameplatelaw17.TablePushes', WHERE WHAT IT READS IS OF BULK AT MOST 1048576: true; the input reads as it did. -/
def tablePushesUptoRow : OpenClaim := { program := "ytnpdgmoeoidppaa", sum := "6381fc0a4a7bd4370ff2e901cb7e86d38cbe43e0301394c061ad695715895298", func := "nameplate/nameplatelaw17.TablePushes", spec := "tablePushes", inPlace := ["internal/bytealg.abigen_runtime_cmpstring", "internal/abi.NoEscape"], unfollowed := true, recurses := true, plainKeys := false, apart := false, narrowed := true }
def TablePushesUptoSaid : Prop := tablePushesUptoRow.holds Try.pinned (OpenSpec.upto tablePushesSpec)

/-- 'nameplatelaw17.TableDiffs', WHERE WHAT IT READS IS OF BULK AT MOST 1048576: true; the input reads as it did. -/
def tableDiffsUptoRow : OpenClaim := { program := "ytnpdgmoeoidppaa", sum := "6381fc0a4a7bd4370ff2e901cb7e86d38cbe43e0301394c061ad695715895298", func := "nameplate/nameplatelaw17.TableDiffs", spec := "tableDiffs", inPlace := ["internal/bytealg.abigen_runtime_cmpstring", "internal/abi.NoEscape"], unfollowed := true, recurses := true, plainKeys := false, apart := false, narrowed := true }
def TableDiffsUptoSaid : Prop := tableDiffsUptoRow.holds Try.pinned (OpenSpec.upto tableDiffsSpec)

/-- 'nameplatelaw17.TableNames', WHERE WHAT IT READS IS OF BULK AT MOST 1048576: true; the input reads as it did. -/
def tableNamesUptoRow : OpenClaim := { program := "ytnpdgmoeoidppaa", sum := "6381fc0a4a7bd4370ff2e901cb7e86d38cbe43e0301394c061ad695715895298", func := "nameplate/nameplatelaw17.TableNames", spec := "tableNames", inPlace := ["internal/bytealg.abigen_runtime_cmpstring", "internal/abi.NoEscape"], unfollowed := true, recurses := true, plainKeys := false, apart := false, narrowed := true }
def TableNamesUptoSaid : Prop := tableNamesUptoRow.holds Try.pinned (OpenSpec.upto tableNamesSpec)

/-- 'nameplatelaw14.VipsNames', WHERE WHAT IT READS IS OF BULK AT MOST 1048576: true; the input reads as it did. -/
def vipsNamesUptoRow : OpenClaim := { program := "ytnpdgmoeoidppaa", sum := "6381fc0a4a7bd4370ff2e901cb7e86d38cbe43e0301394c061ad695715895298", func := "nameplate/nameplatelaw14.VipsNames", spec := "vipsNames", inPlace := ["math/bits.Add64", "internal/abi.NoEscape", "maps.clone"], unfollowed := true, recurses := true, plainKeys := false, apart := false, narrowed := true }
def VipsNamesUptoSaid : Prop := vipsNamesUptoRow.holds Try.pinned (OpenSpec.upto vipsNamesSpec)

/-- 'nameplatelaw14.VipsNil', WHERE WHAT IT READS IS OF BULK AT MOST 1048576: true; the input reads as it did. -/
def vipsNilUptoRow : OpenClaim := { program := "ytnpdgmoeoidppaa", sum := "6381fc0a4a7bd4370ff2e901cb7e86d38cbe43e0301394c061ad695715895298", func := "nameplate/nameplatelaw14.VipsNil", spec := "vipsNil", inPlace := ["math/bits.Add64", "internal/abi.NoEscape", "maps.clone"], unfollowed := true, recurses := true, plainKeys := false, apart := false, narrowed := true }
def VipsNilUptoSaid : Prop := vipsNilUptoRow.holds Try.pinned (OpenSpec.upto vipsNilSpec)

end Rows
end Go.Proofs.Ytnpdgmoeoidppaa
