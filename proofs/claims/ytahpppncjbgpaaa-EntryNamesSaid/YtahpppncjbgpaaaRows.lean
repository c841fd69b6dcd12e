/-
  No cell of these rows narrows 'for every input' (looked for: loops, veiled, ifaces, maps, wideKeys, modest, calm, conditions, laid).
  DERIVED. THE GIVEN ROWS OF THIS SEAT. 10 by the template 'for every input the law returns true; each argument reads behind the call as it read before'; 0 by the template 'total and deterministic' (their statements: YtahpppncjbgpaaaTotals.lean).
  GIVEN WITH THE SEED: the statements are not yours to turn. If you find one false, say at which input.
  Laid BY PROGRAM, IN A SANDBOX (cutbox-rows.mjs): the forced cells as the released guide's own fill.sh prints them over the translation 20d27a5feca6020c… (all of the seat's roots in one cut). By AI agents, Wed Nov 11 2026. No macro, syntax, notation, axiom, sorry.
-/
import Derived.Test.YtahpppncjbgpaaaChecked
import GoSem.Claim
import GoSem.ClaimJoined
import GoSem.ClaimMapViews
import Derived.JoinedTies
import Derived.KernelRfl
namespace Go.Proofs.Ytahpppncjbgpaaa
/- THE CELL 'sum', in the pinned program and in every row, IS THE sha256 OF THE DUMP (.gsa) THAT YtahpppncjbgpaaaProg.lean LOADS. Nothing in Lean hashes anything: it is a label: what it is worth is what the hold of that sum in a sandbox is worth. -/
noncomputable def Try.pinned : Pinned := { name := "ytahpppncjbgpaaa", sum := "20d27a5feca6020ca1f1e9ed8eb99ca5abb108dcfb7924ac748aa0b2345cdee2", checked := Try.checked }
namespace Rows
def none {H : Type} : Left H := { results := [], args := [] }

/-- 'nameplatelaw13.HashSteps': WHATEVER THE INPUT: true; the input reads as it did. -/
def hashStepsSpec : ChangeSpec := { name := "hashSteps", fn := fun _ => fun
  | [d1, d2] => { results := [.lit (.bool true)], args := [d1, d2] }
  | _ => none }
def hashStepsRow : OpenClaim := { program := "ytahpppncjbgpaaa", sum := "20d27a5feca6020ca1f1e9ed8eb99ca5abb108dcfb7924ac748aa0b2345cdee2", func := "nameplate/nameplatelaw13.HashSteps", spec := "hashSteps", inPlace := ["internal/abi.NoEscape"], unfollowed := true, recurses := true, plainKeys := false, apart := false }
def HashStepsSaid : Prop := hashStepsRow.holds Try.pinned (OpenSpec.ofChange hashStepsSpec)

/-- ITS FALSE NEIGHBOUR: 'it returns false'. Refute it at one input. -/
def hashStepsWrong : ChangeSpec := { name := "hashSteps", fn := fun _ => fun
  | [d1, d2] => { results := [.lit (.bool false)], args := [d1, d2] }
  | _ => none }
def HashStepsWrongFalsely : Prop := hashStepsRow.holds Try.pinned (OpenSpec.ofChange hashStepsWrong)

/-- 'nameplatelaw13.HashNames': WHATEVER THE INPUT: true; the input reads as it did. -/
def hashNamesSpec : ChangeSpec := { name := "hashNames", fn := fun _ => fun
  | [] => { results := [.lit (.bool true)], args := [] }
  | _ => none }
def hashNamesRow : OpenClaim := { program := "ytahpppncjbgpaaa", sum := "20d27a5feca6020ca1f1e9ed8eb99ca5abb108dcfb7924ac748aa0b2345cdee2", func := "nameplate/nameplatelaw13.HashNames", spec := "hashNames", inPlace := ["internal/abi.NoEscape"], unfollowed := true, recurses := true, plainKeys := false, apart := false }
def HashNamesSaid : Prop := hashNamesRow.holds Try.pinned (OpenSpec.ofChange hashNamesSpec)

/-- ITS FALSE NEIGHBOUR: 'it returns false'. Refute it at one input. -/
def hashNamesWrong : ChangeSpec := { name := "hashNames", fn := fun _ => fun
  | [] => { results := [.lit (.bool false)], args := [] }
  | _ => none }
def HashNamesWrongFalsely : Prop := hashNamesRow.holds Try.pinned (OpenSpec.ofChange hashNamesWrong)

/-- 'nameplatelaw13.HashCalls': WHATEVER THE INPUT: true; the input reads as it did. -/
def hashCallsSpec : ChangeSpec := { name := "hashCalls", fn := fun _ => fun
  | [d1, d2, d3, d4] => { results := [.lit (.bool true)], args := [d1, d2, d3, d4] }
  | _ => none }
def hashCallsRow : OpenClaim := { program := "ytahpppncjbgpaaa", sum := "20d27a5feca6020ca1f1e9ed8eb99ca5abb108dcfb7924ac748aa0b2345cdee2", func := "nameplate/nameplatelaw13.HashCalls", spec := "hashCalls", inPlace := ["internal/abi.NoEscape"], unfollowed := true, recurses := true, plainKeys := false, apart := false }
def HashCallsSaid : Prop := hashCallsRow.holds Try.pinned (OpenSpec.ofChange hashCallsSpec)

/-- ITS FALSE NEIGHBOUR: 'it returns false'. Refute it at one input. -/
def hashCallsWrong : ChangeSpec := { name := "hashCalls", fn := fun _ => fun
  | [d1, d2, d3, d4] => { results := [.lit (.bool false)], args := [d1, d2, d3, d4] }
  | _ => none }
def HashCallsWrongFalsely : Prop := hashCallsRow.holds Try.pinned (OpenSpec.ofChange hashCallsWrong)

/-- 'nameplatelaw13.HashProbes': WHATEVER THE INPUT: true; the input reads as it did. -/
def hashProbesSpec : ChangeSpec := { name := "hashProbes", fn := fun _ => fun
  | [d1, d2, d3] => { results := [.lit (.bool true)], args := [d1, d2, d3] }
  | _ => none }
def hashProbesRow : OpenClaim := { program := "ytahpppncjbgpaaa", sum := "20d27a5feca6020ca1f1e9ed8eb99ca5abb108dcfb7924ac748aa0b2345cdee2", func := "nameplate/nameplatelaw13.HashProbes", spec := "hashProbes", inPlace := ["internal/abi.NoEscape"], unfollowed := true, recurses := true, plainKeys := false, apart := false }
def HashProbesSaid : Prop := hashProbesRow.holds Try.pinned (OpenSpec.ofChange hashProbesSpec)

/-- ITS FALSE NEIGHBOUR: 'it returns false'. Refute it at one input. -/
def hashProbesWrong : ChangeSpec := { name := "hashProbes", fn := fun _ => fun
  | [d1, d2, d3] => { results := [.lit (.bool false)], args := [d1, d2, d3] }
  | _ => none }
def HashProbesWrongFalsely : Prop := hashProbesRow.holds Try.pinned (OpenSpec.ofChange hashProbesWrong)

/-- 'nameplatelaw13.HashSame': WHATEVER THE INPUT: true; the input reads as it did. -/
def hashSameSpec : ChangeSpec := { name := "hashSame", fn := fun _ => fun
  | [d1, d2, d3, d4, d5] => { results := [.lit (.bool true)], args := [d1, d2, d3, d4, d5] }
  | _ => none }
def hashSameRow : OpenClaim := { program := "ytahpppncjbgpaaa", sum := "20d27a5feca6020ca1f1e9ed8eb99ca5abb108dcfb7924ac748aa0b2345cdee2", func := "nameplate/nameplatelaw13.HashSame", spec := "hashSame", inPlace := ["internal/abi.NoEscape", "internal/bytealg.abigen_runtime_cmpstring"], unfollowed := true, recurses := true, plainKeys := false, apart := false }
def HashSameSaid : Prop := hashSameRow.holds Try.pinned (OpenSpec.ofChange hashSameSpec)

/-- ITS FALSE NEIGHBOUR: 'it returns false'. Refute it at one input. -/
def hashSameWrong : ChangeSpec := { name := "hashSame", fn := fun _ => fun
  | [d1, d2, d3, d4, d5] => { results := [.lit (.bool false)], args := [d1, d2, d3, d4, d5] }
  | _ => none }
def HashSameWrongFalsely : Prop := hashSameRow.holds Try.pinned (OpenSpec.ofChange hashSameWrong)

/-- 'nameplatelaw16.EntryRecords': WHATEVER THE INPUT: true; the input reads as it did. -/
def entryRecordsSpec : ChangeSpec := { name := "entryRecords", fn := fun _ => fun
  | [d1, d2, d3, d4, d5] => { results := [.lit (.bool true)], args := [d1, d2, d3, d4, d5] }
  | _ => none }
def entryRecordsRow : OpenClaim := { program := "ytahpppncjbgpaaa", sum := "20d27a5feca6020ca1f1e9ed8eb99ca5abb108dcfb7924ac748aa0b2345cdee2", func := "nameplate/nameplatelaw16.EntryRecords", spec := "entryRecords", unfollowed := true, recurses := true, plainKeys := false, apart := false }
def EntryRecordsSaid : Prop := entryRecordsRow.holds Try.pinned (OpenSpec.ofChange entryRecordsSpec)

/-- ITS FALSE NEIGHBOUR: 'it returns false'. Refute it at one input. -/
def entryRecordsWrong : ChangeSpec := { name := "entryRecords", fn := fun _ => fun
  | [d1, d2, d3, d4, d5] => { results := [.lit (.bool false)], args := [d1, d2, d3, d4, d5] }
  | _ => none }
def EntryRecordsWrongFalsely : Prop := entryRecordsRow.holds Try.pinned (OpenSpec.ofChange entryRecordsWrong)

/-- 'nameplatelaw16.EntryFolds': WHATEVER THE INPUT: true; the input reads as it did. -/
def entryFoldsSpec : ChangeSpec := { name := "entryFolds", fn := fun _ => fun
  | [d1, d2, d3, d4] => { results := [.lit (.bool true)], args := [d1, d2, d3, d4] }
  | _ => none }
def entryFoldsRow : OpenClaim := { program := "ytahpppncjbgpaaa", sum := "20d27a5feca6020ca1f1e9ed8eb99ca5abb108dcfb7924ac748aa0b2345cdee2", func := "nameplate/nameplatelaw16.EntryFolds", spec := "entryFolds", inPlace := ["internal/abi.NoEscape"], unfollowed := true, recurses := true, plainKeys := false, apart := false }
def EntryFoldsSaid : Prop := entryFoldsRow.holds Try.pinned (OpenSpec.ofChange entryFoldsSpec)

/-- ITS FALSE NEIGHBOUR: 'it returns false'. Refute it at one input. -/
def entryFoldsWrong : ChangeSpec := { name := "entryFolds", fn := fun _ => fun
  | [d1, d2, d3, d4] => { results := [.lit (.bool false)], args := [d1, d2, d3, d4] }
  | _ => none }
def EntryFoldsWrongFalsely : Prop := entryFoldsRow.holds Try.pinned (OpenSpec.ofChange entryFoldsWrong)

/-- 'nameplatelaw16.EntryNames': WHATEVER THE INPUT: true; the input reads as it did. -/
def entryNamesSpec : ChangeSpec := { name := "entryNames", fn := fun _ => fun
  | [] => { results := [.lit (.bool true)], args := [] }
  | _ => none }
def entryNamesRow : OpenClaim := { program := "ytahpppncjbgpaaa", sum := "20d27a5feca6020ca1f1e9ed8eb99ca5abb108dcfb7924ac748aa0b2345cdee2", func := "nameplate/nameplatelaw16.EntryNames", spec := "entryNames", inPlace := ["internal/abi.NoEscape"], unfollowed := true, recurses := true, plainKeys := false, apart := false }
def EntryNamesSaid : Prop := entryNamesRow.holds Try.pinned (OpenSpec.ofChange entryNamesSpec)

/-- ITS FALSE NEIGHBOUR: 'it returns false'. Refute it at one input. -/
def entryNamesWrong : ChangeSpec := { name := "entryNames", fn := fun _ => fun
  | [] => { results := [.lit (.bool false)], args := [] }
  | _ => none }
def EntryNamesWrongFalsely : Prop := entryNamesRow.holds Try.pinned (OpenSpec.ofChange entryNamesWrong)

/-- 'nameplatelaw16.EntryCalls': WHATEVER THE INPUT: true; the input reads as it did. -/
def entryCallsSpec : ChangeSpec := { name := "entryCalls", fn := fun _ => fun
  | [d1, d2, d3, d4, d5] => { results := [.lit (.bool true)], args := [d1, d2, d3, d4, d5] }
  | _ => none }
def entryCallsRow : OpenClaim := { program := "ytahpppncjbgpaaa", sum := "20d27a5feca6020ca1f1e9ed8eb99ca5abb108dcfb7924ac748aa0b2345cdee2", func := "nameplate/nameplatelaw16.EntryCalls", spec := "entryCalls", inPlace := ["internal/abi.NoEscape"], unfollowed := true, recurses := true, plainKeys := false, apart := false }
def EntryCallsSaid : Prop := entryCallsRow.holds Try.pinned (OpenSpec.ofChange entryCallsSpec)

/-- ITS FALSE NEIGHBOUR: 'it returns false'. Refute it at one input. -/
def entryCallsWrong : ChangeSpec := { name := "entryCalls", fn := fun _ => fun
  | [d1, d2, d3, d4, d5] => { results := [.lit (.bool false)], args := [d1, d2, d3, d4, d5] }
  | _ => none }
def EntryCallsWrongFalsely : Prop := entryCallsRow.holds Try.pinned (OpenSpec.ofChange entryCallsWrong)

/-- 'nameplatelaw16.EntryOwn': WHATEVER THE INPUT: true; the input reads as it did. -/
def entryOwnSpec : ChangeSpec := { name := "entryOwn", fn := fun _ => fun
  | [d] => { results := [.lit (.bool true)], args := [d] }
  | _ => none }
def entryOwnRow : OpenClaim := { program := "ytahpppncjbgpaaa", sum := "20d27a5feca6020ca1f1e9ed8eb99ca5abb108dcfb7924ac748aa0b2345cdee2", func := "nameplate/nameplatelaw16.EntryOwn", spec := "entryOwn", inPlace := ["internal/abi.NoEscape"], unfollowed := true, recurses := true, plainKeys := false, apart := false }
def EntryOwnSaid : Prop := entryOwnRow.holds Try.pinned (OpenSpec.ofChange entryOwnSpec)

/-- ITS FALSE NEIGHBOUR: 'it returns false'. Refute it at one input. -/
def entryOwnWrong : ChangeSpec := { name := "entryOwn", fn := fun _ => fun
  | [d] => { results := [.lit (.bool false)], args := [d] }
  | _ => none }
def EntryOwnWrongFalsely : Prop := entryOwnRow.holds Try.pinned (OpenSpec.ofChange entryOwnWrong)

/- THE SECOND FORM. 'bulk': how many values and letters a reading holds, each counted each time it is reached (what is shared counts as often as it is met; a slice's spare places count too). A statement '..UptoSaid' is the law's where the arguments, and the package variables that the reading takes, are together of bulk at most 1048576: NARROWER than '..Said'. Prove '..Said' where nothing that the law and all that it calls make is longer than what came in: it says more and counts as full. Else prove '..UptoSaid'. A law counts once. -/
mutual
def uptoBulk {H : Type} : DataW H → Nat
  | .lit (.string bytes) => bytes.length + 1
  | .lit _ => 1
  | .nil => 1
  | .ptr d => uptoBulk d + 1
  | .slice elems spare => uptoBulkAll elems + uptoBulkAll spare + 1
  | .agg parts => uptoBulkAll parts + 1
  | .iface _ d => uptoBulk d + 1
  | .map entries => uptoBulkEntries entries + 1
  | .held _ => 1
def uptoBulkAll {H : Type} : List (DataW H) → Nat
  | [] => 0
  | d :: r => uptoBulk d + uptoBulkAll r
def uptoBulkEntries {H : Type} : List (Lit × DataW H) → Nat
  | [] => 0
  | x :: r => uptoBulkEntry x + uptoBulkEntries r
def uptoBulkEntry {H : Type} : Lit × DataW H → Nat
  | (.string bytes, d) => bytes.length + uptoBulk d + 1
  | (_, d) => uptoBulk d + 1
 end
def uptoSmall : (H : Type) → List (DataW H) → Bool := fun _ ds => decide (uptoBulkAll ds ≤ 1048576)
def OpenSpec.upto (s : _root_.Go.ChangeSpec) : _root_.Go.OpenSpec := { _root_.Go.OpenSpec.ofChange s with cond := some uptoSmall }

/-- 'nameplatelaw13.HashSteps', WHERE WHAT IT READS IS OF BULK AT MOST 1048576: true; the input reads as it did. -/
def hashStepsUptoRow : OpenClaim := { program := "ytahpppncjbgpaaa", sum := "20d27a5feca6020ca1f1e9ed8eb99ca5abb108dcfb7924ac748aa0b2345cdee2", func := "nameplate/nameplatelaw13.HashSteps", spec := "hashSteps", inPlace := ["internal/abi.NoEscape"], unfollowed := true, recurses := true, plainKeys := false, apart := false, narrowed := true }
def HashStepsUptoSaid : Prop := hashStepsUptoRow.holds Try.pinned (OpenSpec.upto hashStepsSpec)

/-- 'nameplatelaw13.HashNames', WHERE WHAT IT READS IS OF BULK AT MOST 1048576: true; the input reads as it did. -/
def hashNamesUptoRow : OpenClaim := { program := "ytahpppncjbgpaaa", sum := "20d27a5feca6020ca1f1e9ed8eb99ca5abb108dcfb7924ac748aa0b2345cdee2", func := "nameplate/nameplatelaw13.HashNames", spec := "hashNames", inPlace := ["internal/abi.NoEscape"], unfollowed := true, recurses := true, plainKeys := false, apart := false, narrowed := true }
def HashNamesUptoSaid : Prop := hashNamesUptoRow.holds Try.pinned (OpenSpec.upto hashNamesSpec)

/-- 'nameplatelaw13.HashCalls', WHERE WHAT IT READS IS OF BULK AT MOST 1048576: true; the input reads as it did. -/
def hashCallsUptoRow : OpenClaim := { program := "ytahpppncjbgpaaa", sum := "20d27a5feca6020ca1f1e9ed8eb99ca5abb108dcfb7924ac748aa0b2345cdee2", func := "nameplate/nameplatelaw13.HashCalls", spec := "hashCalls", inPlace := ["internal/abi.NoEscape"], unfollowed := true, recurses := true, plainKeys := false, apart := false, narrowed := true }
def HashCallsUptoSaid : Prop := hashCallsUptoRow.holds Try.pinned (OpenSpec.upto hashCallsSpec)

/-- 'nameplatelaw13.HashProbes', WHERE WHAT IT READS IS OF BULK AT MOST 1048576: true; the input reads as it did. -/
def hashProbesUptoRow : OpenClaim := { program := "ytahpppncjbgpaaa", sum := "20d27a5feca6020ca1f1e9ed8eb99ca5abb108dcfb7924ac748aa0b2345cdee2", func := "nameplate/nameplatelaw13.HashProbes", spec := "hashProbes", inPlace := ["internal/abi.NoEscape"], unfollowed := true, recurses := true, plainKeys := false, apart := false, narrowed := true }
def HashProbesUptoSaid : Prop := hashProbesUptoRow.holds Try.pinned (OpenSpec.upto hashProbesSpec)

/-- 'nameplatelaw13.HashSame', WHERE WHAT IT READS IS OF BULK AT MOST 1048576: true; the input reads as it did. -/
def hashSameUptoRow : OpenClaim := { program := "ytahpppncjbgpaaa", sum := "20d27a5feca6020ca1f1e9ed8eb99ca5abb108dcfb7924ac748aa0b2345cdee2", func := "nameplate/nameplatelaw13.HashSame", spec := "hashSame", inPlace := ["internal/abi.NoEscape", "internal/bytealg.abigen_runtime_cmpstring"], unfollowed := true, recurses := true, plainKeys := false, apart := false, narrowed := true }
def HashSameUptoSaid : Prop := hashSameUptoRow.holds Try.pinned (OpenSpec.upto hashSameSpec)

/-- 'nameplatelaw16.EntryRecords', WHERE WHAT IT READS IS OF BULK AT MOST 1048576: true; the input reads as it did. -/
def entryRecordsUptoRow : OpenClaim := { program := "ytahpppncjbgpaaa", sum := "20d27a5feca6020ca1f1e9ed8eb99ca5abb108dcfb7924ac748aa0b2345cdee2", func := "nameplate/nameplatelaw16.EntryRecords", spec := "entryRecords", unfollowed := true, recurses := true, plainKeys := false, apart := false, narrowed := true }
def EntryRecordsUptoSaid : Prop := entryRecordsUptoRow.holds Try.pinned (OpenSpec.upto entryRecordsSpec)

/-- 'nameplatelaw16.EntryFolds', WHERE WHAT IT READS IS OF BULK AT MOST 1048576: true; the input reads as it did. -/
def entryFoldsUptoRow : OpenClaim := { program := "ytahpppncjbgpaaa", sum := "20d27a5feca6020ca1f1e9ed8eb99ca5abb108dcfb7924ac748aa0b2345cdee2", func := "nameplate/nameplatelaw16.EntryFolds", spec := "entryFolds", inPlace := ["internal/abi.NoEscape"], unfollowed := true, recurses := true, plainKeys := false, apart := false, narrowed := true }
def EntryFoldsUptoSaid : Prop := entryFoldsUptoRow.holds Try.pinned (OpenSpec.upto entryFoldsSpec)

/-- 'nameplatelaw16.EntryNames', WHERE WHAT IT READS IS OF BULK AT MOST 1048576: true; the input reads as it did. -/
def entryNamesUptoRow : OpenClaim := { program := "ytahpppncjbgpaaa", sum := "20d27a5feca6020ca1f1e9ed8eb99ca5abb108dcfb7924ac748aa0b2345cdee2", func := "nameplate/nameplatelaw16.EntryNames", spec := "entryNames", inPlace := ["internal/abi.NoEscape"], unfollowed := true, recurses := true, plainKeys := false, apart := false, narrowed := true }
def EntryNamesUptoSaid : Prop := entryNamesUptoRow.holds Try.pinned (OpenSpec.upto entryNamesSpec)

/-- 'nameplatelaw16.EntryCalls', WHERE WHAT IT READS IS OF BULK AT MOST 1048576: true; the input reads as it did. -/
def entryCallsUptoRow : OpenClaim := { program := "ytahpppncjbgpaaa", sum := "20d27a5feca6020ca1f1e9ed8eb99ca5abb108dcfb7924ac748aa0b2345cdee2", func := "nameplate/nameplatelaw16.EntryCalls", spec := "entryCalls", inPlace := ["internal/abi.NoEscape"], unfollowed := true, recurses := true, plainKeys := false, apart := false, narrowed := true }
def EntryCallsUptoSaid : Prop := entryCallsUptoRow.holds Try.pinned (OpenSpec.upto entryCallsSpec)

/-- 'nameplatelaw16.EntryOwn', WHERE WHAT IT READS IS OF BULK AT MOST 1048576: true; the input reads as it did. -/
def entryOwnUptoRow : OpenClaim := { program := "ytahpppncjbgpaaa", sum := "20d27a5feca6020ca1f1e9ed8eb99ca5abb108dcfb7924ac748aa0b2345cdee2", func := "nameplate/nameplatelaw16.EntryOwn", spec := "entryOwn", inPlace := ["internal/abi.NoEscape"], unfollowed := true, recurses := true, plainKeys := false, apart := false, narrowed := true }
def EntryOwnUptoSaid : Prop := entryOwnUptoRow.holds Try.pinned (OpenSpec.upto entryOwnSpec)

end Rows
end Go.Proofs.Ytahpppncjbgpaaa
