/-
  No cell of these rows narrows 'for every input' (looked for: loops, veiled, ifaces, maps, wideKeys, modest, calm, conditions, laid).
  DERIVED. THE GIVEN ROWS OF THIS SEAT. 11 by the template 'for every input the law returns true; each argument reads behind the call as it read before'; 0 by the template 'total and deterministic' (their statements: YtckfjfnkombelaaTotals.lean).
  GIVEN WITH THE SEED: the statements are not yours to turn. If you find one false, say at which input.
  Laid BY PROGRAM, IN A SANDBOX (cutbox-rows.mjs): the forced cells as the released guide's own fill.sh prints them over the translation 21e4f9dbeb717a60… (all of the seat's roots in one cut). By AI agents, Wed Nov 11 2026. No macro, syntax, notation, axiom, sorry.
-/
import Derived.Test.YtckfjfnkombelaaChecked
import GoSem.Claim
import GoSem.ClaimJoined
import GoSem.ClaimMapViews
import Derived.JoinedTies
import Derived.KernelRfl
namespace Go.Proofs.Ytckfjfnkombelaa
/- THE CELL 'sum', in the pinned program and in every row, IS THE sha256 OF THE DUMP (.gsa) THAT YtckfjfnkombelaaProg.lean LOADS. Nothing in Lean hashes anything: it is a label: what it is worth is what the hold of that sum in a sandbox is worth. -/
noncomputable def Try.pinned : Pinned := { name := "ytckfjfnkombelaa", sum := "21e4f9dbeb717a6041f4c72dde59f1fc5c8bc4d72704d4e81c86ca6dba887221", checked := Try.checked }
namespace Rows
def none {H : Type} : Left H := { results := [], args := [] }

/-- 'nameplatelaw20.SearchEach': WHATEVER THE INPUT: true; the input reads as it did. -/
def searchEachSpec : ChangeSpec := { name := "searchEach", fn := fun _ => fun
  | [d1, d2] => { results := [.lit (.bool true)], args := [d1, d2] }
  | _ => none }
def searchEachRow : OpenClaim := { program := "ytckfjfnkombelaa", sum := "21e4f9dbeb717a6041f4c72dde59f1fc5c8bc4d72704d4e81c86ca6dba887221", func := "nameplate/nameplatelaw20.SearchEach", spec := "searchEach", inPlace := ["internal/abi.NoEscape"], unfollowed := true, recurses := true, plainKeys := false, apart := false }
def SearchEachSaid : Prop := searchEachRow.holds Try.pinned (OpenSpec.ofChange searchEachSpec)

/-- ITS FALSE NEIGHBOUR: 'it returns false'. Refute it at one input. -/
def searchEachWrong : ChangeSpec := { name := "searchEach", fn := fun _ => fun
  | [d1, d2] => { results := [.lit (.bool false)], args := [d1, d2] }
  | _ => none }
def SearchEachWrongFalsely : Prop := searchEachRow.holds Try.pinned (OpenSpec.ofChange searchEachWrong)

/-- 'nameplatelaw20.SearchDots': WHATEVER THE INPUT: true; the input reads as it did. -/
def searchDotsSpec : ChangeSpec := { name := "searchDots", fn := fun _ => fun
  | [d1, d2] => { results := [.lit (.bool true)], args := [d1, d2] }
  | _ => none }
def searchDotsRow : OpenClaim := { program := "ytckfjfnkombelaa", sum := "21e4f9dbeb717a6041f4c72dde59f1fc5c8bc4d72704d4e81c86ca6dba887221", func := "nameplate/nameplatelaw20.SearchDots", spec := "searchDots", inPlace := ["internal/abi.NoEscape"], unfollowed := true, recurses := true, plainKeys := false, apart := false }
def SearchDotsSaid : Prop := searchDotsRow.holds Try.pinned (OpenSpec.ofChange searchDotsSpec)

/-- ITS FALSE NEIGHBOUR: 'it returns false'. Refute it at one input. -/
def searchDotsWrong : ChangeSpec := { name := "searchDots", fn := fun _ => fun
  | [d1, d2] => { results := [.lit (.bool false)], args := [d1, d2] }
  | _ => none }
def SearchDotsWrongFalsely : Prop := searchDotsRow.holds Try.pinned (OpenSpec.ofChange searchDotsWrong)

/-- 'nameplatelaw21.ChaseRest': WHATEVER THE INPUT: true; the input reads as it did. -/
def chaseRestSpec : ChangeSpec := { name := "chaseRest", fn := fun _ => fun
  | [d1, d2, d3] => { results := [.lit (.bool true)], args := [d1, d2, d3] }
  | _ => none }
def chaseRestRow : OpenClaim := { program := "ytckfjfnkombelaa", sum := "21e4f9dbeb717a6041f4c72dde59f1fc5c8bc4d72704d4e81c86ca6dba887221", func := "nameplate/nameplatelaw21.ChaseRest", spec := "chaseRest", inPlace := ["internal/bytealg.abigen_runtime_cmpstring", "internal/abi.NoEscape"], unfollowed := true, recurses := true, plainKeys := false, apart := false }
def ChaseRestSaid : Prop := chaseRestRow.holds Try.pinned (OpenSpec.ofChange chaseRestSpec)

/-- ITS FALSE NEIGHBOUR: 'it returns false'. Refute it at one input. -/
def chaseRestWrong : ChangeSpec := { name := "chaseRest", fn := fun _ => fun
  | [d1, d2, d3] => { results := [.lit (.bool false)], args := [d1, d2, d3] }
  | _ => none }
def ChaseRestWrongFalsely : Prop := chaseRestRow.holds Try.pinned (OpenSpec.ofChange chaseRestWrong)

/-- 'nameplatelaw18.IndexFinds': WHATEVER THE INPUT: true; the input reads as it did. -/
def indexFindsSpec : ChangeSpec := { name := "indexFinds", fn := fun _ => fun
  | [d1, d2, d3] => { results := [.lit (.bool true)], args := [d1, d2, d3] }
  | _ => none }
def indexFindsRow : OpenClaim := { program := "ytckfjfnkombelaa", sum := "21e4f9dbeb717a6041f4c72dde59f1fc5c8bc4d72704d4e81c86ca6dba887221", func := "nameplate/nameplatelaw18.IndexFinds", spec := "indexFinds", inPlace := ["internal/bytealg.abigen_runtime_cmpstring", "internal/abi.NoEscape"], unfollowed := true, recurses := true, plainKeys := false, apart := false }
def IndexFindsSaid : Prop := indexFindsRow.holds Try.pinned (OpenSpec.ofChange indexFindsSpec)

/-- ITS FALSE NEIGHBOUR: 'it returns false'. Refute it at one input. -/
def indexFindsWrong : ChangeSpec := { name := "indexFinds", fn := fun _ => fun
  | [d1, d2, d3] => { results := [.lit (.bool false)], args := [d1, d2, d3] }
  | _ => none }
def IndexFindsWrongFalsely : Prop := indexFindsRow.holds Try.pinned (OpenSpec.ofChange indexFindsWrong)

/-- 'nameplatelaw21.ChaseEnds': WHATEVER THE INPUT: true; the input reads as it did. -/
def chaseEndsSpec : ChangeSpec := { name := "chaseEnds", fn := fun _ => fun
  | [d1, d2] => { results := [.lit (.bool true)], args := [d1, d2] }
  | _ => none }
def chaseEndsRow : OpenClaim := { program := "ytckfjfnkombelaa", sum := "21e4f9dbeb717a6041f4c72dde59f1fc5c8bc4d72704d4e81c86ca6dba887221", func := "nameplate/nameplatelaw21.ChaseEnds", spec := "chaseEnds", inPlace := ["internal/bytealg.abigen_runtime_cmpstring", "internal/abi.NoEscape"], unfollowed := true, recurses := true, plainKeys := false, apart := false }
def ChaseEndsSaid : Prop := chaseEndsRow.holds Try.pinned (OpenSpec.ofChange chaseEndsSpec)

/-- ITS FALSE NEIGHBOUR: 'it returns false'. Refute it at one input. -/
def chaseEndsWrong : ChangeSpec := { name := "chaseEnds", fn := fun _ => fun
  | [d1, d2] => { results := [.lit (.bool false)], args := [d1, d2] }
  | _ => none }
def ChaseEndsWrongFalsely : Prop := chaseEndsRow.holds Try.pinned (OpenSpec.ofChange chaseEndsWrong)

/-- 'nameplatelaw21.ChaseCase': WHATEVER THE INPUT: true; the input reads as it did. -/
def chaseCaseSpec : ChangeSpec := { name := "chaseCase", fn := fun _ => fun
  | [d1, d2] => { results := [.lit (.bool true)], args := [d1, d2] }
  | _ => none }
def chaseCaseRow : OpenClaim := { program := "ytckfjfnkombelaa", sum := "21e4f9dbeb717a6041f4c72dde59f1fc5c8bc4d72704d4e81c86ca6dba887221", func := "nameplate/nameplatelaw21.ChaseCase", spec := "chaseCase", inPlace := ["internal/bytealg.abigen_runtime_cmpstring", "internal/abi.NoEscape"], unfollowed := true, recurses := true, plainKeys := false, apart := false }
def ChaseCaseSaid : Prop := chaseCaseRow.holds Try.pinned (OpenSpec.ofChange chaseCaseSpec)

/-- ITS FALSE NEIGHBOUR: 'it returns false'. Refute it at one input. -/
def chaseCaseWrong : ChangeSpec := { name := "chaseCase", fn := fun _ => fun
  | [d1, d2] => { results := [.lit (.bool false)], args := [d1, d2] }
  | _ => none }
def ChaseCaseWrongFalsely : Prop := chaseCaseRow.holds Try.pinned (OpenSpec.ofChange chaseCaseWrong)

/-- 'nameplatelaw18.IndexNames': WHATEVER THE INPUT: true; the input reads as it did. -/
def indexNamesSpec : ChangeSpec := { name := "indexNames", fn := fun _ => fun
  | [] => { results := [.lit (.bool true)], args := [] }
  | _ => none }
def indexNamesRow : OpenClaim := { program := "ytckfjfnkombelaa", sum := "21e4f9dbeb717a6041f4c72dde59f1fc5c8bc4d72704d4e81c86ca6dba887221", func := "nameplate/nameplatelaw18.IndexNames", spec := "indexNames", inPlace := ["internal/bytealg.abigen_runtime_cmpstring", "internal/abi.NoEscape"], unfollowed := true, recurses := true, plainKeys := false, apart := false }
def IndexNamesSaid : Prop := indexNamesRow.holds Try.pinned (OpenSpec.ofChange indexNamesSpec)

/-- ITS FALSE NEIGHBOUR: 'it returns false'. Refute it at one input. -/
def indexNamesWrong : ChangeSpec := { name := "indexNames", fn := fun _ => fun
  | [] => { results := [.lit (.bool false)], args := [] }
  | _ => none }
def IndexNamesWrongFalsely : Prop := indexNamesRow.holds Try.pinned (OpenSpec.ofChange indexNamesWrong)

/-- 'nameplatelaw18.IndexOrder': WHATEVER THE INPUT: true; the input reads as it did. -/
def indexOrderSpec : ChangeSpec := { name := "indexOrder", fn := fun _ => fun
  | [d1, d2, d3, d4, d5] => { results := [.lit (.bool true)], args := [d1, d2, d3, d4, d5] }
  | _ => none }
def indexOrderRow : OpenClaim := { program := "ytckfjfnkombelaa", sum := "21e4f9dbeb717a6041f4c72dde59f1fc5c8bc4d72704d4e81c86ca6dba887221", func := "nameplate/nameplatelaw18.IndexOrder", spec := "indexOrder", inPlace := ["internal/bytealg.abigen_runtime_cmpstring", "internal/abi.NoEscape"], unfollowed := true, recurses := true, plainKeys := false, apart := false }
def IndexOrderSaid : Prop := indexOrderRow.holds Try.pinned (OpenSpec.ofChange indexOrderSpec)

/-- ITS FALSE NEIGHBOUR: 'it returns false'. Refute it at one input. -/
def indexOrderWrong : ChangeSpec := { name := "indexOrder", fn := fun _ => fun
  | [d1, d2, d3, d4, d5] => { results := [.lit (.bool false)], args := [d1, d2, d3, d4, d5] }
  | _ => none }
def IndexOrderWrongFalsely : Prop := indexOrderRow.holds Try.pinned (OpenSpec.ofChange indexOrderWrong)

/-- 'nameplatelaw21.ChaseNames': WHATEVER THE INPUT: true; the input reads as it did. -/
def chaseNamesSpec : ChangeSpec := { name := "chaseNames", fn := fun _ => fun
  | [] => { results := [.lit (.bool true)], args := [] }
  | _ => none }
def chaseNamesRow : OpenClaim := { program := "ytckfjfnkombelaa", sum := "21e4f9dbeb717a6041f4c72dde59f1fc5c8bc4d72704d4e81c86ca6dba887221", func := "nameplate/nameplatelaw21.ChaseNames", spec := "chaseNames", inPlace := ["internal/bytealg.abigen_runtime_cmpstring", "internal/abi.NoEscape"], unfollowed := true, recurses := true, plainKeys := false, apart := false }
def ChaseNamesSaid : Prop := chaseNamesRow.holds Try.pinned (OpenSpec.ofChange chaseNamesSpec)

/-- ITS FALSE NEIGHBOUR: 'it returns false'. Refute it at one input. -/
def chaseNamesWrong : ChangeSpec := { name := "chaseNames", fn := fun _ => fun
  | [] => { results := [.lit (.bool false)], args := [] }
  | _ => none }
def ChaseNamesWrongFalsely : Prop := chaseNamesRow.holds Try.pinned (OpenSpec.ofChange chaseNamesWrong)

/-- 'nameplatelaw20.SearchNames': WHATEVER THE INPUT: true; the input reads as it did. -/
def searchNamesSpec : ChangeSpec := { name := "searchNames", fn := fun _ => fun
  | [] => { results := [.lit (.bool true)], args := [] }
  | _ => none }
def searchNamesRow : OpenClaim := { program := "ytckfjfnkombelaa", sum := "21e4f9dbeb717a6041f4c72dde59f1fc5c8bc4d72704d4e81c86ca6dba887221", func := "nameplate/nameplatelaw20.SearchNames", spec := "searchNames", inPlace := ["internal/abi.NoEscape", "internal/bytealg.abigen_runtime_cmpstring"], unfollowed := true, recurses := true, plainKeys := false, apart := false }
def SearchNamesSaid : Prop := searchNamesRow.holds Try.pinned (OpenSpec.ofChange searchNamesSpec)

/-- ITS FALSE NEIGHBOUR: 'it returns false'. Refute it at one input. -/
def searchNamesWrong : ChangeSpec := { name := "searchNames", fn := fun _ => fun
  | [] => { results := [.lit (.bool false)], args := [] }
  | _ => none }
def SearchNamesWrongFalsely : Prop := searchNamesRow.holds Try.pinned (OpenSpec.ofChange searchNamesWrong)

/-- 'nameplatelaw20.SearchFirst': WHATEVER THE INPUT: true; the input reads as it did. -/
def searchFirstSpec : ChangeSpec := { name := "searchFirst", fn := fun _ => fun
  | [d1, d2, d3] => { results := [.lit (.bool true)], args := [d1, d2, d3] }
  | _ => none }
def searchFirstRow : OpenClaim := { program := "ytckfjfnkombelaa", sum := "21e4f9dbeb717a6041f4c72dde59f1fc5c8bc4d72704d4e81c86ca6dba887221", func := "nameplate/nameplatelaw20.SearchFirst", spec := "searchFirst", inPlace := ["internal/abi.NoEscape", "internal/bytealg.abigen_runtime_cmpstring"], unfollowed := true, recurses := true, plainKeys := false, apart := false }
def SearchFirstSaid : Prop := searchFirstRow.holds Try.pinned (OpenSpec.ofChange searchFirstSpec)

/-- ITS FALSE NEIGHBOUR: 'it returns false'. Refute it at one input. -/
def searchFirstWrong : ChangeSpec := { name := "searchFirst", fn := fun _ => fun
  | [d1, d2, d3] => { results := [.lit (.bool false)], args := [d1, d2, d3] }
  | _ => none }
def SearchFirstWrongFalsely : Prop := searchFirstRow.holds Try.pinned (OpenSpec.ofChange searchFirstWrong)

/- THE SECOND FORM. 'bulk': how many values and letters a reading holds, each counted each time it is reached (what is shared counts as often as it is met; a slice's spare places count too). A statement '..UptoSaid' is the law's where the arguments, and the package variables that the reading takes, are together of bulk at most 1048576: NARROWER than '..Said'. Prove '..Said' where nothing that the law and all that it calls make is longer than what came in: it says more and counts as full. Else prove '..UptoSaid'. A law counts once. -/
mutual
def uptoBulk {H : Type} : DataW H → Nat
  | .lit (.string bytes) => bytes.length + 1
  | .lit _ => 1
  | .nil => 1
  | .ptr d => uptoBulk d + 1
  | .slice elems spare => uptoBulkAll elems + uptoBulkAll spare + 1
  | .agg parts => uptoBulkAll parts + 1
  | .iface _ d => uptoBulk d + 1
  | .map entries => uptoBulkEntries entries + 1
  | .held _ => 1
def uptoBulkAll {H : Type} : List (DataW H) → Nat
  | [] => 0
  | d :: r => uptoBulk d + uptoBulkAll r
def uptoBulkEntries {H : Type} : List (Lit × DataW H) → Nat
  | [] => 0
  | x :: r => uptoBulkEntry x + uptoBulkEntries r
def uptoBulkEntry {H : Type} : Lit × DataW H → Nat
  | (.string bytes, d) => bytes.length + uptoBulk d + 1
  | (_, d) => uptoBulk d + 1
 end
def uptoSmall : (H : Type) → List (DataW H) → Bool := fun _ ds => decide (uptoBulkAll ds ≤ 1048576)
def OpenSpec.upto (s : _root_.Go.ChangeSpec) : _root_.Go.OpenSpec := { _root_.Go.OpenSpec.ofChange s with cond := some uptoSmall }

/-- 'nameplatelaw20.SearchEach', WHERE WHAT IT READS IS OF BULK AT MOST 1048576: true; the input reads as it did. -/
def searchEachUptoRow : OpenClaim := { program := "ytckfjfnkombelaa", sum := "21e4f9dbeb717a6041f4c72dde59f1fc5c8bc4d72704d4e81c86ca6dba887221", func := "nameplate/nameplatelaw20.SearchEach", spec := "searchEach", inPlace := ["internal/abi.NoEscape"], unfollowed := true, recurses := true, plainKeys := false, apart := false, narrowed := true }
def SearchEachUptoSaid : Prop := searchEachUptoRow.holds Try.pinned (OpenSpec.upto searchEachSpec)

/-- 'nameplatelaw20.SearchDots', WHERE WHAT IT READS IS OF BULK AT MOST 1048576: true; the input reads as it did. -/
def searchDotsUptoRow : OpenClaim := { program := "ytckfjfnkombelaa", sum := "21e4f9dbeb717a6041f4c72dde59f1fc5c8bc4d72704d4e81c86ca6dba887221", func := "nameplate/nameplatelaw20.SearchDots", spec := "searchDots", inPlace := ["internal/abi.NoEscape"], unfollowed := true, recurses := true, plainKeys := false, apart := false, narrowed := true }
def SearchDotsUptoSaid : Prop := searchDotsUptoRow.holds Try.pinned (OpenSpec.upto searchDotsSpec)

/-- 'nameplatelaw21.ChaseRest', WHERE WHAT IT READS IS OF BULK AT MOST 1048576: true; the input reads as it did. -/
def chaseRestUptoRow : OpenClaim := { program := "ytckfjfnkombelaa", sum := "21e4f9dbeb717a6041f4c72dde59f1fc5c8bc4d72704d4e81c86ca6dba887221", func := "nameplate/nameplatelaw21.ChaseRest", spec := "chaseRest", inPlace := ["internal/bytealg.abigen_runtime_cmpstring", "internal/abi.NoEscape"], unfollowed := true, recurses := true, plainKeys := false, apart := false, narrowed := true }
def ChaseRestUptoSaid : Prop := chaseRestUptoRow.holds Try.pinned (OpenSpec.upto chaseRestSpec)

/-- 'nameplatelaw18.IndexFinds', WHERE WHAT IT READS IS OF BULK AT MOST 1048576: true; the input reads as it did. -/
def indexFindsUptoRow : OpenClaim := { program := "ytckfjfnkombelaa", sum := "21e4f9dbeb717a6041f4c72dde59f1fc5c8bc4d72704d4e81c86ca6dba887221", func := "nameplate/nameplatelaw18.IndexFinds", spec := "indexFinds", inPlace := ["internal/bytealg.abigen_runtime_cmpstring", "internal/abi.NoEscape"], unfollowed := true, recurses := true, plainKeys := false, apart := false, narrowed := true }
def IndexFindsUptoSaid : Prop := indexFindsUptoRow.holds Try.pinned (OpenSpec.upto indexFindsSpec)

/-- 'nameplatelaw21.ChaseEnds', WHERE WHAT IT READS IS OF BULK AT MOST 1048576: true; the input reads as it did. -/
def chaseEndsUptoRow : OpenClaim := { program := "ytckfjfnkombelaa", sum := "21e4f9dbeb717a6041f4c72dde59f1fc5c8bc4d72704d4e81c86ca6dba887221", func := "nameplate/nameplatelaw21.ChaseEnds", spec := "chaseEnds", inPlace := ["internal/bytealg.abigen_runtime_cmpstring", "internal/abi.NoEscape"], unfollowed := true, recurses := true, plainKeys := false, apart := false, narrowed := true }
def ChaseEndsUptoSaid : Prop := chaseEndsUptoRow.holds Try.pinned (OpenSpec.upto chaseEndsSpec)

/-- 'nameplatelaw21.ChaseCase', WHERE WHAT IT READS IS OF BULK AT MOST 1048576: true; the input reads as it did. -/
def chaseCaseUptoRow : OpenClaim := { program := "ytckfjfnkombelaa", sum := "21e4f9dbeb717a6041f4c72dde59f1fc5c8bc4d72704d4e81c86ca6dba887221", func := "nameplate/nameplatelaw21.ChaseCase", spec := "chaseCase", inPlace := ["internal/bytealg.abigen_runtime_cmpstring", "internal/abi.NoEscape"], unfollowed := true, recurses := true, plainKeys := false, apart := false, narrowed := true }
def ChaseCaseUptoSaid : Prop := chaseCaseUptoRow.holds Try.pinned (OpenSpec.upto chaseCaseSpec)

/-- 'nameplatelaw18.IndexNames', WHERE WHAT IT READS IS OF BULK AT MOST 1048576: true; the input reads as it did. -/
def indexNamesUptoRow : OpenClaim := { program := "ytckfjfnkombelaa", sum := "21e4f9dbeb717a6041f4c72dde59f1fc5c8bc4d72704d4e81c86ca6dba887221", func := "nameplate/nameplatelaw18.IndexNames", spec := "indexNames", inPlace := ["internal/bytealg.abigen_runtime_cmpstring", "internal/abi.NoEscape"], unfollowed := true, recurses := true, plainKeys := false, apart := false, narrowed := true }
def IndexNamesUptoSaid : Prop := indexNamesUptoRow.holds Try.pinned (OpenSpec.upto indexNamesSpec)

/-- 'nameplatelaw18.IndexOrder', WHERE WHAT IT READS IS OF BULK AT MOST 1048576: true; the input reads as it did. -/
def indexOrderUptoRow : OpenClaim := { program := "ytckfjfnkombelaa", sum := "21e4f9dbeb717a6041f4c72dde59f1fc5c8bc4d72704d4e81c86ca6dba887221", func := "nameplate/nameplatelaw18.IndexOrder", spec := "indexOrder", inPlace := ["internal/bytealg.abigen_runtime_cmpstring", "internal/abi.NoEscape"], unfollowed := true, recurses := true, plainKeys := false, apart := false, narrowed := true }
def IndexOrderUptoSaid : Prop := indexOrderUptoRow.holds Try.pinned (OpenSpec.upto indexOrderSpec)

/-- 'nameplatelaw21.ChaseNames', WHERE WHAT IT READS IS OF BULK AT MOST 1048576: true; the input reads as it did. -/
def chaseNamesUptoRow : OpenClaim := { program := "ytckfjfnkombelaa", sum := "21e4f9dbeb717a6041f4c72dde59f1fc5c8bc4d72704d4e81c86ca6dba887221", func := "nameplate/nameplatelaw21.ChaseNames", spec := "chaseNames", inPlace := ["internal/bytealg.abigen_runtime_cmpstring", "internal/abi.NoEscape"], unfollowed := true, recurses := true, plainKeys := false, apart := false, narrowed := true }
def ChaseNamesUptoSaid : Prop := chaseNamesUptoRow.holds Try.pinned (OpenSpec.upto chaseNamesSpec)

/-- 'nameplatelaw20.SearchNames', WHERE WHAT IT READS IS OF BULK AT MOST 1048576: true; the input reads as it did. -/
def searchNamesUptoRow : OpenClaim := { program := "ytckfjfnkombelaa", sum := "21e4f9dbeb717a6041f4c72dde59f1fc5c8bc4d72704d4e81c86ca6dba887221", func := "nameplate/nameplatelaw20.SearchNames", spec := "searchNames", inPlace := ["internal/abi.NoEscape", "internal/bytealg.abigen_runtime_cmpstring"], unfollowed := true, recurses := true, plainKeys := false, apart := false, narrowed := true }
def SearchNamesUptoSaid : Prop := searchNamesUptoRow.holds Try.pinned (OpenSpec.upto searchNamesSpec)

/-- 'nameplatelaw20.SearchFirst', WHERE WHAT IT READS IS OF BULK AT MOST 1048576: true; the input reads as it did. -/
def searchFirstUptoRow : OpenClaim := { program := "ytckfjfnkombelaa", sum := "21e4f9dbeb717a6041f4c72dde59f1fc5c8bc4d72704d4e81c86ca6dba887221", func := "nameplate/nameplatelaw20.SearchFirst", spec := "searchFirst", inPlace := ["internal/abi.NoEscape", "internal/bytealg.abigen_runtime_cmpstring"], unfollowed := true, recurses := true, plainKeys := false, apart := false, narrowed := true }
def SearchFirstUptoSaid : Prop := searchFirstUptoRow.holds Try.pinned (OpenSpec.upto searchFirstSpec)

end Rows
end Go.Proofs.Ytckfjfnkombelaa
