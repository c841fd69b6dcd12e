/-
  No cell of these rows narrows 'for every input' (looked for: loops, veiled, ifaces, maps, wideKeys, modest, calm, conditions, laid).
  DERIVED. THE GIVEN ROWS OF THIS SEAT. 3 by the template 'for every input the law returns true; each argument reads behind the call as it read before'; 0 by the template 'total and deterministic' (their statements: YtckfjfnkombelaaGreatTotals.lean).
  GIVEN WITH THE SEED: the statements are not yours to turn. If you find one false, say at which input.
  Laid BY PROGRAM, IN A SANDBOX (cutbox-rows.mjs): the forced cells as the released guide's own fill.sh prints them over the translation c8e90350991f869d… (all of the seat's roots in one cut). By AI agents, Wed Nov 11 2026. No macro, syntax, notation, axiom, sorry.
-/
import Derived.Test.YtckfjfnkombelaaGreatChecked
import GoSem.Claim
import GoSem.ClaimJoined
import GoSem.ClaimMapViews
import Derived.JoinedTies
import Derived.KernelRfl
namespace Go.Proofs.YtckfjfnkombelaaGreat
/- THE CELL 'sum', in the pinned program and in every row, IS THE sha256 OF THE DUMP (.gsa) THAT YtckfjfnkombelaaGreatProg.lean LOADS. Nothing in Lean hashes anything: it is a label: what it is worth is what the hold of that sum in a sandbox is worth. -/
noncomputable def Tryz.pinned : Pinned := { name := "ytckfjfnkombelaagreat", sum := "c8e90350991f869d51fea5aabe60423da7482462eeee3c5d8bc0c370c46430e0", checked := Tryz.checked }
namespace Rows
def none {H : Type} : Left H := { results := [], args := [] }

/-- 'nameplatelaw18.IndexCalls': WHATEVER THE INPUT: true; the input reads as it did. -/
def indexCallsSpec : ChangeSpec := { name := "indexCalls", fn := fun _ => fun
  | [d1, d2, d3, d4, d5] => { results := [.lit (.bool true)], args := [d1, d2, d3, d4, d5] }
  | _ => none }
def indexCallsRow : OpenClaim := { program := "ytckfjfnkombelaagreat", sum := "c8e90350991f869d51fea5aabe60423da7482462eeee3c5d8bc0c370c46430e0", func := "nameplate/nameplatelaw18.IndexCalls", spec := "indexCalls", inPlace := ["internal/bytealg.abigen_runtime_cmpstring", "internal/abi.NoEscape"], unfollowed := true, recurses := true, plainKeys := false, apart := false }
def IndexCallsSaid : Prop := indexCallsRow.holds Tryz.pinned (OpenSpec.ofChange indexCallsSpec)

/-- ITS FALSE NEIGHBOUR: 'it returns false'. Refute it at one input. -/
def indexCallsWrong : ChangeSpec := { name := "indexCalls", fn := fun _ => fun
  | [d1, d2, d3, d4, d5] => { results := [.lit (.bool false)], args := [d1, d2, d3, d4, d5] }
  | _ => none }
def IndexCallsWrongFalsely : Prop := indexCallsRow.holds Tryz.pinned (OpenSpec.ofChange indexCallsWrong)

/-- 'nameplatelaw21.ChaseCalls': WHATEVER THE INPUT: true; the input reads as it did. -/
def chaseCallsSpec : ChangeSpec := { name := "chaseCalls", fn := fun _ => fun
  | [d1, d2, d3, d4] => { results := [.lit (.bool true)], args := [d1, d2, d3, d4] }
  | _ => none }
def chaseCallsRow : OpenClaim := { program := "ytckfjfnkombelaagreat", sum := "c8e90350991f869d51fea5aabe60423da7482462eeee3c5d8bc0c370c46430e0", func := "nameplate/nameplatelaw21.ChaseCalls", spec := "chaseCalls", inPlace := ["internal/bytealg.abigen_runtime_cmpstring", "internal/abi.NoEscape"], unfollowed := true, recurses := true, plainKeys := false, apart := false }
def ChaseCallsSaid : Prop := chaseCallsRow.holds Tryz.pinned (OpenSpec.ofChange chaseCallsSpec)

/-- ITS FALSE NEIGHBOUR: 'it returns false'. Refute it at one input. -/
def chaseCallsWrong : ChangeSpec := { name := "chaseCalls", fn := fun _ => fun
  | [d1, d2, d3, d4] => { results := [.lit (.bool false)], args := [d1, d2, d3, d4] }
  | _ => none }
def ChaseCallsWrongFalsely : Prop := chaseCallsRow.holds Tryz.pinned (OpenSpec.ofChange chaseCallsWrong)

/-- 'nameplatelaw20.SearchCalls': WHATEVER THE INPUT: true; the input reads as it did. -/
def searchCallsSpec : ChangeSpec := { name := "searchCalls", fn := fun _ => fun
  | [d1, d2, d3] => { results := [.lit (.bool true)], args := [d1, d2, d3] }
  | _ => none }
def searchCallsRow : OpenClaim := { program := "ytckfjfnkombelaagreat", sum := "c8e90350991f869d51fea5aabe60423da7482462eeee3c5d8bc0c370c46430e0", func := "nameplate/nameplatelaw20.SearchCalls", spec := "searchCalls", inPlace := ["internal/abi.NoEscape", "internal/bytealg.abigen_runtime_cmpstring"], unfollowed := true, recurses := true, plainKeys := false, apart := false }
def SearchCallsSaid : Prop := searchCallsRow.holds Tryz.pinned (OpenSpec.ofChange searchCallsSpec)

/-- ITS FALSE NEIGHBOUR: 'it returns false'. Refute it at one input. -/
def searchCallsWrong : ChangeSpec := { name := "searchCalls", fn := fun _ => fun
  | [d1, d2, d3] => { results := [.lit (.bool false)], args := [d1, d2, d3] }
  | _ => none }
def SearchCallsWrongFalsely : Prop := searchCallsRow.holds Tryz.pinned (OpenSpec.ofChange searchCallsWrong)

/- THE SECOND FORM. 'bulk': how many values and letters a reading holds, each counted each time it is reached (what is shared counts as often as it is met; a slice's spare places count too). A statement '..UptoSaid' is the law's where the arguments, and the package variables that the reading takes, are together of bulk at most 1048576: NARROWER than '..Said'. Prove '..Said' where nothing that the law and all that it calls make is longer than what came in: it says more and counts as full. Else prove '..UptoSaid'. A law counts once. -/
mutual
def uptoBulk {H : Type} : DataW H → Nat
  | .lit (.string bytes) => bytes.length + 1
  | .lit _ => 1
  | .nil => 1
  | .ptr d => uptoBulk d + 1
  | .slice elems spare => uptoBulkAll elems + uptoBulkAll spare + 1
  | .agg parts => uptoBulkAll parts + 1
  | .iface _ d => uptoBulk d + 1
  | .map entries => uptoBulkEntries entries + 1
  | .held _ => 1
def uptoBulkAll {H : Type} : List (DataW H) → Nat
  | [] => 0
  | d :: r => uptoBulk d + uptoBulkAll r
def uptoBulkEntries {H : Type} : List (Lit × DataW H) → Nat
  | [] => 0
  | x :: r => uptoBulkEntry x + uptoBulkEntries r
def uptoBulkEntry {H : Type} : Lit × DataW H → Nat
  | (.string bytes, d) => bytes.length + uptoBulk d + 1
  | (_, d) => uptoBulk d + 1
 end
def uptoSmall : (H : Type) → List (DataW H) → Bool := fun _ ds => decide (uptoBulkAll ds ≤ 1048576)
def OpenSpec.upto (s : _root_.Go.ChangeSpec) : _root_.Go.OpenSpec := { _root_.Go.OpenSpec.ofChange s with cond := some uptoSmall }

/-- 'nameplatelaw18.IndexCalls', WHERE WHAT IT READS IS OF BULK AT MOST 1048576: true; the input reads as it did. -/
def indexCallsUptoRow : OpenClaim := { program := "ytckfjfnkombelaagreat", sum := "c8e90350991f869d51fea5aabe60423da7482462eeee3c5d8bc0c370c46430e0", func := "nameplate/nameplatelaw18.IndexCalls", spec := "indexCalls", inPlace := ["internal/bytealg.abigen_runtime_cmpstring", "internal/abi.NoEscape"], unfollowed := true, recurses := true, plainKeys := false, apart := false, narrowed := true }
def IndexCallsUptoSaid : Prop := indexCallsUptoRow.holds Tryz.pinned (OpenSpec.upto indexCallsSpec)

/-- 'nameplatelaw21.ChaseCalls', WHERE WHAT IT READS IS OF BULK AT MOST 1048576: true; the input reads as it did. -/
def chaseCallsUptoRow : OpenClaim := { program := "ytckfjfnkombelaagreat", sum := "c8e90350991f869d51fea5aabe60423da7482462eeee3c5d8bc0c370c46430e0", func := "nameplate/nameplatelaw21.ChaseCalls", spec := "chaseCalls", inPlace := ["internal/bytealg.abigen_runtime_cmpstring", "internal/abi.NoEscape"], unfollowed := true, recurses := true, plainKeys := false, apart := false, narrowed := true }
def ChaseCallsUptoSaid : Prop := chaseCallsUptoRow.holds Tryz.pinned (OpenSpec.upto chaseCallsSpec)

/-- 'nameplatelaw20.SearchCalls', WHERE WHAT IT READS IS OF BULK AT MOST 1048576: true; the input reads as it did. -/
def searchCallsUptoRow : OpenClaim := { program := "ytckfjfnkombelaagreat", sum := "c8e90350991f869d51fea5aabe60423da7482462eeee3c5d8bc0c370c46430e0", func := "nameplate/nameplatelaw20.SearchCalls", spec := "searchCalls", inPlace := ["internal/abi.NoEscape", "internal/bytealg.abigen_runtime_cmpstring"], unfollowed := true, recurses := true, plainKeys := false, apart := false, narrowed := true }
def SearchCallsUptoSaid : Prop := searchCallsUptoRow.holds Tryz.pinned (OpenSpec.upto searchCallsSpec)

end Rows
end Go.Proofs.YtckfjfnkombelaaGreat
