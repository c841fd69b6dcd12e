/-
  No cell of these rows narrows 'for every input' (looked for: loops, veiled, ifaces, maps, wideKeys, modest, calm, conditions, laid).
  DERIVED. THE GIVEN ROWS OF THIS SEAT. 6 by the template 'for every input the law returns true; each argument reads behind the call as it read before'; 0 by the template 'total and deterministic' (their statements: YtfmelbpgkbiooaaGreatTotals.lean).
  GIVEN WITH THE SEED: the statements are not yours to turn. If you find one false, say at which input.
  Laid BY PROGRAM, IN A SANDBOX (cutbox-rows.mjs): the forced cells as the released guide's own fill.sh prints them over the translation 5385aa8c66e27139… (all of the seat's roots in one cut). By AI agents, Wed Nov 11 2026. No macro, syntax, notation, axiom, sorry.
-/
import Derived.Test.YtfmelbpgkbiooaaGreatChecked
import GoSem.Claim
import GoSem.ClaimJoined
import GoSem.ClaimMapViews
import Derived.JoinedTies
import Derived.KernelRfl
namespace Go.Proofs.YtfmelbpgkbiooaaGreat
/- THE CELL 'sum', in the pinned program and in every row, IS THE sha256 OF THE DUMP (.gsa) THAT YtfmelbpgkbiooaaGreatProg.lean LOADS. Nothing in Lean hashes anything: it is a label: what it is worth is what the hold of that sum in a sandbox is worth. -/
noncomputable def Tryz.pinned : Pinned := { name := "ytfmelbpgkbiooaagreat", sum := "5385aa8c66e271399d23961d12321ab7f9ee2301ee2f444873420b53fb2d807b", checked := Tryz.checked }
namespace Rows
def none {H : Type} : Left H := { results := [], args := [] }

/-- 'nameplatelaw19.RouteHeld': WHATEVER THE INPUT: true; the input reads as it did. -/
def routeHeldSpec : ChangeSpec := { name := "routeHeld", fn := fun _ => fun
  | [d1, d2, d3] => { results := [.lit (.bool true)], args := [d1, d2, d3] }
  | _ => none }
def routeHeldRow : OpenClaim := { program := "ytfmelbpgkbiooaagreat", sum := "5385aa8c66e271399d23961d12321ab7f9ee2301ee2f444873420b53fb2d807b", func := "nameplate/nameplatelaw19.RouteHeld", spec := "routeHeld", inPlace := ["internal/bytealg.abigen_runtime_cmpstring", "internal/abi.NoEscape"], unfollowed := true, recurses := true, plainKeys := false, apart := false }
def RouteHeldSaid : Prop := routeHeldRow.holds Tryz.pinned (OpenSpec.ofChange routeHeldSpec)

/-- ITS FALSE NEIGHBOUR: 'it returns false'. Refute it at one input. -/
def routeHeldWrong : ChangeSpec := { name := "routeHeld", fn := fun _ => fun
  | [d1, d2, d3] => { results := [.lit (.bool false)], args := [d1, d2, d3] }
  | _ => none }
def RouteHeldWrongFalsely : Prop := routeHeldRow.holds Tryz.pinned (OpenSpec.ofChange routeHeldWrong)

/-- 'nameplatelaw19.RouteFixed': WHATEVER THE INPUT: true; the input reads as it did. -/
def routeFixedSpec : ChangeSpec := { name := "routeFixed", fn := fun _ => fun
  | [d1, d2] => { results := [.lit (.bool true)], args := [d1, d2] }
  | _ => none }
def routeFixedRow : OpenClaim := { program := "ytfmelbpgkbiooaagreat", sum := "5385aa8c66e271399d23961d12321ab7f9ee2301ee2f444873420b53fb2d807b", func := "nameplate/nameplatelaw19.RouteFixed", spec := "routeFixed", inPlace := ["internal/bytealg.abigen_runtime_cmpstring", "internal/abi.NoEscape"], unfollowed := true, recurses := true, plainKeys := false, apart := false }
def RouteFixedSaid : Prop := routeFixedRow.holds Tryz.pinned (OpenSpec.ofChange routeFixedSpec)

/-- ITS FALSE NEIGHBOUR: 'it returns false'. Refute it at one input. -/
def routeFixedWrong : ChangeSpec := { name := "routeFixed", fn := fun _ => fun
  | [d1, d2] => { results := [.lit (.bool false)], args := [d1, d2] }
  | _ => none }
def RouteFixedWrongFalsely : Prop := routeFixedRow.holds Tryz.pinned (OpenSpec.ofChange routeFixedWrong)

/-- 'nameplatelaw19.RouteSame': WHATEVER THE INPUT: true; the input reads as it did. -/
def routeSameSpec : ChangeSpec := { name := "routeSame", fn := fun _ => fun
  | [d1, d2] => { results := [.lit (.bool true)], args := [d1, d2] }
  | _ => none }
def routeSameRow : OpenClaim := { program := "ytfmelbpgkbiooaagreat", sum := "5385aa8c66e271399d23961d12321ab7f9ee2301ee2f444873420b53fb2d807b", func := "nameplate/nameplatelaw19.RouteSame", spec := "routeSame", inPlace := ["internal/bytealg.abigen_runtime_cmpstring", "internal/abi.NoEscape"], unfollowed := true, recurses := true, plainKeys := false, apart := false }
def RouteSameSaid : Prop := routeSameRow.holds Tryz.pinned (OpenSpec.ofChange routeSameSpec)

/-- ITS FALSE NEIGHBOUR: 'it returns false'. Refute it at one input. -/
def routeSameWrong : ChangeSpec := { name := "routeSame", fn := fun _ => fun
  | [d1, d2] => { results := [.lit (.bool false)], args := [d1, d2] }
  | _ => none }
def RouteSameWrongFalsely : Prop := routeSameRow.holds Tryz.pinned (OpenSpec.ofChange routeSameWrong)

/-- 'nameplatelaw19.RouteNames': WHATEVER THE INPUT: true; the input reads as it did. -/
def routeNamesSpec : ChangeSpec := { name := "routeNames", fn := fun _ => fun
  | [] => { results := [.lit (.bool true)], args := [] }
  | _ => none }
def routeNamesRow : OpenClaim := { program := "ytfmelbpgkbiooaagreat", sum := "5385aa8c66e271399d23961d12321ab7f9ee2301ee2f444873420b53fb2d807b", func := "nameplate/nameplatelaw19.RouteNames", spec := "routeNames", inPlace := ["internal/bytealg.abigen_runtime_cmpstring", "internal/abi.NoEscape"], unfollowed := true, recurses := true, plainKeys := false, apart := false }
def RouteNamesSaid : Prop := routeNamesRow.holds Tryz.pinned (OpenSpec.ofChange routeNamesSpec)

/-- ITS FALSE NEIGHBOUR: 'it returns false'. Refute it at one input. -/
def routeNamesWrong : ChangeSpec := { name := "routeNames", fn := fun _ => fun
  | [] => { results := [.lit (.bool false)], args := [] }
  | _ => none }
def RouteNamesWrongFalsely : Prop := routeNamesRow.holds Tryz.pinned (OpenSpec.ofChange routeNamesWrong)

/-- 'nameplatelaw19.RouteCalls': WHATEVER THE INPUT: true; the input reads as it did. -/
def routeCallsSpec : ChangeSpec := { name := "routeCalls", fn := fun _ => fun
  | [d1, d2, d3, d4, d5] => { results := [.lit (.bool true)], args := [d1, d2, d3, d4, d5] }
  | _ => none }
def routeCallsRow : OpenClaim := { program := "ytfmelbpgkbiooaagreat", sum := "5385aa8c66e271399d23961d12321ab7f9ee2301ee2f444873420b53fb2d807b", func := "nameplate/nameplatelaw19.RouteCalls", spec := "routeCalls", inPlace := ["internal/bytealg.abigen_runtime_cmpstring", "internal/abi.NoEscape"], unfollowed := true, recurses := true, plainKeys := false, apart := false }
def RouteCallsSaid : Prop := routeCallsRow.holds Tryz.pinned (OpenSpec.ofChange routeCallsSpec)

/-- ITS FALSE NEIGHBOUR: 'it returns false'. Refute it at one input. -/
def routeCallsWrong : ChangeSpec := { name := "routeCalls", fn := fun _ => fun
  | [d1, d2, d3, d4, d5] => { results := [.lit (.bool false)], args := [d1, d2, d3, d4, d5] }
  | _ => none }
def RouteCallsWrongFalsely : Prop := routeCallsRow.holds Tryz.pinned (OpenSpec.ofChange routeCallsWrong)

/-- 'nameplatelaw17.TableCalls': WHATEVER THE INPUT: true; the input reads as it did. -/
def tableCallsSpec : ChangeSpec := { name := "tableCalls", fn := fun _ => fun
  | [d1, d2, d3, d4] => { results := [.lit (.bool true)], args := [d1, d2, d3, d4] }
  | _ => none }
def tableCallsRow : OpenClaim := { program := "ytfmelbpgkbiooaagreat", sum := "5385aa8c66e271399d23961d12321ab7f9ee2301ee2f444873420b53fb2d807b", func := "nameplate/nameplatelaw17.TableCalls", spec := "tableCalls", inPlace := ["internal/bytealg.abigen_runtime_cmpstring", "internal/abi.NoEscape"], unfollowed := true, recurses := true, plainKeys := false, apart := false }
def TableCallsSaid : Prop := tableCallsRow.holds Tryz.pinned (OpenSpec.ofChange tableCallsSpec)

/-- ITS FALSE NEIGHBOUR: 'it returns false'. Refute it at one input. -/
def tableCallsWrong : ChangeSpec := { name := "tableCalls", fn := fun _ => fun
  | [d1, d2, d3, d4] => { results := [.lit (.bool false)], args := [d1, d2, d3, d4] }
  | _ => none }
def TableCallsWrongFalsely : Prop := tableCallsRow.holds Tryz.pinned (OpenSpec.ofChange tableCallsWrong)

/- THE SECOND FORM. 'bulk': how many values and letters a reading holds, each counted each time it is reached (what is shared counts as often as it is met; a slice's spare places count too). A statement '..UptoSaid' is the law's where the arguments, and the package variables that the reading takes, are together of bulk at most 1048576: NARROWER than '..Said'. Prove '..Said' where nothing that the law and all that it calls make is longer than what came in: it says more and counts as full. Else prove '..UptoSaid'. A law counts once. -/
mutual
def uptoBulk {H : Type} : DataW H → Nat
  | .lit (.string bytes) => bytes.length + 1
  | .lit _ => 1
  | .nil => 1
  | .ptr d => uptoBulk d + 1
  | .slice elems spare => uptoBulkAll elems + uptoBulkAll spare + 1
  | .agg parts => uptoBulkAll parts + 1
  | .iface _ d => uptoBulk d + 1
  | .map entries => uptoBulkEntries entries + 1
  | .held _ => 1
def uptoBulkAll {H : Type} : List (DataW H) → Nat
  | [] => 0
  | d :: r => uptoBulk d + uptoBulkAll r
def uptoBulkEntries {H : Type} : List (Lit × DataW H) → Nat
  | [] => 0
  | x :: r => uptoBulkEntry x + uptoBulkEntries r
def uptoBulkEntry {H : Type} : Lit × DataW H → Nat
  | (.string bytes, d) => bytes.length + uptoBulk d + 1
  | (_, d) => uptoBulk d + 1
 end
def uptoSmall : (H : Type) → List (DataW H) → Bool := fun _ ds => decide (uptoBulkAll ds ≤ 1048576)
def OpenSpec.upto (s : _root_.Go.ChangeSpec) : _root_.Go.OpenSpec := { _root_.Go.OpenSpec.ofChange s with cond := some uptoSmall }

/-- 'nameplatelaw19.RouteHeld', WHERE WHAT IT READS IS OF BULK AT MOST 1048576: true; the input reads as it did. -/
def routeHeldUptoRow : OpenClaim := { program := "ytfmelbpgkbiooaagreat", sum := "5385aa8c66e271399d23961d12321ab7f9ee2301ee2f444873420b53fb2d807b", func := "nameplate/nameplatelaw19.RouteHeld", spec := "routeHeld", inPlace := ["internal/bytealg.abigen_runtime_cmpstring", "internal/abi.NoEscape"], unfollowed := true, recurses := true, plainKeys := false, apart := false, narrowed := true }
def RouteHeldUptoSaid : Prop := routeHeldUptoRow.holds Tryz.pinned (OpenSpec.upto routeHeldSpec)

/-- 'nameplatelaw19.RouteFixed', WHERE WHAT IT READS IS OF BULK AT MOST 1048576: true; the input reads as it did. -/
def routeFixedUptoRow : OpenClaim := { program := "ytfmelbpgkbiooaagreat", sum := "5385aa8c66e271399d23961d12321ab7f9ee2301ee2f444873420b53fb2d807b", func := "nameplate/nameplatelaw19.RouteFixed", spec := "routeFixed", inPlace := ["internal/bytealg.abigen_runtime_cmpstring", "internal/abi.NoEscape"], unfollowed := true, recurses := true, plainKeys := false, apart := false, narrowed := true }
def RouteFixedUptoSaid : Prop := routeFixedUptoRow.holds Tryz.pinned (OpenSpec.upto routeFixedSpec)

/-- 'nameplatelaw19.RouteSame', WHERE WHAT IT READS IS OF BULK AT MOST 1048576: true; the input reads as it did. -/
def routeSameUptoRow : OpenClaim := { program := "ytfmelbpgkbiooaagreat", sum := "5385aa8c66e271399d23961d12321ab7f9ee2301ee2f444873420b53fb2d807b", func := "nameplate/nameplatelaw19.RouteSame", spec := "routeSame", inPlace := ["internal/bytealg.abigen_runtime_cmpstring", "internal/abi.NoEscape"], unfollowed := true, recurses := true, plainKeys := false, apart := false, narrowed := true }
def RouteSameUptoSaid : Prop := routeSameUptoRow.holds Tryz.pinned (OpenSpec.upto routeSameSpec)

/-- 'nameplatelaw19.RouteNames', WHERE WHAT IT READS IS OF BULK AT MOST 1048576: true; the input reads as it did. -/
def routeNamesUptoRow : OpenClaim := { program := "ytfmelbpgkbiooaagreat", sum := "5385aa8c66e271399d23961d12321ab7f9ee2301ee2f444873420b53fb2d807b", func := "nameplate/nameplatelaw19.RouteNames", spec := "routeNames", inPlace := ["internal/bytealg.abigen_runtime_cmpstring", "internal/abi.NoEscape"], unfollowed := true, recurses := true, plainKeys := false, apart := false, narrowed := true }
def RouteNamesUptoSaid : Prop := routeNamesUptoRow.holds Tryz.pinned (OpenSpec.upto routeNamesSpec)

/-- 'nameplatelaw19.RouteCalls', WHERE WHAT IT READS IS OF BULK AT MOST 1048576: true; the input reads as it did. -/
def routeCallsUptoRow : OpenClaim := { program := "ytfmelbpgkbiooaagreat", sum := "5385aa8c66e271399d23961d12321ab7f9ee2301ee2f444873420b53fb2d807b", func := "nameplate/nameplatelaw19.RouteCalls", spec := "routeCalls", inPlace := ["internal/bytealg.abigen_runtime_cmpstring", "internal/abi.NoEscape"], unfollowed := true, recurses := true, plainKeys := false, apart := false, narrowed := true }
def RouteCallsUptoSaid : Prop := routeCallsUptoRow.holds Tryz.pinned (OpenSpec.upto routeCallsSpec)

/-- 'nameplatelaw17.TableCalls', WHERE WHAT IT READS IS OF BULK AT MOST 1048576: true; the input reads as it did. -/
def tableCallsUptoRow : OpenClaim := { program := "ytfmelbpgkbiooaagreat", sum := "5385aa8c66e271399d23961d12321ab7f9ee2301ee2f444873420b53fb2d807b", func := "nameplate/nameplatelaw17.TableCalls", spec := "tableCalls", inPlace := ["internal/bytealg.abigen_runtime_cmpstring", "internal/abi.NoEscape"], unfollowed := true, recurses := true, plainKeys := false, apart := false, narrowed := true }
def TableCallsUptoSaid : Prop := tableCallsUptoRow.holds Tryz.pinned (OpenSpec.upto tableCallsSpec)

end Rows
end Go.Proofs.YtfmelbpgkbiooaaGreat
