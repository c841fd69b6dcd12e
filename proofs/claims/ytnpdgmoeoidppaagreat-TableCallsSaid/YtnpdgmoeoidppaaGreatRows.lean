/-
  No cell of these rows narrows 'for every input' (looked for: loops, veiled, ifaces, maps, wideKeys, modest, calm, conditions, laid).
  DERIVED. THE GIVEN ROWS OF THIS SEAT. 6 by the template 'for every input the law returns true; each argument reads behind the call as it read before'; 0 by the template 'total and deterministic' (their statements: YtnpdgmoeoidppaaGreatTotals.lean).
  GIVEN WITH THE SEED: the statements are not yours to turn. If you find one false, say at which input.
  Laid BY PROGRAM, IN A SANDBOX (cutbox-rows.mjs): the forced cells as the released guide's own fill.sh prints them over the translation e5a710142b799e22… (all of the seat's roots in one cut). By AI agents, Wed Nov 11 2026. No macro, syntax, notation, axiom, sorry.
-/
import Derived.Test.YtnpdgmoeoidppaaGreatChecked
import GoSem.Claim
import GoSem.ClaimJoined
import GoSem.ClaimMapViews
import Derived.JoinedTies
import Derived.KernelRfl
namespace Go.Proofs.YtnpdgmoeoidppaaGreat
/- THE CELL 'sum', in the pinned program and in every row, IS THE sha256 OF THE DUMP (.gsa) THAT YtnpdgmoeoidppaaGreatProg.lean LOADS. Nothing in Lean hashes anything: it is a label: what it is worth is what the hold of that sum in a sandbox is worth. -/
noncomputable def Tryz.pinned : Pinned := { name := "ytnpdgmoeoidppaagreat", sum := "e5a710142b799e22257ed270627ea697e4aac81a42524982d5384f1059138b13", checked := Tryz.checked }
namespace Rows
def none {H : Type} : Left H := { results := [], args := [] }

/-- 'nameplatelaw18.IndexCalls': WHATEVER THE INPUT: true; the input reads as it did. -/
def indexCallsSpec : ChangeSpec := { name := "indexCalls", fn := fun _ => fun
  | [d1, d2, d3, d4, d5] => { results := [.lit (.bool true)], args := [d1, d2, d3, d4, d5] }
  | _ => none }
def indexCallsRow : OpenClaim := { program := "ytnpdgmoeoidppaagreat", sum := "e5a710142b799e22257ed270627ea697e4aac81a42524982d5384f1059138b13", func := "nameplate/nameplatelaw18.IndexCalls", spec := "indexCalls", inPlace := ["internal/bytealg.abigen_runtime_cmpstring", "internal/abi.NoEscape"], unfollowed := true, recurses := true, plainKeys := false, apart := false }
def IndexCallsSaid : Prop := indexCallsRow.holds Tryz.pinned (OpenSpec.ofChange indexCallsSpec)

/-- ITS FALSE NEIGHBOUR: 'it returns false'. Refute it at one input. -/
def indexCallsWrong : ChangeSpec := { name := "indexCalls", fn := fun _ => fun
  | [d1, d2, d3, d4, d5] => { results := [.lit (.bool false)], args := [d1, d2, d3, d4, d5] }
  | _ => none }
def IndexCallsWrongFalsely : Prop := indexCallsRow.holds Tryz.pinned (OpenSpec.ofChange indexCallsWrong)

/-- 'nameplatelaw14.VipsFills': WHATEVER THE INPUT: true; the input reads as it did. -/
def vipsFillsSpec : ChangeSpec := { name := "vipsFills", fn := fun _ => fun
  | [d] => { results := [.lit (.bool true)], args := [d] }
  | _ => none }
def vipsFillsRow : OpenClaim := { program := "ytnpdgmoeoidppaagreat", sum := "e5a710142b799e22257ed270627ea697e4aac81a42524982d5384f1059138b13", func := "nameplate/nameplatelaw14.VipsFills", spec := "vipsFills", inPlace := ["math/bits.Add64", "internal/abi.NoEscape"], unfollowed := true, recurses := true, plainKeys := false, apart := false }
def VipsFillsSaid : Prop := vipsFillsRow.holds Tryz.pinned (OpenSpec.ofChange vipsFillsSpec)

/-- ITS FALSE NEIGHBOUR: 'it returns false'. Refute it at one input. -/
def vipsFillsWrong : ChangeSpec := { name := "vipsFills", fn := fun _ => fun
  | [d] => { results := [.lit (.bool false)], args := [d] }
  | _ => none }
def VipsFillsWrongFalsely : Prop := vipsFillsRow.holds Tryz.pinned (OpenSpec.ofChange vipsFillsWrong)

/-- 'nameplatelaw14.VipsTwice': WHATEVER THE INPUT: true; the input reads as it did. -/
def vipsTwiceSpec : ChangeSpec := { name := "vipsTwice", fn := fun _ => fun
  | [d1, d2] => { results := [.lit (.bool true)], args := [d1, d2] }
  | _ => none }
def vipsTwiceRow : OpenClaim := { program := "ytnpdgmoeoidppaagreat", sum := "e5a710142b799e22257ed270627ea697e4aac81a42524982d5384f1059138b13", func := "nameplate/nameplatelaw14.VipsTwice", spec := "vipsTwice", inPlace := ["math/bits.Add64", "internal/abi.NoEscape", "maps.clone"], unfollowed := true, recurses := true, plainKeys := false, apart := false }
def VipsTwiceSaid : Prop := vipsTwiceRow.holds Tryz.pinned (OpenSpec.ofChange vipsTwiceSpec)

/-- ITS FALSE NEIGHBOUR: 'it returns false'. Refute it at one input. -/
def vipsTwiceWrong : ChangeSpec := { name := "vipsTwice", fn := fun _ => fun
  | [d1, d2] => { results := [.lit (.bool false)], args := [d1, d2] }
  | _ => none }
def VipsTwiceWrongFalsely : Prop := vipsTwiceRow.holds Tryz.pinned (OpenSpec.ofChange vipsTwiceWrong)

/-- 'nameplatelaw14.VipsHolds': WHATEVER THE INPUT: true; the input reads as it did. -/
def vipsHoldsSpec : ChangeSpec := { name := "vipsHolds", fn := fun _ => fun
  | [d1, d2] => { results := [.lit (.bool true)], args := [d1, d2] }
  | _ => none }
def vipsHoldsRow : OpenClaim := { program := "ytnpdgmoeoidppaagreat", sum := "e5a710142b799e22257ed270627ea697e4aac81a42524982d5384f1059138b13", func := "nameplate/nameplatelaw14.VipsHolds", spec := "vipsHolds", inPlace := ["math/bits.Add64", "internal/abi.NoEscape"], unfollowed := true, recurses := true, plainKeys := false, apart := false }
def VipsHoldsSaid : Prop := vipsHoldsRow.holds Tryz.pinned (OpenSpec.ofChange vipsHoldsSpec)

/-- ITS FALSE NEIGHBOUR: 'it returns false'. Refute it at one input. -/
def vipsHoldsWrong : ChangeSpec := { name := "vipsHolds", fn := fun _ => fun
  | [d1, d2] => { results := [.lit (.bool false)], args := [d1, d2] }
  | _ => none }
def VipsHoldsWrongFalsely : Prop := vipsHoldsRow.holds Tryz.pinned (OpenSpec.ofChange vipsHoldsWrong)

/-- 'nameplatelaw14.VipsScript': WHATEVER THE INPUT: true; the input reads as it did. -/
def vipsScriptSpec : ChangeSpec := { name := "vipsScript", fn := fun _ => fun
  | [d1, d2] => { results := [.lit (.bool true)], args := [d1, d2] }
  | _ => none }
def vipsScriptRow : OpenClaim := { program := "ytnpdgmoeoidppaagreat", sum := "e5a710142b799e22257ed270627ea697e4aac81a42524982d5384f1059138b13", func := "nameplate/nameplatelaw14.VipsScript", spec := "vipsScript", inPlace := ["math/bits.Add64", "internal/abi.NoEscape", "maps.clone"], unfollowed := true, recurses := true, plainKeys := false, apart := false }
def VipsScriptSaid : Prop := vipsScriptRow.holds Tryz.pinned (OpenSpec.ofChange vipsScriptSpec)

/-- ITS FALSE NEIGHBOUR: 'it returns false'. Refute it at one input. -/
def vipsScriptWrong : ChangeSpec := { name := "vipsScript", fn := fun _ => fun
  | [d1, d2] => { results := [.lit (.bool false)], args := [d1, d2] }
  | _ => none }
def VipsScriptWrongFalsely : Prop := vipsScriptRow.holds Tryz.pinned (OpenSpec.ofChange vipsScriptWrong)

/-- 'nameplatelaw17.TableCalls': WHATEVER THE INPUT: true; the input reads as it did. -/
def tableCallsSpec : ChangeSpec := { name := "tableCalls", fn := fun _ => fun
  | [d1, d2, d3, d4] => { results := [.lit (.bool true)], args := [d1, d2, d3, d4] }
  | _ => none }
def tableCallsRow : OpenClaim := { program := "ytnpdgmoeoidppaagreat", sum := "e5a710142b799e22257ed270627ea697e4aac81a42524982d5384f1059138b13", func := "nameplate/nameplatelaw17.TableCalls", spec := "tableCalls", inPlace := ["internal/bytealg.abigen_runtime_cmpstring", "internal/abi.NoEscape"], unfollowed := true, recurses := true, plainKeys := false, apart := false }
def TableCallsSaid : Prop := tableCallsRow.holds Tryz.pinned (OpenSpec.ofChange tableCallsSpec)

/-- ITS FALSE NEIGHBOUR: 'it returns false'. Refute it at one input. -/
def tableCallsWrong : ChangeSpec := { name := "tableCalls", fn := fun _ => fun
  | [d1, d2, d3, d4] => { results := [.lit (.bool false)], args := [d1, d2, d3, d4] }
  | _ => none }
def TableCallsWrongFalsely : Prop := tableCallsRow.holds Tryz.pinned (OpenSpec.ofChange tableCallsWrong)

/- THE SECOND FORM. 'bulk': how many values and letters a reading holds, each counted each time it is reached (what is shared counts as often as it is met; a slice's spare places count too). A statement '..UptoSaid' is the law's where the arguments, and the package variables that the reading takes, are together of bulk at most 1048576: NARROWER than '..Said'. Prove '..Said' where nothing that the law and all that it calls make is longer than what came in: it says more and counts as full. Else prove '..UptoSaid'. A law counts once. -/
mutual
def uptoBulk {H : Type} : DataW H → Nat
  | .lit (.string bytes) => bytes.length + 1
  | .lit _ => 1
  | .nil => 1
  | .ptr d => uptoBulk d + 1
  | .slice elems spare => uptoBulkAll elems + uptoBulkAll spare + 1
  | .agg parts => uptoBulkAll parts + 1
  | .iface _ d => uptoBulk d + 1
  | .map entries => uptoBulkEntries entries + 1
  | .held _ => 1
def uptoBulkAll {H : Type} : List (DataW H) → Nat
  | [] => 0
  | d :: r => uptoBulk d + uptoBulkAll r
def uptoBulkEntries {H : Type} : List (Lit × DataW H) → Nat
  | [] => 0
  | x :: r => uptoBulkEntry x + uptoBulkEntries r
def uptoBulkEntry {H : Type} : Lit × DataW H → Nat
  | (.string bytes, d) => bytes.length + uptoBulk d + 1
  | (_, d) => uptoBulk d + 1
 end
def uptoSmall : (H : Type) → List (DataW H) → Bool := fun _ ds => decide (uptoBulkAll ds ≤ 1048576)
def OpenSpec.upto (s : _root_.Go.ChangeSpec) : _root_.Go.OpenSpec := { _root_.Go.OpenSpec.ofChange s with cond := some uptoSmall }

/-- 'nameplatelaw18.IndexCalls', WHERE WHAT IT READS IS OF BULK AT MOST 1048576: true; the input reads as it did. -/
def indexCallsUptoRow : OpenClaim := { program := "ytnpdgmoeoidppaagreat", sum := "e5a710142b799e22257ed270627ea697e4aac81a42524982d5384f1059138b13", func := "nameplate/nameplatelaw18.IndexCalls", spec := "indexCalls", inPlace := ["internal/bytealg.abigen_runtime_cmpstring", "internal/abi.NoEscape"], unfollowed := true, recurses := true, plainKeys := false, apart := false, narrowed := true }
def IndexCallsUptoSaid : Prop := indexCallsUptoRow.holds Tryz.pinned (OpenSpec.upto indexCallsSpec)

/-- 'nameplatelaw14.VipsFills', WHERE WHAT IT READS IS OF BULK AT MOST 1048576: true; the input reads as it did. -/
def vipsFillsUptoRow : OpenClaim := { program := "ytnpdgmoeoidppaagreat", sum := "e5a710142b799e22257ed270627ea697e4aac81a42524982d5384f1059138b13", func := "nameplate/nameplatelaw14.VipsFills", spec := "vipsFills", inPlace := ["math/bits.Add64", "internal/abi.NoEscape"], unfollowed := true, recurses := true, plainKeys := false, apart := false, narrowed := true }
def VipsFillsUptoSaid : Prop := vipsFillsUptoRow.holds Tryz.pinned (OpenSpec.upto vipsFillsSpec)

/-- 'nameplatelaw14.VipsTwice', WHERE WHAT IT READS IS OF BULK AT MOST 1048576: true; the input reads as it did. -/
def vipsTwiceUptoRow : OpenClaim := { program := "ytnpdgmoeoidppaagreat", sum := "e5a710142b799e22257ed270627ea697e4aac81a42524982d5384f1059138b13", func := "nameplate/nameplatelaw14.VipsTwice", spec := "vipsTwice", inPlace := ["math/bits.Add64", "internal/abi.NoEscape", "maps.clone"], unfollowed := true, recurses := true, plainKeys := false, apart := false, narrowed := true }
def VipsTwiceUptoSaid : Prop := vipsTwiceUptoRow.holds Tryz.pinned (OpenSpec.upto vipsTwiceSpec)

/-- 'nameplatelaw14.VipsHolds', WHERE WHAT IT READS IS OF BULK AT MOST 1048576: true; the input reads as it did. -/
def vipsHoldsUptoRow : OpenClaim := { program := "ytnpdgmoeoidppaagreat", sum := "e5a710142b799e22257ed270627ea697e4aac81a42524982d5384f1059138b13", func := "nameplate/nameplatelaw14.VipsHolds", spec := "vipsHolds", inPlace := ["math/bits.Add64", "internal/abi.NoEscape"], unfollowed := true, recurses := true, plainKeys := false, apart := false, narrowed := true }
def VipsHoldsUptoSaid : Prop := vipsHoldsUptoRow.holds Tryz.pinned (OpenSpec.upto vipsHoldsSpec)

/-- 'nameplatelaw14.VipsScript', WHERE WHAT IT READS IS OF BULK AT MOST 1048576: true; the input reads as it did. -/
def vipsScriptUptoRow : OpenClaim := { program := "ytnpdgmoeoidppaagreat", sum := "e5a710142b799e22257ed270627ea697e4aac81a42524982d5384f1059138b13", func := "nameplate/nameplatelaw14.VipsScript", spec := "vipsScript", inPlace := ["math/bits.Add64", "internal/abi.NoEscape", "maps.clone"], unfollowed := true, recurses := true, plainKeys := false, apart := false, narrowed := true }
def VipsScriptUptoSaid : Prop := vipsScriptUptoRow.holds Tryz.pinned (OpenSpec.upto vipsScriptSpec)

/-- 'nameplatelaw17.TableCalls', WHERE WHAT IT READS IS OF BULK AT MOST 1048576: true; the input reads as it did. -/
def tableCallsUptoRow : OpenClaim := { program := "ytnpdgmoeoidppaagreat", sum := "e5a710142b799e22257ed270627ea697e4aac81a42524982d5384f1059138b13", func := "nameplate/nameplatelaw17.TableCalls", spec := "tableCalls", inPlace := ["internal/bytealg.abigen_runtime_cmpstring", "internal/abi.NoEscape"], unfollowed := true, recurses := true, plainKeys := false, apart := false, narrowed := true }
def TableCallsUptoSaid : Prop := tableCallsUptoRow.holds Tryz.pinned (OpenSpec.upto tableCallsSpec)

end Rows
end Go.Proofs.YtnpdgmoeoidppaaGreat
