/- the laws of entries -/
import Derived.Test.YtckfjfnkombelaaCjQN
namespace Go.Proofs.Ytckfjfnkombelaa
open Go.RowKit Go.Shelf
set_option linter.unusedVariables false
set_option linter.unusedSimpArgs false

def AdOk (a : Ad) : Prop := 0 ≤ a.hi ∧ a.hi ≤ 18446744073709551615 ∧ 0 ≤ a.lo ∧ a.lo ≤ 18446744073709551615
def EnOk (e : En) : Prop := e.host.length ≤ 9223372036854775807 ∧ (-9223372036854775808 ≤ e.kind ∧ e.kind ≤ 9223372036854775807) ∧ e.cluster.length ≤ 9223372036854775807 ∧ (∀ a ∈ e.addrs, AdOk a) ∧ e.addrs.length ≤ 9223372036854775807 ∧ e.alias.length ≤ 9223372036854775807 ∧ (∀ p ∈ e.ports, -9223372036854775808 ≤ p ∧ p ≤ 9223372036854775807) ∧ e.ports.length ≤ 9223372036854775807 ∧ 0 ≤ e.ttl ∧ e.ttl ≤ 4294967295
theorem EnOk.lo {e : En} (h : EnOk e) : ∀ a ∈ e.addrs, 0 ≤ a.lo := fun a ha => (h.2.2.2.1 a ha).2.2.1

theorem rd_none {w : World} {sz : Nat} : (Ch.rs none 0 sz []).P w ∧ ∀ b, (Ch.rs none 0 sz []).ok b → b < w.heap.size := ⟨⟨by simp, (by simp), .inl rfl⟩, fun b hb => by simp [Ch.rs] at hb⟩

end Go.Proofs.Ytckfjfnkombelaa
