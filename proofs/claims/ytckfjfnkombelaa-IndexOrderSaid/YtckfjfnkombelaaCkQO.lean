/- the laws of entries -/
import Derived.Test.YtckfjfnkombelaaCjQO
namespace Go.Proofs.Ytckfjfnkombelaa
open Go.RowKit Go.Shelf
set_option linter.unusedVariables false
set_option linter.unusedSimpArgs false

def AdOk (a : Ad) : Prop := 0 ≤ a.hi ∧ a.hi ≤ 18446744073709551615 ∧ 0 ≤ a.lo ∧ a.lo ≤ 18446744073709551615
def EnOk (e : En) : Prop := e.host.length ≤ 9223372036854775807 ∧ (-9223372036854775808 ≤ e.kind ∧ e.kind ≤ 9223372036854775807) ∧ e.cluster.length ≤ 9223372036854775807 ∧ (∀ a ∈ e.addrs, AdOk a) ∧ e.addrs.length ≤ 9223372036854775807 ∧ e.alias.length ≤ 9223372036854775807 ∧ (∀ p ∈ e.ports, -9223372036854775808 ≤ p ∧ p ≤ 9223372036854775807) ∧ e.ports.length ≤ 9223372036854775807 ∧ 0 ≤ e.ttl ∧ e.ttl ≤ 4294967295
theorem EnOk.lo {e : En} (h : EnOk e) : ∀ a ∈ e.addrs, 0 ≤ a.lo := fun a ha => (h.2.2.2.1 a ha).2.2.1

theorem dc_ad {w : World} : Dc Try.prog w 66 (α := Ad) (adC) (fun _ => []) (AdOk) := fun H enc base sp hd fuel cs x h => by
  obtain ⟨xs, n, rfl, _, hcl, hxl, hf⟩ := DataW.trod_struct Try.underlying66 h
  have hcl2 : cs.length = 3 := hcl.trans (by kernel_rfl)
  obtain ⟨x0, c0, r0, o0⟩ := dc_field hxl hf 0 (ft := 4) (off := 0) (k := 1) (by kernel_rfl) (by kernel_rfl) (dc_bool Try.underlying4)
  obtain ⟨x1, c1, r1, o1⟩ := dc_field hxl hf 1 (ft := 64) (off := 1) (k := 1) (by kernel_rfl) (by kernel_rfl) (dc_int Try.underlying64)
  obtain ⟨x2, c2, r2, o2⟩ := dc_field hxl hf 2 (ft := 64) (off := 2) (k := 1) (by kernel_rfl) (by kernel_rfl) (dc_int Try.underlying64)
  have hcs := cut0 (cutc c0 (cutc c1 (cutc c2 (cutn hcl2) rfl) rfl) rfl)
  exact ⟨⟨x0, x1, x2⟩, hcs, nofun, o1.1, o1.2, o2.1, o2.2⟩

theorem dc_ads {w : World} : Dc Try.prog w 46 (fun p : List Ad × Option Addr × Nat => [.slice p.2.1 p.1.length p.2.2]) (fun p => Ch.rd p.2.1 3 adC p.1 :: p.1.flatMap (fun _ => [])) (fun p => p.1.length ≤ 9223372036854775807 ∧ ∀ a ∈ p.1, AdOk a) := dc_slice Try.underlying46 (by kernel_rfl) (by decide) enc_ad dc_ad
theorem dc_ints {w : World} : Dc Try.prog w 47 (fun p : List Int × Option Addr × Nat => [.slice p.2.1 p.1.length p.2.2]) (fun p => Ch.rd p.2.1 1 enci p.1 :: p.1.flatMap (fun _ => [])) (fun p => p.1.length ≤ 9223372036854775807 ∧ ∀ n ∈ p.1, IntKind.i64.min ≤ n ∧ n ≤ IntKind.i64.max) := dc_slice Try.underlying47 (by kernel_rfl) (by decide) enc_i (dc_int Try.underlying3)

end Go.Proofs.Ytckfjfnkombelaa
