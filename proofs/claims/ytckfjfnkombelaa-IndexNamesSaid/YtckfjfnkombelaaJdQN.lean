/- what an index finds, in plain words -/
import Derived.Test.YtckfjfnkombelaaJcQN
namespace Go.Proofs.Ytckfjfnkombelaa
open Go.RowKit Go.Shelf
set_option linter.unusedVariables false
set_option linter.unusedSimpArgs false

theorem xl_src {x : Ixd} {l : List Le} (h : IxOk l x) {y : Le} (hy : y ∈ x.l) : ∃ z ∈ l, z.e = y.e := by
  have : y.e ∈ l.map (·.e) := by rw [← h.es]; exact List.mem_map.2 ⟨y, hy, rfl⟩
  obtain ⟨z, hz, e⟩ := List.mem_map.1 this
  exact ⟨z, hz, e⟩
theorem fi_bnd {x : Ixd} {l : List Le} (h : IxOk l x) (hok : TbOk l) {y : Le} (hy : y ∈ le0 :: x.l) : EnB y.e := by
  rcases List.mem_cons.1 hy with rfl | hy
  · exact ⟨nofun, by decide, by decide, by decide, by decide, by decide⟩
  · obtain ⟨z, hz, e⟩ := xl_src h hy
    exact (hok.mem' hz).eq e.symm
def ixP : Option Ixd → Option Addr
  | some x => some ⟨x.b, 0, none⟩
  | none => none
def ixE : Option Ixd → Int
  | some _ => 0
  | none => 2
theorem ixV_pe (o : Option Ixd) : ixV o = .tuple #[.pointer (ixP o), .int .i64 (ixE o)] := by cases o <;> rfl
end Go.Proofs.Ytckfjfnkombelaa
