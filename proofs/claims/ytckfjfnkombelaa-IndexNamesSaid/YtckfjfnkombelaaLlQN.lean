/- Structs and arrays compared. -/
import Derived.Test.YtckfjfnkombelaaLjQN
import Derived.Laws.StructEq
import Derived.ChangeKeysEq
namespace Go.Proofs.Ytckfjfnkombelaa
open Go.RowKit Go.Shelf
set_option linter.unusedVariables false
set_option linter.unusedSimpArgs false

/-- An equality that the model settles so from some depth on. -/
def EqD (P : Program) (n : Nat) (t : TypeId) (v u : Value) (b : Bool) : Prop := ∀ d w, (Op.equalIn (d + n) t v u).run P w = .ok b w
def EqF (P : Program) (n : Nat) (xs ys : Array Value) (fs : List Field) (b : Bool) : Prop := ∀ d w, (Op.eqFields (d + n) xs ys fs).run P w = .ok b w
section
variable {P : Program} {n m : Nat} {t : TypeId} {xs ys : Array Value} {f : Field} {fs : List Field} {v u : Value} {r s : Bool}
theorem EqD.up (h : EqD P m t v u r) (hm : m ≤ n) : EqD P n t v u r := fun d w => by
  obtain ⟨k, rfl⟩ : ∃ k, n = k + m := ⟨n - m, by omega⟩
  rw [← Nat.add_assoc]; exact h _ w
theorem eqd_int {k k' : IntKind} {a b : Int} (h : P.underlying t = some (.int k')) : EqD P 1 t (.int k a) (.int k b) (a == b) := fun d w => run_equalIn_int w d t k k' a b h
theorem eqd_bool {a b : Bool} (h : P.underlying t = some .bool) : EqD P 1 t (.bool a) (.bool b) (a == b) := fun d w => run_equalIn_bool' w d t a b h
theorem eqf_nil : EqF P n xs ys [] true := fun d w => by simp [Op.eqFields]
theorem eqf_cons (hn : (f.name == "_") = false) (ha : ∀ w, (part f.type xs f.offset).run P w = .ok v w) (hb : ∀ w, (part f.type ys f.offset).run P w = .ok u w) (he : EqD P m f.type v u r) (hm : Nat.ble m n = true) (hr : EqF P n xs ys fs s) : EqF P n xs ys (f :: fs) (r && s) := fun d w => by
  have hn' : f.name ≠ "_" := by simpa using hn
  rw [Op.eqFields]
  simp only [if_pos hn', Sem.run_bind, ha, hb, (he.up (Nat.le_of_ble_eq_true hm)) d w, Result.andThen_ok]
  cases r
  · simp
  · simpa using hr d w
theorem eqd_struct {fa : Array Field} (hu : P.underlying t = some (.struct fa)) (hp : P.stoodInHeld t = false) (h : EqF P n xs ys fa.toList r) : EqD P (n + 1) t (.agg xs) (.agg ys) r := fun d w => by
  have hf : P.fieldsOf t = fa := by simp [Program.fieldsOf, hu]
  rw [← Nat.add_assoc, run_equalIn_struct (P := P) w (d + n) t xs ys (by rw [hf]; exact hu) hp, hf]
  exact h d w
end
section
variable {x : Cx} {l : Fr} {L S : List Ch} {d : Nat} {ty : TypeId} {pos : String} {af : Array Edge} {gd : Option (Nat × Bool)}
theorem y_eqst {y z : Operand} {xs ys : Array Value} {b : Bool} {yt zt : TypeId} {n : Nat} (hm : x.P.eqGuardType x.P.depth yt = false) (hy : ev l y = some (.agg xs)) (hz : ev l z = some (.agg ys)) (h : EqD x.P n yt (.agg xs) (.agg ys) b) (hn : Nat.ble n 10000 = true) :
    Yv x l L S ⟨some d, .binOp .eql yt y z zt, ty, pos, af, gd⟩ (.bool b) := fun a w ha hw => by
  have he : (Op.equalIn 10000 yt (.agg xs) (.agg ys)).run x.P w = .ok b w := by
    obtain ⟨k, hk⟩ : ∃ k, 10000 = k + n := ⟨10000 - n, by have := Nat.le_of_ble_eq_true hn; omega⟩
    rw [hk]; exact h k w
  simp only [execOp, ha.ev hy, ha.ev hz]
  simp [run_eqGuard_agg w .eql yt y z xs ys hm, run_eql_struct, he]
end
end Go.Proofs.Ytckfjfnkombelaa
