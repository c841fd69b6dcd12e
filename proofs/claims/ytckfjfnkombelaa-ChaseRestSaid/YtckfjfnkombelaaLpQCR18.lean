/- Regions with open order, inside rounds too, calls of yield in them; scopes; parts of slices. -/
import Derived.Test.YtckfjfnkombelaaLoQCR18
import Derived.OrdersIn
namespace Go.Proofs.Ytckfjfnkombelaa
open Go.RowKit Go.Shelf
set_option linter.unusedVariables false
set_option linter.unusedSimpArgs false

/-! A scope through which nothing jumps. -/
def NoGoto (Q : Exit → Act → World → Prop) : Exit → Act → World → Prop
  | .goto _, _, _ => False
  | e, a, w => Q e a w
theorem stepR_scope {P : Program} {b : Frame} {a : Act} {k : List Item} {cs : List Frame} {w : World} {c : Code} : step P (lone (b.atR a (.code (.scope c) :: k)) cs w) = .next (lone (b.atR a (.code c :: .inScope c :: k)) cs w) :=
  step_lone_go (by simp [stepG, stepG.exec, Frame.atR])
theorem stepR_inScope {P : Program} {b : Frame} {a : Act} {k : List Item} {cs : List Frame} {w : World} {c : Code} : step P (lone (b.atR a (.inScope c :: k)) cs w) = .next (lone (b.atR a k) cs w) :=
  step_lone_go (by simp [stepG, stepG.exec, Frame.atR])
theorem wpIn_scope {F : Fence} {n : Nat} {P : Program} {Q : Exit → Act → World → Prop} {a : Act} {w : World} {c : Code} (h : c.wpIn F n P (NoGoto Q) a w) : (Code.scope c).wpIn F n P Q a w := by
  intro b k cs hro hb hr
  have h0 : (lone (b.atR a (.code (.scope c) :: k)) cs w).fenced P F := fenced_calm hb hr rfl
  obtain ⟨e, a₁, w₁, hq, harr⟩ := h b (.inScope c :: k) cs hro hb hr
  cases e with
  | normal => exact ⟨.normal, a₁, w₁, hq, .head h0 stepR_scope (StepsIn.trans harr (.one (fenced_calm hb hr rfl) stepR_inScope))⟩
  | exit id =>
    have hx : exitTo id (.inScope c :: k) = exitTo id k := by simp [exitTo]
    exact ⟨.exit id, a₁, w₁, hq, fun k' hk => .head h0 stepR_scope (harr.1 k' (by rw [hx]; exact hk)),
      fun hr' hk => let ⟨k₁, h1, h2⟩ := harr.2 hr' (by rw [hx]; exact hk); ⟨k₁, h1, .head h0 stepR_scope h2⟩⟩
  | goto l => exact hq.elim
  | ret => exact ⟨_, a₁, w₁, hq, .of_steps (.one h0 stepR_scope) harr⟩
  | panic ch => exact ⟨_, a₁, w₁, hq, .of_steps (.one h0 stepR_scope) harr⟩
  | outgrown => exact ⟨_, a₁, w₁, hq, .of_steps (.one h0 stepR_scope) harr⟩
section
variable {x : Cx} {l : Fr} {L S : List Ch} {Q : Exit → Act → World → Prop}
theorem w_scope {c : Code} (h : W x l L S c (NoGoto Q)) : W x l L S (.scope c) Q := fun a w ha hw => wpIn_scope (h a w ha hw)
theorem e_scope_ret (h : E x l L S .ret Q) : E x l L S .ret (NoGoto Q) := h
theorem pk_scope (h : PkOk Q) : PkOk (NoGoto Q) := h
end

/-! Regions with open order. -/
section
variable {x : Cx} {C : World → Prop} {l : Fr} {L S : List Ch} {Q : Exit → Act → World → Prop} {ops : Array Oper} {fuel m : Nat} {listed : Array Bool}
end

/-! Parts of slices. -/
def sA (A : Option Addr) (m c sz : Nat) : Option Addr := if c = m then A else A.map (·.add (m * sz))
theorem fl_drop {α : Type} {enc : α → List Value} {sz : Nat} (hE : Enc enc sz) : ∀ (xs : List α) (m : Nat), fl enc (xs.drop m) = (fl enc xs).drop (m * sz)
  | [], m => by simp [fl]
  | x :: xs, 0 => by simp
  | x :: xs, m + 1 => by
    rw [List.drop_succ_cons, fl_drop hE xs m]
    have : fl enc (x :: xs) = enc x ++ fl enc xs := rfl
    have h2 : (enc x).drop ((m + 1) * sz) = [] := List.drop_of_length_le (by rw [hE.len x, Nat.succ_mul]; omega)
    rw [this, List.drop_append, hE.len x, h2, List.nil_append]
    congr 1
    rw [Nat.succ_mul]; omega
theorem fl_take {α : Type} {enc : α → List Value} {sz : Nat} (hE : Enc enc sz) : ∀ (xs : List α) (m : Nat), fl enc (xs.take m) = (fl enc xs).take (m * sz)
  | [], m => by simp [fl]
  | x :: xs, 0 => by simp [fl]
  | x :: xs, m + 1 => by
    have e1 : fl enc ((x :: xs).take (m + 1)) = enc x ++ fl enc (xs.take m) := rfl
    have e2 : fl enc (x :: xs) = enc x ++ fl enc xs := rfl
    have h2 : (enc x).take ((m + 1) * sz) = enc x := List.take_of_length_le (by rw [hE.len x, Nat.succ_mul]; omega)
    rw [e1, e2, fl_take hE xs m, List.take_append, hE.len x, h2]
    congr 2
    rw [Nat.succ_mul]; omega
theorem rsP_drop {α : Type} {enc : α → List Value} {sz : Nat} (hE : Enc enc sz) {A : Option Addr} {c m : Nat} {xs : List α} {w : World} (h : RsP A xs.length sz (fl enc xs) w) (hc : xs.length ≤ c) (hm : m ≤ xs.length) : RsP (sA A m c sz) (xs.drop m).length sz (fl enc (xs.drop m)) w := by
  refine ⟨fl_length hE.len _, fun u hu => h.one u ?_, ?_⟩
  · rw [fl_drop hE] at hu; exact List.mem_of_mem_drop hu
  · by_cases e : (xs.drop m).length = 0
    · exact .inl e
    · rw [List.length_drop] at e
      rcases h.at_ with h0 | ⟨b, off, rfl, hv⟩
      · omega
      · refine .inr ⟨b, off + m * sz, ?_, fun i hi => ?_⟩
        · rw [sA, if_neg (by omega)]
          show some (Addr.add _ _) = _
          unfold Addr.add; split
          · rename_i h0; rw [h0]; rfl
          · rfl
        · rw [fl_drop hE] at hi ⊢
          rw [List.length_drop] at hi
          rw [List.getElem?_drop, Nat.add_assoc]
          exact hv _ (by omega)
theorem rsP_take {α : Type} {enc : α → List Value} {sz : Nat} (hE : Enc enc sz) {A : Option Addr} {m : Nat} {xs : List α} {w : World} (h : RsP A xs.length sz (fl enc xs) w) (hm : m ≤ xs.length) : RsP A (xs.take m).length sz (fl enc (xs.take m)) w := by
  refine ⟨fl_length hE.len _, fun u hu => h.one u ?_, ?_⟩
  · rw [fl_take hE] at hu; exact List.mem_of_mem_take hu
  · rcases h.at_ with h0 | ⟨b, off, rfl, hv⟩
    · left; simp; omega
    · refine .inr ⟨b, off, rfl, fun i hi => ?_⟩
      rw [fl_take hE] at hi ⊢
      rw [List.length_take] at hi
      rw [List.getElem?_take, if_pos (by omega)]
      exact hv _ (by omega)
section
variable {x : Cx} {l : Fr} {L S : List Ch}
theorem rd_dropL {α : Type} {enc : α → List Value} {sz : Nat} (hE : Enc enc sz) {A : Option Addr} {c m : Nat} {e : TypeId} {xs : List α} {w : World} (i : Nat) (h : L[i]? = some (Ch.ls A c e sz enc xs)) (hm : m ≤ xs.length) (hw : Hp x.ok0 x.w0 L S w) : (Ch.rd (sA A m c sz) sz enc (xs.drop m)).P w ∧ ∀ b, (Ch.rd (sA A m c sz) sz enc (xs.drop m)).ok b → b < w.heap.size := by
  have h1 : SlP A xs.length c e sz (fl enc xs) w := hw.own _ (List.mem_of_getElem? h)
  have hc : xs.length ≤ c := by
    rcases h1.at_ with ⟨_, h2, h3⟩ | ⟨g, cur, fz, _, _, h2, _⟩
    · omega
    · exact h2
  refine ⟨rsP_drop hE h1.rs hc hm, fun b hb => ?_⟩
  refine (rd_slrs (hw.rdL (List.mem_of_getElem? h))).2 b ⟨?_, ?_⟩
  · have := hb.1; simp at this; omega
  · have := hb.2
    unfold sA at this
    split at this
    · exact this
    · cases A with
      | none => exact this
      | some a =>
        rw [← this]
        show some a.block = some (Addr.add a _).block
        unfold Addr.add; split <;> rfl
theorem rd_takeL {α : Type} {enc : α → List Value} {sz : Nat} (hE : Enc enc sz) {A : Option Addr} {c m : Nat} {e : TypeId} {xs : List α} {w : World} (i : Nat) (h : L[i]? = some (Ch.ls A c e sz enc xs)) (hm : m ≤ xs.length) (hw : Hp x.ok0 x.w0 L S w) : (Ch.rd A sz enc (xs.take m)).P w ∧ ∀ b, (Ch.rd A sz enc (xs.take m)).ok b → b < w.heap.size := by
  have h1 : SlP A xs.length c e sz (fl enc xs) w := hw.own _ (List.mem_of_getElem? h)
  refine ⟨rsP_take hE h1.rs hm, fun b hb => ?_⟩
  refine (rd_slrs (hw.rdL (List.mem_of_getElem? h))).2 b ⟨?_, hb.2⟩
  have := hb.1; simp at this; omega
variable {d : Nat} {ty : TypeId} {pos : String} {af : Array Edge} {gd : Option (Nat × Bool)}
theorem elem_of {P : Program} {t e : TypeId} (h : P.underlying t = some (.slice e)) : P.elem t = e := by simp [Program.elem, h]
theorem y_drop {α : Type} {y i1 : Operand} {A : Option Addr} {xs : List α} {c m sz bytes : Nat} {i : Int} {k1 : IntKind} {t e : TypeId} {agg : Bool} {z : Value} (h0 : x.P.underlying t = some (.slice e)) (he : TyI x.P e agg sz bytes z) (hy : ev l y = some (.slice A xs.length c)) (hi : ev l i1 = some (.int k1 i)) (hm : i = (m : Int)) (b1 : m ≤ xs.length) :
    Yv x l L S ⟨some d, .slice t y (some i1) none none, ty, pos, af, gd⟩ (.slice (sA A m c sz) (xs.drop m).length (c - m)) := fun a w ha hw => by
  have h1 : x.P.underlying t = some (.slice (x.P.elem t)) := by rw [elem_of h0]; exact h0
  have h2 := elem_of h0
  subst hm
  have e1 := run_slice_l (P := x.P) w t A xs.length c h1 k1 (m : Int) (by omega) (by omega)
  simp [execOp, ha.ev hy, ha.ev hi, run_sliceAt_slice (P := x.P) w t _ _ _ _ h1, e1, sA, sliced, Result.andThen, h2, he.size w]
theorem y_takes {α : Type} {y i1 : Operand} {A : Option Addr} {xs : List α} {c m sz bytes : Nat} {i : Int} {k1 : IntKind} {t e : TypeId} {agg : Bool} {z : Value} (h0 : x.P.underlying t = some (.slice e)) (he : TyI x.P e agg sz bytes z) (hy : ev l y = some (.slice A xs.length c)) (hi : ev l i1 = some (.int k1 i)) (hm : i = (m : Int)) (b1 : m ≤ xs.length) (hc : ∀ w, Hp x.ok0 x.w0 L S w → xs.length ≤ c) :
    Yv x l L S ⟨some d, .slice t y none (some i1) none, ty, pos, af, gd⟩ (.slice A (xs.take m).length c) := fun a w ha hw => by
  have h1 : x.P.underlying t = some (.slice (x.P.elem t)) := by rw [elem_of h0]; exact h0
  have h2 := elem_of h0
  subst hm
  have hc' := hc w hw
  have e1 := run_slice_h (P := x.P) w t A xs.length c h1 k1 (m : Int) (by omega) (by omega)
  have e2 : min m xs.length = m := by omega
  have e3 : A.map (fun a => a.add 0) = A := by cases A <;> rfl
  simp [execOp, ha.ev hy, ha.ev hi, run_sliceAt_slice (P := x.P) w t _ _ _ _ h1, e1, e2, e3, sliced, Result.andThen, h2, he.size w]
theorem cap_L {α : Type} {enc : α → List Value} {A : Option Addr} {c sz : Nat} {e : TypeId} {xs : List α} (i : Nat) (h : L[i]? = some (Ch.ls A c e sz enc xs)) : ∀ w, Hp x.ok0 x.w0 L S w → xs.length ≤ c := fun w hw => by
  have h1 : SlP A xs.length c e sz (fl enc xs) w := hw.own _ (List.mem_of_getElem? h)
  rcases h1.at_ with ⟨_, h2, h3⟩ | ⟨g, cur, fz, _, _, h2, _⟩
  · omega
  · exact h2
end
end Go.Proofs.Ytckfjfnkombelaa
