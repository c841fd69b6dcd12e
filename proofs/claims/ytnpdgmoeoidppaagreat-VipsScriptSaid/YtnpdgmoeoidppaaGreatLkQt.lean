import Derived.Test.YtnpdgmoeoidppaaGreatPbQt
import Derived.Test.YtnpdgmoeoidppaaGreatPaQt
import Derived.Laws.StructEq
import Derived.ChangeKeysEq
import Derived.ProofKit
/- names that are the same; the laws of sums -/
namespace Go.Proofs.YtnpdgmoeoidppaaGreat
open Go.RowKit Go.Shelf
set_option linter.unusedVariables false
set_option linter.unusedSimpArgs false

theorem bX {α : Type} {l : List α} {d : α} {k : Nat} (h : k < l.length) : l.getD k d ∈ l := by
  rw [List.getD_eq_getElem?_getD, List.getElem?_eq_getElem h]; exact List.getElem_mem h
theorem okN_low {n : aV} (h : iy n = true) : iy (d5 n) = true := by
  have e := iL (eL n) (e7 n)
  rw [fU n h] at e
  rw [← e]
  refine (gI _ ?_).1
  intro s hs
  obtain ⟨t, ht, rfl⟩ := List.mem_map.1 hs
  rw [dd]; exact e7 n t ht
theorem nameCk_low {n : aV} (h : bB n = 0) : bB (d5 n) = 0 := by
  obtain ⟨h1, h2⟩ := nameCk_zero.1 h
  exact nameCk_zero.2 ⟨by rw [dd]; exact h1, okN_low h2⟩
end Go.Proofs.YtnpdgmoeoidppaaGreat

/- Structs and arrays compared. -/
namespace Go.Proofs.YtnpdgmoeoidppaaGreat
open Go.RowKit Go.Shelf
set_option linter.unusedVariables false
set_option linter.unusedSimpArgs false

/-- An equality that the model settles so from some depth on. -/
def EqD (P : Program) (n : Nat) (t : TypeId) (v u : Value) (b : Bool) : Prop := ∀ d w, (Op.equalIn (d + n) t v u).run P w = .ok b w
def EqF (P : Program) (n : Nat) (xs ys : Array Value) (fs : List Field) (b : Bool) : Prop := ∀ d w, (Op.eqFields (d + n) xs ys fs).run P w = .ok b w
section
variable {P : Program} {n m : Nat} {t : TypeId} {xs ys : Array Value} {f : Field} {fs : List Field} {v u : Value} {r s : Bool}
theorem EqD.up (h : EqD P m t v u r) (hm : m ≤ n) : EqD P n t v u r := fun d w => by
  obtain ⟨k, rfl⟩ : ∃ k, n = k + m := ⟨n - m, by omega⟩
  rw [← Nat.add_assoc]; exact h _ w
theorem eqd_int {k k' : IntKind} {a b : Int} (h : P.underlying t = some (.int k')) : EqD P 1 t (.int k a) (.int k b) (a == b) := fun d w => run_equalIn_int w d t k k' a b h
theorem eqd_bool {a b : Bool} (h : P.underlying t = some .bool) : EqD P 1 t (.bool a) (.bool b) (a == b) := fun d w => run_equalIn_bool' w d t a b h
theorem eqd_str {a b : aV} (h : P.underlying t = some .string) : EqD P 1 t (.string (ba a)) (.string (ba b)) (a == b) := fun d w => by
  rw [run_equalIn_string w d t _ _ h, ey, ey]
theorem eqf_nil : EqF P n xs ys [] true := fun d w => by simp [Op.eqFields]
theorem gJ (hn : (f.name == "_") = false) (ha : ∀ w, (part f.type xs f.offset).run P w = .ok v w) (hb : ∀ w, (part f.type ys f.offset).run P w = .ok u w) (he : EqD P m f.type v u r) (hm : Nat.ble m n = true) (hr : EqF P n xs ys fs s) : EqF P n xs ys (f :: fs) (r && s) := fun d w => by
  have hn' : f.name ≠ "_" := by simpa using hn
  rw [Op.eqFields]
  simp only [if_pos hn', Sem.run_bind, ha, hb, (he.up (Nat.le_of_ble_eq_true hm)) d w, Result.andThen_ok]
  cases r
  · simp
  · simpa using hr d w
theorem eqd_struct {fa : Array Field} (hu : P.underlying t = some (.struct fa)) (hp : P.stoodInHeld t = false) (h : EqF P n xs ys fa.toList r) : EqD P (n + 1) t (.agg xs) (.agg ys) r := fun d w => by
  have hf : P.fieldsOf t = fa := by simp [Program.fieldsOf, hu]
  rw [← Nat.add_assoc, run_equalIn_struct (P := P) w (d + n) t xs ys (by rw [hf]; exact hu) hp, hf]
  exact h d w
end
section
variable {x : Cx} {l : Fr} {L S : List Ch} {d : Nat} {ty : TypeId} {pos : String} {af : Array Edge} {gd : Option (Nat × Bool)}
theorem il {y z : Operand} {xs ys : Array Value} {b : Bool} {yt zt : TypeId} {n : Nat} (hm : x.P.eqGuardType x.P.depth yt = false) (hy : ev l y = some (.agg xs)) (hz : ev l z = some (.agg ys)) (h : EqD x.P n yt (.agg xs) (.agg ys) b) (hn : Nat.ble n 10000 = true) :
    Yv x l L S ⟨some d, .binOp .eql yt y z zt, ty, pos, af, gd⟩ (.bool b) := fun a w ha hw => by
  have he : (Op.equalIn 10000 yt (.agg xs) (.agg ys)).run x.P w = .ok b w := by
    obtain ⟨k, hk⟩ : ∃ k, 10000 = k + n := ⟨10000 - n, by have := Nat.le_of_ble_eq_true hn; omega⟩
    rw [hk]; exact h k w
  simp only [execOp, ha.ev hy, ha.ev hz]
  simp [run_eqGuard_agg w .eql yt y z xs ys hm, run_eql_struct, he]
theorem y_nest {y z : Operand} {xs ys : Array Value} {b : Bool} {yt zt : TypeId} {n : Nat} (hm : x.P.eqGuardType x.P.depth yt = false) (hy : ev l y = some (.agg xs)) (hz : ev l z = some (.agg ys)) (h : EqD x.P n yt (.agg xs) (.agg ys) b) (hn : Nat.ble n 10000 = true) :
    Yv x l L S ⟨some d, .binOp .neq yt y z zt, ty, pos, af, gd⟩ (.bool (!b)) := fun a w ha hw => by
  have he : (Op.equalIn 10000 yt (.agg xs) (.agg ys)).run x.P w = .ok b w := by
    obtain ⟨k, hk⟩ : ∃ k, 10000 = k + n := ⟨10000 - n, by have := Nat.le_of_ble_eq_true hn; omega⟩
    rw [hk]; exact h k w
  simp only [execOp, ha.ev hy, ha.ev hz]
  simp [run_eqGuard_agg w .neq yt y z xs ys hm, run_neq_struct, he]
theorem y_nestd {y z : Operand} {xs ys : Array Value} {p : Prop} [Decidable p] {yt zt : TypeId} {n : Nat} (hm : x.P.eqGuardType x.P.depth yt = false) (hy : ev l y = some (.agg xs)) (hz : ev l z = some (.agg ys)) (h : EqD x.P n yt (.agg xs) (.agg ys) (decide p)) (hn : Nat.ble n 10000 = true) :
    Yv x l L S ⟨some d, .binOp .neq yt y z zt, ty, pos, af, gd⟩ (.bool (decide (¬ p))) := (y_nest hm hy hz h hn).eq (by rw [decide_not])
end
end Go.Proofs.YtnpdgmoeoidppaaGreat

/- Maps. -/
namespace Go.Proofs.YtnpdgmoeoidppaaGreat
open Go.RowKit Go.Shelf
set_option linter.unusedVariables false
set_option linter.unusedSimpArgs false
set_option linter.unusedSectionVars false

/-- The first entry of a key. -/
def fk {α : Type} [DecidableEq α] (a : α) : List α → List MapEntry → Nat → Option (Nat × Value)
  | b :: bs, e :: es, i => if a = b then some (i, e.val) else fk a bs es (i + 1)
  | _, _, _ => none
theorem beq_ba (a b : aV) : ((ba a) == (ba b)) = decide (a = b) := by
  rw [beq_toListBytes, ey, ey, Bool.eq_iff_iff]; simp
/-- How keys are compared. -/
structure KeyL {α : Type} [DecidableEq α] (P : Program) (kt : TypeId) (encK : α → Value) : Prop where
  chk : ∀ (e : Bool) (a : α) (w : World), (Instr.checkKey e 10000 kt (encK a)).run P w = .ok () w
  find : ∀ (a : α) (bs : List α) (es : List MapEntry) (w : World), es.map (·.key) = bs.map encK → (Instr.findKey kt (encK a) es).run P w = .ok (fk a bs es 0) w
  same : ∀ a : α, Instr.sameBits 10000 (encK a) (encK a) = true
theorem cV {P : Program} {kt : TypeId} (h : P.underlying kt = some .string) : KeyL P kt (fun s : aV => .string (ba s)) where
  chk e a w := by
    have hk : ∀ n, (Instr.checkKey e (n + 1) kt (.string (ba a))).run P w = .ok () w := fun n => by simp [Instr.checkKey, run_underlying h]
    exact hk 9999
  find a bs es w he := by
    have key : ∀ (bs : List aV) (es : List MapEntry) (i : Nat), es.map (·.key) = bs.map (fun s : aV => Value.string (ba s)) → Instr.findNow .string (.string (ba a)) es i = some (fk a bs es i) := by
      intro bs
      induction bs with
      | nil => intro es i he; cases es <;> simp_all [Instr.findNow, fk]
      | cons b bs ih =>
        intro es i he
        cases es with
        | nil => simp at he
        | cons e es =>
          simp only [List.map_cons, List.cons.injEq] at he
          have hb : ((ba a) == (ba b)) = decide (a = b) := by
            rw [beq_ba]
          simp only [Instr.findNow, he.1, Instr.sameNow, hb, fk]
          by_cases hab : a = b
          · simp [hab]
          · simp [hab, ih es (i + 1) he.2]
    simp [Instr.findKey, run_underlying h, key bs es 0 he]
  same a := by
    have h1 : (ba a == ba a) = true := by rw [beq_ba]; simp
    simpa [Instr.sameBits] using h1
/-- A struct's key. -/
theorem keyl_agg {α : Type} [DecidableEq α] {P : Program} {kt : TypeId} {fs : Array Field} {cs : α → List Value} {n : Nat} (h : P.underlying kt = some (.struct fs)) (hc : ∀ (e : Bool) (a : α) (w : World), (Instr.checkKey e 10000 kt (.agg (cs a).toArray)).run P w = .ok () w)
    (he : ∀ a b : α, EqD P n kt (.agg (cs a).toArray) (.agg (cs b).toArray) (decide (a = b))) (hn : Nat.ble n 10000 = true) (hs : ∀ a, Instr.sameBits 10000 (.agg (cs a).toArray) (.agg (cs a).toArray) = true) : KeyL P kt (fun a : α => .agg (cs a).toArray) where
  chk := hc
  find a bs es w hk := by
    have key : ∀ (bs : List α) (es : List MapEntry) (i : Nat) (w : World), es.map (·.key) = bs.map (fun a : α => Value.agg (cs a).toArray) → (Instr.findAsking kt (.agg (cs a).toArray) es i).run P w = .ok (fk a bs es i) w := by
      intro bs
      induction bs with
      | nil => intro es i w he; cases es <;> simp_all [Instr.findAsking, fk]
      | cons b bs ih =>
        intro es i w hes
        cases es with
        | nil => simp at hes
        | cons e es =>
          simp only [List.map_cons, List.cons.injEq] at hes
          have hq : (Op.equal kt (.agg (cs a).toArray) (.agg (cs b).toArray)).run P w = .ok (decide (a = b)) w := by
            obtain ⟨k, hk⟩ : ∃ k, 10000 = k + n := ⟨10000 - n, by have := Nat.le_of_ble_eq_true hn; omega⟩
            show (Op.equalIn 10000 kt _ _).run P w = _
            rw [hk]; exact he a b k w
          simp only [Instr.findAsking, hes.1, Sem.run_bind, hq, Result.andThen_ok, fk]
          by_cases hab : a = b
          · simp [hab]
          · simp [hab, ih es (i + 1) w hes.2]
    cases bs with
    | nil =>
      have : es = [] := by cases es <;> simp_all
      subst this
      simp [Instr.findKey, run_underlying h, Instr.findNow, fk]
    | cons b bs =>
      cases es with
      | nil => simp at hk
      | cons e es =>
        have h1 : e.key = .agg (cs b).toArray := (List.cons.inj hk).1
        have hnow : Instr.findNow (.struct fs) (.agg (cs a).toArray) (e :: es) 0 = none := by simp [Instr.findNow, h1, Instr.sameNow]
        simp only [Instr.findKey, Sem.run_bind, run_underlying h, Result.andThen_ok, hnow]
        exact key (b :: bs) (e :: es) 0 w hk
  same := hs
/-- A map's pairs: another value for a key, or one more. -/
def upd {α β : Type} [DecidableEq α] : List (α × β) → α → β → List (α × β)
  | [], a, v => [(a, v)]
  | (b, u) :: r, a, v => if a = b then (b, v) :: r else (b, u) :: upd r a v
def cA {α β : Type} [DecidableEq α] : List (α × β) → α → Option β
  | [], _ => none
  | (b, u) :: r, a => if a = b then some u else cA r a
def rmv {α β : Type} [DecidableEq α] : List (α × β) → α → List (α × β)
  | [], _ => []
  | (b, u) :: r, a => if a = b then r else (b, u) :: rmv r a
structure MpP {α β : Type} (r : Nat) (encK : α → Value) (encV : β → Value) (m : List (α × β)) (w : World) : Prop where
  at_ : ∃ es clock, w.heap[r]? = some (.map es clock) ∧ es.toList.map (·.key) = m.map (fun p => encK p.1) ∧ es.toList.map (·.val) = m.map (fun p => encV p.2) ∧ (es.toList.map (·.born)).Nodup ∧ ∀ e ∈ es.toList, e.born < clock
def Ch.mp {α β : Type} (r : Nat) (encK : α → Value) (encV : β → Value) (m : List (α × β)) : Ch :=
  ⟨fun k => k = r, MpP r encK encV m, fun w w' ⟨es, c, h1, h2⟩ hk => ⟨es, c, (hk r rfl).trans h1, h2⟩⟩
section
variable {α β : Type} [DecidableEq α] {encK : α → Value} {encV : β → Value}
theorem fk_lkp (a : α) : ∀ (m : List (α × β)) (es : List MapEntry) (i : Nat), es.map (·.val) = m.map (fun p => encV p.2) → (fk a (m.map (·.1)) es i).map (·.2) = (cA m a).map encV
  | [], es, i, h => by cases es <;> simp_all [fk, cA]
  | (b, u) :: m, [], i, h => by simp at h
  | (b, u) :: m, e :: es, i, h => by
    simp only [List.map_cons, List.cons.injEq] at h
    simp only [List.map_cons, fk, cA]
    by_cases hab : a = b
    · simp [hab, h.1]
    · simp [hab, fk_lkp a m es (i + 1) h.2]
theorem fk_none (a : α) : ∀ (m : List (α × β)) (es : List MapEntry) (i : Nat), es.length = m.length → fk a (m.map (·.1)) es i = none → ∀ v : β, upd m a v = m ++ [(a, v)]
  | [], es, i, _, h => fun v => rfl
  | (b, u) :: m, [], i, hl, h => by simp at hl
  | (b, u) :: m, e :: es, i, hl, h => fun v => by
    simp only [List.map_cons, fk] at h
    by_cases hab : a = b
    · rw [if_pos hab] at h; cases h
    · rw [if_neg hab] at h
      simp only [upd, if_neg hab, List.cons_append]
      rw [fk_none a m es (i + 1) (by simpa using hl) h v]
theorem fk_some (a : α) : ∀ (m : List (α × β)) (es : List MapEntry) (i j : Nat) (u : Value), es.length = m.length → fk a (m.map (·.1)) es i = some (j, u) → i ≤ j ∧ (∃ e, es[j - i]? = some e) ∧ ((m.map (·.1))[j - i]? = some a) ∧
    ∀ v : β, (upd m a v).map (·.1) = m.map (·.1) ∧ (upd m a v).map (fun p => encV p.2) = (m.map (fun p => encV p.2)).set (j - i) (encV v) ∧ (rmv m a) = m.eraseIdx (j - i)
  | [], es, i, j, u, _, h => by simp [fk] at h
  | (b, v0) :: m, [], i, j, u, hl, h => by simp at hl
  | (b, v0) :: m, e :: es, i, j, u, hl, h => by
    simp only [List.map_cons, fk] at h
    by_cases hab : a = b
    · rw [if_pos hab] at h
      cases h
      subst hab
      simp [upd, rmv]
    · rw [if_neg hab] at h
      obtain ⟨h1, h2, h3, h4⟩ := fk_some a m es (i + 1) j u (by simpa using hl) h
      have hj : j - i = (j - (i + 1)) + 1 := by omega
      refine ⟨by omega, by rw [hj]; simpa using h2, by rw [hj]; simpa using h3, fun v => ?_⟩
      obtain ⟨h5, h6, h7⟩ := h4 v
      rw [hj]
      simp [upd, rmv, hab, h5, h6, h7]
end
section
variable {x : Cx} {l : Fr} {L S : List Ch} {Q : Exit → Act → World → Prop} {ops : Array Oper} {rest : List Oper} {d : Nat} {ty : TypeId} {pos : String} {af : Array Edge} {gd : Option (Nat × Bool)}
variable {α β : Type} [DecidableEq α] {encK : α → Value} {encV : β → Value}
theorem da (encK : α → Value) (encV : β → Value) {t : TypeId} (hN : Nat.blt d x.N = true) (k : ∀ r, WL x ((d, .map (some r)) :: l) (Ch.mp r encK encV ([] : List (α × β)) :: L) S ops rest Q) : WL x l L S ops (⟨some d, .makeMap t none, ty, pos, af, none⟩ :: rest) Q :=
  eR (fun r => .map (some r)) (fun r => Ch.mp r encK encV ([] : List (α × β)) :: L) (fun _ => S) rfl rfl (fun _ => nofun) hN
    (fun a w ha hw => ⟨w.heap.size, w.alloc (.map #[] 0), by simp [execOp, Instr.makeMap], hw.fresh (Upd.alloc w _) _ ⟨#[], 0, World.alloc_heap_new w _, rfl, rfl, by simp, by simp⟩ (fun b hb => Nat.le_of_eq hb.symm) (fun b hb => by rw [show b = w.heap.size from hb]; simp)⟩) k
theorem MpP.find {P : Program} {kt : TypeId} {r : Nat} {m : List (α × β)} {w : World} (h : MpP r encK encV m w) (hk : KeyL P kt encK) (a : α) : ∃ es clock, w.heap[r]? = some (.map es clock) ∧ (Instr.findKey kt (encK a) es.toList).run P w = .ok (fk a (m.map (·.1)) es.toList 0) w ∧ (fk a (m.map (·.1)) es.toList 0).map (·.2) = (cA m a).map encV := by
  obtain ⟨es, c, h1, h2, h3, _⟩ := h.at_
  exact ⟨es, c, h1, hk.find a (m.map (·.1)) es.toList w (by rw [h2, List.map_map]; rfl), fk_lkp a m es.toList 0 h3⟩
theorem iR {t kt et : TypeId} {y z : Operand} {r : Nat} {m : List (α × β)} {a : α} {agg : Bool} {sz bytes : Nat} {zv : Value} (ht : x.P.underlying t = some (.map kt et)) (hk : KeyL x.P kt encK) (he : TyI x.P et agg sz bytes zv) (hy : ev l y = some (.map (some r))) (hz : ev l z = some (encK a)) (hm : ∀ w, Hp x.ok0 x.w0 L S w → MpP r encK encV m w) :
    Yv x l L S ⟨some d, .lookup t y z false, ty, pos, af, gd⟩ (((cA m a).map encV).getD zv) := fun ac w hac hw => by
  obtain ⟨es, c, h1, h2, h3⟩ := (hm w hw).find hk a
  simp only [execOp, hac.ev hy, hac.ev hz]
  cases hf : fk a (m.map (·.1)) es.toList 0 with
  | none =>
    rw [hf] at h2 h3
    have h4 : cA m a = none := by simpa using h3.symm
    simp [Instr.lookup, run_underlying ht, getObj, Sem.run, h1, hk.chk, h2, he.zero, h4, Result.andThen]
  | some p =>
    obtain ⟨j, v⟩ := p
    rw [hf] at h2 h3
    have h4 : (cA m a).map encV = some v := by simpa using h3.symm
    simp [Instr.lookup, run_underlying ht, getObj, Sem.run, h1, hk.chk, h2, h4, Result.andThen]
theorem ez {t kt et : TypeId} {y z : Operand} {r : Nat} {m : List (α × β)} {a : α} {agg : Bool} {sz bytes : Nat} {zv : Value} (ht : x.P.underlying t = some (.map kt et)) (hk : KeyL x.P kt encK) (he : TyI x.P et agg sz bytes zv) (hy : ev l y = some (.map (some r))) (hz : ev l z = some (encK a)) (hm : ∀ w, Hp x.ok0 x.w0 L S w → MpP r encK encV m w) :
    Yv x l L S ⟨some d, .lookup t y z true, ty, pos, af, gd⟩ (.tuple [((cA m a).map encV).getD zv, .bool (cA m a).isSome].toArray) := fun ac w hac hw => by
  obtain ⟨es, c, h1, h2, h3⟩ := (hm w hw).find hk a
  simp only [execOp, hac.ev hy, hac.ev hz]
  cases hf : fk a (m.map (·.1)) es.toList 0 with
  | none =>
    rw [hf] at h2 h3
    have h4 : cA m a = none := by simpa using h3.symm
    simp [Instr.lookup, run_underlying ht, getObj, Sem.run, h1, hk.chk, h2, he.zero, h4, Result.andThen]
  | some p =>
    obtain ⟨j, v⟩ := p
    rw [hf] at h2 h3
    have h4 : (cA m a).map encV = some v := by simpa using h3.symm
    have h5 : (cA m a).isSome = true := by cases hl : cA m a <;> simp_all
    simp [Instr.lookup, run_underlying ht, getObj, Sem.run, h1, hk.chk, h2, h4, h5, Result.andThen]
theorem upd_some {es : List MapEntry} {m : List (α × β)} {a : α} {j : Nat} {u : Value} {v : β} (h2 : es.map (·.key) = m.map (fun p => encK p.1)) (h3 : es.map (·.val) = m.map (fun p => encV p.2)) (hf : fk a (m.map (·.1)) es 0 = some (j, u)) :
    (∃ e, es[j]? = some e ∧ e.key = encK a) ∧ (es.modify j fun e => { e with key := encK a, val := encV v }).map (·.key) = (upd m a v).map (fun p => encK p.1) ∧ (es.modify j fun e => { e with key := encK a, val := encV v }).map (·.val) = (upd m a v).map (fun p => encV p.2) ∧
      (es.modify j fun e => { e with key := encK a, val := encV v }).map (·.born) = es.map (·.born) := by
  have hl : es.length = m.length := by have := congrArg List.length h2; simpa using this
  obtain ⟨_, ⟨e, he⟩, hm, hq⟩ := fk_some (encV := encV) a m es 0 j u hl hf
  obtain ⟨q1, q2, q3⟩ := hq v
  simp only [Nat.sub_zero] at he hm q1 q2 q3
  have hek : e.key = encK a := by
    have h5 := congrArg (fun l : List Value => l[j]?) h2
    simp only [List.getElem?_map, he] at h5
    rw [List.getElem?_map] at hm
    cases hmj : m[j]? with
    | none => rw [hmj] at hm; cases hm
    | some p => rw [hmj] at hm h5; simp at hm h5; rw [h5, hm]
  have hk1 : (upd m a v).map (fun p => encK p.1) = m.map (fun p => encK p.1) := by
    have := congrArg (List.map encK) q1
    rw [List.map_map, List.map_map] at this
    exact this
  refine ⟨⟨e, he, hek⟩, ?_, ?_, ?_⟩
  · rw [hk1, ← h2]
    apply List.ext_getElem?
    intro i
    simp only [List.getElem?_map, List.getElem?_modify]
    by_cases hij : j = i
    · subst hij; simp [he, hek]
    · simp [hij]
  · rw [q2, ← h3]
    apply List.ext_getElem?
    intro i
    simp only [List.getElem?_map, List.getElem?_modify, List.getElem?_set]
    by_cases hij : j = i
    · subst hij
      have := (List.getElem?_eq_some_iff.1 he).1
      simp [he, this]
    · simp [hij]
  · apply List.ext_getElem?
    intro i
    simp only [List.getElem?_map, List.getElem?_modify]
    by_cases hij : j = i
    · subst hij; simp [he]
    · simp [hij]
theorem o_mapUpd {t kt et : TypeId} {y z u : Operand} {r i : Nat} {m : List (α × β)} {a : α} {v : β} {L' : List Ch} (ht : x.P.underlying t = some (.map kt et)) (hk : KeyL x.P kt encK) (hy : ev l y = some (.map (some r))) (hz : ev l z = some (encK a)) (hu : ev l u = some (encV v)) (hi : SetAt L i (Ch.mp r encK encV m) (Ch.mp r encK encV (upd m a v)) L')
    (k : WL x l L' S ops rest Q) : WL x l L S ops (⟨none, .mapUpdate t y z u, ty, pos, af, none⟩ :: rest) Q :=
  wl_unit rfl rfl (fun _ => nofun) (fun ac w hac hw => by
    obtain ⟨es, c, h1, h2, h3, h4, h5⟩ := (show MpP r encK encV m w from hw.own _ hi.mem).at_
    have hfind := hk.find a (m.map (·.1)) es.toList w (by rw [h2, List.map_map]; rfl)
    have hlt : r < w.heap.size := (Array.getElem?_eq_some_iff.1 h1).1
    cases hf : fk a (m.map (·.1)) es.toList 0 with
    | none =>
      rw [hf] at hfind
      have hl : es.toList.length = m.length := by have := congrArg List.length h2; simpa using this
      have hupd := fk_none a m es.toList 0 hl hf v
      refine ⟨w.putObj r (.map (es.push { key := encK a, val := encV v, born := c }) (c + 1)), ?_, hw.upd hi ⟨rfl, rfl, rfl, by simp, fun k _ hn => World.putObj_heap_other (fun e => hn e), Nat.le_refl _⟩ ?_ (fun b hb => .inl hb)⟩
      · simp [execOp, hac.ev hy, hac.ev hz, hac.ev hu, Instr.mapUpdate, run_underlying ht, getObj, setObj, Sem.run, h1, hk.chk, hfind, Result.andThen, World.putObj]
      · refine ⟨_, _, World.putObj_heap_same hlt, ?_, ?_, ?_, ?_⟩
        · rw [hupd]; simp [h2]
        · rw [hupd]; simp [h3]
        · simp only [Array.toList_push, List.map_append, List.map_cons, List.map_nil]
          rw [List.nodup_append]
          refine ⟨h4, by simp, ?_⟩
          intro b hb c' hc'
          simp at hc'
          obtain ⟨e, he, rfl⟩ := List.mem_map.1 hb
          have := h5 e he
          omega
        · intro e he
          simp only [Array.toList_push, List.mem_append, List.mem_singleton] at he
          rcases he with he | rfl
          · have := h5 e he; omega
          · simp
    | some p =>
      obtain ⟨j, u0⟩ := p
      rw [hf] at hfind
      obtain ⟨⟨e, he, hek⟩, q1, q2, q3⟩ := upd_some (v := v) h2 h3 hf
      have he' : es[j]? = some e := by simpa using he
      have hstay : (Instr.keyThatStays e.key (encK a)).run x.P w = .ok (encK a) w := by
        rw [hek]; simp [Instr.keyThatStays, hk.same]
      refine ⟨w.putObj r (.map (es.modify j fun e => { e with key := encK a, val := encV v }) c), ?_, hw.upd hi ⟨rfl, rfl, rfl, by simp, fun k _ hn => World.putObj_heap_other (fun e => hn e), Nat.le_refl _⟩ ?_ (fun b hb => .inl hb)⟩
      · simp [execOp, hac.ev hy, hac.ev hz, hac.ev hu, Instr.mapUpdate, run_underlying ht, getObj, setObj, Sem.run, h1, hk.chk, hfind, he', hstay, Result.andThen, World.putObj]
      · refine ⟨_, _, World.putObj_heap_same hlt, by simpa using q1, by simpa using q2, by rw [Array.toList_modify, q3]; exact h4, ?_⟩
        intro e2 he2
        have hb : e2.born ∈ es.toList.map (·.born) := by
          rw [← q3, ← Array.toList_modify]; exact List.mem_map.2 ⟨e2, he2, rfl⟩
        obtain ⟨e3, h6, h7⟩ := List.mem_map.1 hb
        rw [← h7]; exact h5 e3 h6) k
end
end Go.Proofs.YtnpdgmoeoidppaaGreat

/- Addresses, records, entries: plain laws. -/
namespace Go.Proofs.YtnpdgmoeoidppaaGreat
open Go.RowKit Go.Shelf
set_option linter.unusedVariables false
set_option linter.unusedSimpArgs false

/-- An address. -/
structure Ad where
  six : Bool
  hi : Int
  lo : Int
  deriving DecidableEq
def dN (a : Ad) : List Value := [.bool a.six, .int .u64 a.hi, .int .u64 a.lo]
def ad0 : Ad := ⟨false, 0, 0⟩
/-- A record's data (without texts). -/
structure Dt where
  ad : Ad
  name : aV
  mail : aV
  n0 : Int
  n1 : Int
  n2 : Int
  n3 : Int
  n4 : Int
  raw : aV
  deriving DecidableEq
/-- A record. -/
structure Rc where
  name : aV
  ty : Int
  cl : Int
  ttl : Int
  dt : Dt
  deriving DecidableEq
/-- An entry; where its slices lie stands beside. -/
structure En where
  host : aV
  kind : Int
  cluster : aV
  addrs : List Ad
  alias : aV
  ports : List Int
  ttl : Int
  deriving DecidableEq
/-- addr.Check. -/
def cn (a : Ad) : Int := if a.six = false ∧ (a.hi ≠ 0 ∨ 4294967296 ≤ a.lo) then 2 else 0
theorem shr32 {n : Int} (h : 0 ≤ n) : (n.fdiv (2 ^ min (32 : Int).toNat IntKind.u64.bits) ≠ 0) ↔ 4294967296 ≤ n := by
  have e : (2 : Int) ^ min (32 : Int).toNat IntKind.u64.bits = 4294967296 := by decide
  rw [e, Int.fdiv_eq_ediv_of_nonneg _ (by decide)]
  omega
/-- entry.ports. -/
def portOk (l : List Int) (i : Nat) : Prop := 1 ≤ l.getD i 0 ∧ l.getD i 0 ≤ 65535 ∧ (0 < i → l.getD (i - 1) 0 < l.getD i 0)
instance (l : List Int) (i : Nat) : Decidable (portOk l i) := by unfold portOk; infer_instance
/-- entry.addrs. -/
def adOk (l : List Ad) (i : Nat) : Prop := cn (l.getD i ad0) = 0 ∧ ∀ j, j < i → l.getD i ad0 ≠ l.getD j ad0
instance (l : List Ad) (i : Nat) : Decidable (adOk l i) := by unfold adOk; infer_instance
def each {α : Type} (D : α → Dt) (B : α → Bool) (r : Rc) (l : List α) : List Rc := (l.filter B).map fun a => { r with dt := D a }
end Go.Proofs.YtnpdgmoeoidppaaGreat

/- addresses, entries -/
namespace Go.Proofs.YtnpdgmoeoidppaaGreat
open Go.RowKit Go.Shelf
set_option linter.unusedVariables false
set_option linter.unusedSimpArgs false

theorem ig : Enters Tryz.prog 75 := enters_of Tryz.func75 (by kernel_rfl) rfl
theorem dc : FA Tryz.prog 29 0 0 := fun b o w => by kernel_rfl
theorem dG : FA Tryz.prog 29 1 1 := fun b o w => by kernel_rfl
theorem cW : FA Tryz.prog 29 2 2 := fun b o w => by kernel_rfl
theorem cP : TyI Tryz.prog 27 false 1 8 (.int .u64 0) := TyI.mk' (by kernel_rfl) (fun _ => by kernel_rfl)
theorem aN : TyI Tryz.prog 29 true 3 24 (.agg #[.bool false, .int .u64 0, .int .u64 0]) := TyI.mk' (by kernel_rfl) (fun _ => by kernel_rfl)
theorem gk : TyI Tryz.prog 4 false 1 1 (.bool false) := TyI.mk' (by kernel_rfl) (fun _ => by kernel_rfl)

/-- Addresses are compared field by field. -/
theorem fq (a b : Ad) : EqD Tryz.prog 2 29 (.agg (dN a).toArray) (.agg (dN b).toArray) (decide (a = b)) := by
  have h : EqD Tryz.prog 2 29 (.agg (dN a).toArray) (.agg (dN b).toArray) ((a.six == b.six) && ((a.hi == b.hi) && ((a.lo == b.lo) && true))) :=
    eqd_struct (n := 1) Tryz.underlying29 (by kernel_rfl) (gJ (v := .bool a.six) (u := .bool b.six) (by kernel_rfl) (fun _ => by kernel_rfl) (fun _ => by kernel_rfl) (eqd_bool Tryz.underlying4) rfl (gJ (v := .int .u64 a.hi) (u := .int .u64 b.hi) (by kernel_rfl) (fun _ => by kernel_rfl) (fun _ => by kernel_rfl) (eqd_int Tryz.underlying27) rfl (gJ (v := .int .u64 a.lo) (u := .int .u64 b.lo) (by kernel_rfl) (fun _ => by kernel_rfl) (fun _ => by kernel_rfl) (eqd_int Tryz.underlying27) rfl eqf_nil)))
  have e : ((a.six == b.six) && ((a.hi == b.hi) && ((a.lo == b.lo) && true))) = decide (a = b) := by
    cases a; cases b
    rw [Bool.eq_iff_iff]
    simp
  rw [e] at h; exact h
theorem i4 : KeyL Tryz.prog 29 (fun a : Ad => .agg (dN a).toArray) :=
  keyl_agg Tryz.underlying29 (fun e a w => by kernel_rfl) fq rfl (fun a => by simp [Instr.sameBits, dN])

theorem ck_six {a : Ad} (h : a.six = true) : cn a = 0 := by unfold cn; rw [if_neg (fun h2 => by rw [h] at h2; exact absurd h2.1 (by simp))]
theorem ck_bad {a : Ad} (h : a.six = false) (h2 : a.hi ≠ 0 ∨ 4294967296 ≤ a.lo) : cn a = 2 := by unfold cn; rw [if_pos ⟨h, h2⟩]
theorem ck_ok {a : Ad} (h : ¬ a.hi ≠ 0) (h2 : ¬ 4294967296 ≤ a.lo) : cn a = 0 := by unfold cn; rw [if_neg (fun h3 => by have := h3.2; omega)]

theorem eC (a : Ad) (h0 : 0 ≤ a.lo) : cO Tryz.prog 75 #[.agg (dN a).toArray] (.int .i64 (cn a)) := by
 intro w0
 refine bd (ok0 := no) (S := []) (args := [.agg (dN a).toArray]) 17 Tryz.func75 rfl rfl rfl (by simp) (by simp) ?_
 refine ao ?_
 refine ab ?_
 refine bE rfl rfl rfl (fun b1 => ?_)
 refine ap (ai rfl) rfl rfl ?_
 refine ae ?_
 refine aj ?_
 refine ao ?_
 refine ao ?_
 refine ab ?_
 refine ap (aB dc rfl) rfl rfl ?_
 refine ap (aM 0 gk rfl rfl rfl) rfl rfl ?_
 refine bk (t := 4) rfl (fun h1_1 => ?_) (fun h1_1 => ?_)
 refine ap (bJ rfl) rfl rfl ?_
 refine ap (ak rfl) rfl rfl ?_
 refine aO rfl rfl rfl rfl ?_
 refine aO rfl rfl rfl rfl ?_
 refine aO rfl rfl rfl rfl ?_
 refine aO rfl rfl rfl rfl ?_
 refine d9 rfl rfl rfl ?_
 refine d9 rfl rfl rfl ?_
 refine d9 rfl rfl rfl ?_
 refine d9 rfl rfl rfl ?_
 refine aO rfl rfl rfl rfl ?_
 refine ap (aW rfl rfl) rfl rfl ?_
 refine ae ?_
 refine aj ?_
 refine au rfl ?_
 refine aH ?_
 refine aj ?_
 refine ao ?_
 refine ab ?_
 refine ap (ai rfl) rfl rfl ?_
 refine ae ?_
 refine aj ?_
 refine aF ?_
 refine aJ (ts := [2]) rfl rfl rfl (fun w hw => ?_)
 exact ⟨by rw [ck_six h1_1]; rfl, hw.base⟩
 refine ap (bJ rfl) rfl rfl ?_
 refine ap (ak rfl) rfl rfl ?_
 refine az rfl rfl ?_
 refine ap (aB dG rfl) rfl rfl ?_
 refine az rfl rfl ?_
 refine ap (aM 0 cP rfl rfl rfl) rfl rfl ?_
 refine az rfl rfl ?_
 refine ap (cv rfl rfl) rfl rfl ?_
 refine aC (t := 9) rfl (fun h1_6 => ?_) (fun h1_6 => ?_)
 refine az rfl rfl ?_
 refine ap (ak rfl) rfl rfl ?_
 refine aO rfl rfl rfl rfl ?_
 refine aO rfl rfl rfl rfl ?_
 refine aO rfl rfl rfl rfl ?_
 refine aO rfl rfl rfl rfl ?_
 refine az rfl rfl ?_
 refine ap (aX rfl rfl) rfl rfl ?_
 refine ap (aX rfl rfl) rfl rfl ?_
 refine ae ?_
 refine aj ?_
 refine ay rfl ?_
 refine ao ?_
 refine ab ?_
 refine ap (ai rfl) rfl rfl ?_
 refine ae ?_
 refine aj ?_
 refine aF ?_
 refine aA ?_
 refine aJ (ts := [2]) rfl rfl rfl (fun w hw => ?_)
 exact ⟨by rw [ck_bad h1_1 (.inl h1_6)]; rfl, hw.base⟩
 refine az rfl rfl ?_
 refine ap (ak rfl) rfl rfl ?_
 refine az rfl rfl ?_
 refine ap (aB cW rfl) rfl rfl ?_
 refine az rfl rfl ?_
 refine ap (aM 0 cP rfl rfl rfl) rfl rfl ?_
 refine az rfl rfl ?_
 refine ap (y_shr rfl rfl (by omega)) rfl rfl ?_
 refine az rfl rfl ?_
 refine ap (cv rfl rfl) rfl rfl ?_
 refine aC (t := 14) rfl (fun h1_11 => ?_) (fun h1_11 => ?_)
 refine az rfl rfl ?_
 refine ap (aW rfl rfl) rfl rfl ?_
 refine ap (aX rfl rfl) rfl rfl ?_
 refine ae ?_
 refine aj ?_
 refine ay rfl ?_
 refine ao ?_
 refine ab ?_
 refine ap (ai rfl) rfl rfl ?_
 refine ae ?_
 refine aj ?_
 refine aF ?_
 refine aA ?_
 refine aJ (ts := [2]) rfl rfl rfl (fun w hw => ?_)
 rw [shr32 h0] at h1_11
 exact ⟨by rw [ck_bad h1_1 (.inr h1_11)]; rfl, hw.base⟩
 refine az rfl rfl ?_
 refine ap (aW rfl rfl) rfl rfl ?_
 refine ap (aX rfl rfl) rfl rfl ?_
 refine ae ?_
 refine aj ?_
 refine au rfl ?_
 refine aH ?_
 refine aj ?_
 refine ao ?_
 refine ab ?_
 refine ap (ai rfl) rfl rfl ?_
 refine ae ?_
 refine aj ?_
 refine aF ?_
 refine aJ (ts := [2]) rfl rfl rfl (fun w hw => ?_)
 rw [shr32 h0] at h1_11
 exact ⟨by rw [ck_ok h1_6 h1_11]; rfl, hw.base⟩

theorem fN (a : Ad) (h0 : 0 ≤ a.lo) : cO Tryz.prog 79 #[.agg (dN a).toArray] (.int .i64 (cn a)) := by
 intro w0
 refine bd (ok0 := no) (S := []) (args := [.agg (dN a).toArray]) 16 Tryz.func79 rfl rfl rfl (by simp) (by simp) ?_
 refine ao ?_
 refine ab ?_
 refine bE rfl rfl rfl (fun b1 => ?_)
 refine ap (ai rfl) rfl rfl ?_
 refine ae ?_
 refine aj ?_
 refine ao ?_
 refine ao ?_
 refine ab ?_
 refine ap (aB dc rfl) rfl rfl ?_
 refine ap (aM 0 gk rfl rfl rfl) rfl rfl ?_
 refine bk (t := 4) rfl (fun h1_1 => ?_) (fun h1_1 => ?_)
 refine ap (bJ rfl) rfl rfl ?_
 refine ap (ak rfl) rfl rfl ?_
 refine aO rfl rfl rfl rfl ?_
 refine aO rfl rfl rfl rfl ?_
 refine aO rfl rfl rfl rfl ?_
 refine aO rfl rfl rfl rfl ?_
 refine d9 rfl rfl rfl ?_
 refine d9 rfl rfl rfl ?_
 refine d9 rfl rfl rfl ?_
 refine aO rfl rfl rfl rfl ?_
 refine ap (aW rfl rfl) rfl rfl ?_
 refine ae ?_
 refine aj ?_
 refine au rfl ?_
 refine aH ?_
 refine aj ?_
 refine ao ?_
 refine ab ?_
 refine ap (ai rfl) rfl rfl ?_
 refine ae ?_
 refine aj ?_
 refine aF ?_
 refine aJ (ts := [2]) rfl rfl rfl (fun w hw => ?_)
 exact ⟨by rw [ck_six h1_1]; rfl, hw.base⟩
 refine ap (bJ rfl) rfl rfl ?_
 refine ap (ak rfl) rfl rfl ?_
 refine az rfl rfl ?_
 refine ap (aB dG rfl) rfl rfl ?_
 refine az rfl rfl ?_
 refine ap (aM 0 cP rfl rfl rfl) rfl rfl ?_
 refine az rfl rfl ?_
 refine ap (cv rfl rfl) rfl rfl ?_
 refine aC (t := 9) rfl (fun h1_6 => ?_) (fun h1_6 => ?_)
 refine az rfl rfl ?_
 refine ap (ak rfl) rfl rfl ?_
 refine aO rfl rfl rfl rfl ?_
 refine aO rfl rfl rfl rfl ?_
 refine aO rfl rfl rfl rfl ?_
 refine az rfl rfl ?_
 refine ap (aX rfl rfl) rfl rfl ?_
 refine ap (aX rfl rfl) rfl rfl ?_
 refine ae ?_
 refine aj ?_
 refine ay rfl ?_
 refine ao ?_
 refine ab ?_
 refine ap (ai rfl) rfl rfl ?_
 refine ae ?_
 refine aj ?_
 refine aF ?_
 refine aA ?_
 refine aJ (ts := [2]) rfl rfl rfl (fun w hw => ?_)
 exact ⟨by rw [ck_bad h1_1 (.inl h1_6)]; rfl, hw.base⟩
 refine az rfl rfl ?_
 refine ap (ak rfl) rfl rfl ?_
 refine az rfl rfl ?_
 refine ap (aB cW rfl) rfl rfl ?_
 refine az rfl rfl ?_
 refine ap (aM 0 cP rfl rfl rfl) rfl rfl ?_
 refine az rfl rfl ?_
 refine ap (gF rfl rfl) rfl rfl ?_
 refine aC (t := 13) rfl (fun h1_10 => ?_) (fun h1_10 => ?_)
 refine az rfl rfl ?_
 refine ap (aW rfl rfl) rfl rfl ?_
 refine ap (aX rfl rfl) rfl rfl ?_
 refine ae ?_
 refine aj ?_
 refine ay rfl ?_
 refine ao ?_
 refine ab ?_
 refine ap (ai rfl) rfl rfl ?_
 refine ae ?_
 refine aj ?_
 refine aF ?_
 refine aA ?_
 refine aJ (ts := [2]) rfl rfl rfl (fun w hw => ?_)
 exact ⟨by rw [ck_bad h1_1 (.inr h1_10)]; rfl, hw.base⟩
 refine az rfl rfl ?_
 refine ap (aW rfl rfl) rfl rfl ?_
 refine ap (aX rfl rfl) rfl rfl ?_
 refine ae ?_
 refine aj ?_
 refine au rfl ?_
 refine aH ?_
 refine aj ?_
 refine ao ?_
 refine ab ?_
 refine ap (ai rfl) rfl rfl ?_
 refine ae ?_
 refine aj ?_
 refine aF ?_
 refine aJ (ts := [2]) rfl rfl rfl (fun w hw => ?_)
 exact ⟨by rw [ck_ok h1_6 h1_10]; rfl, hw.base⟩

theorem rs_none {A : Option Addr} {n sz : Nat} {cs : List Value} {w : World} (h : RsP A n sz cs w) (hA : A.isNone = true) : n = 0 := by
  rcases h.at_ with h0 | ⟨b, o, rfl, _⟩
  · exact h0
  · cases hA
end Go.Proofs.YtnpdgmoeoidppaaGreat

/- the references of addresses, data, records, entries -/
namespace Go.Proofs.YtnpdgmoeoidppaaGreat
open Go.RowKit Go.Shelf
set_option linter.unusedVariables false
set_option linter.unusedSimpArgs false

theorem ent_79 : Enters Tryz.prog 79 := enters_of Tryz.func79 (by kernel_rfl) rfl

set_option maxRecDepth 100000 in
theorem c_kit_Same_n (xs ys : List aV) (A B : Option Addr) (c e : Nat) (hl : xs.length ≤ 1000000000000) : RC Tryz.prog 26 #[.slice A xs.length c, .slice B ys.length e] [Ch.rd A 1 dw xs, Ch.rd B 1 dw ys] (α := Unit) (fun _ => .bool (decide (xs = ys))) (fun _ => []) := by
 refine bi (args := [.slice A xs.length c, .slice B ys.length e]) 26 Tryz.func26 rfl rfl rfl (fun w0 => ?_)
 refine ao ?_
 refine ab ?_
 refine ap (ai rfl) rfl rfl ?_
 refine ae ?_
 refine aj ?_
 refine ao ?_
 refine ao ?_
 refine ab ?_
 refine ap (ak rfl) rfl rfl ?_
 refine ap (bM Tryz.underlying59 rfl) rfl rfl ?_
 refine ap (ak rfl) rfl rfl ?_
 refine ap (bM Tryz.underlying59 rfl) rfl rfl ?_
 refine ap (cv rfl rfl) rfl rfl ?_
 refine aC (t := 10) rfl (fun h1_4 => ?_) (fun h1_4 => ?_)
 refine ae ?_
 refine aj ?_
 refine ay rfl ?_
 refine ao ?_
 refine ab ?_
 refine ap (ai rfl) rfl rfl ?_
 refine ae ?_
 refine aj ?_
 refine aF ?_
 refine aA ?_
 refine aJ (ts := [4]) rfl rfl rfl (fun w hw => ?_)
 have hne : xs ≠ ys := fun he => by rw [he] at h1_4; exact absurd rfl h1_4
 exact ⟨(), by rw [decide_eq_false hne]; rfl, hw.base, hw.toNews⟩
 refine ae ?_
 refine aj ?_
 refine au rfl ?_
 refine aH ?_
 refine aj ?_
 refine ao ?_
 refine ao ?_
 refine ab ?_
 refine ap (ai rfl) rfl rfl ?_
 refine ae ?_
 refine aj ?_
 refine aP ?_
 refine b8 (σ := Nat) [4, 5, 11, 12, 13, 14, 15, 16, 17, 18, 19, 20, 21, 22, 23, 24, 25] (fun k => k ≤ xs.length ∧ xs.take k = ys.take k) (fun k => xs.length - k) (fun k => [(5, .int .i64 k)]) (0) ?_ ⟨rfl, trivial⟩ (fun k hI => ?_)
 exact ⟨Nat.zero_le _, rfl⟩
 refine ao ?_
 refine ao ?_
 refine ab ?_
 refine ap (ak rfl) rfl rfl ?_
 refine ap (ak rfl) rfl rfl ?_
 refine ap (bM Tryz.underlying59 rfl) rfl rfl ?_
 refine ap (bF rfl rfl) rfl rfl ?_
 refine aC (t := 14) rfl (fun h4_3 => ?_) (fun h4_3 => ?_)
 refine ae ?_
 refine aj ?_
 refine ay rfl ?_
 refine aH ?_
 refine aj ?_
 refine ao ?_
 refine aP ?_
 refine ao ?_
 refine eh 9 rfl mixed ?_
 refine aD (i := 0) rfl ah (ak rfl) aw aw rfl (aa (aq (aa (av (aq (aa ar)))))) (by kernel_rfl) rfl ?_
 refine aD (i := 1) rfl ah (ak rfl) aw aw rfl (aa (aq (aa (av (aq (aa ar)))))) (by kernel_rfl) rfl ?_
 refine aD (i := 2) rfl ah (bP  Tryz.underlying59 bL rfl rfl (bY 0 rfl) rfl (by omega)) aw aw rfl (aa (aq (aa (av (aq (aa ar)))))) (by kernel_rfl) rfl ?_
 refine aD (i := 3) rfl ah (cG dq ([] : aV) bL rfl (bY 0 rfl) (by omega) rfl rfl) aw aw rfl (aa (aq (aa (av (aq (aa ar)))))) (by kernel_rfl) rfl ?_
 refine aD (i := 4) rfl ah (ak rfl) aw aw rfl (aa (aq (aa (av (aq (aa ar)))))) (by kernel_rfl) rfl ?_
 refine aD (i := 5) rfl ah (ak rfl) aw aw rfl (aa (aq (aa (av (aq (aa ar)))))) (by kernel_rfl) rfl ?_
 refine aD (i := 6) rfl ah (bP  Tryz.underlying59 bL rfl rfl (bY 1 rfl) rfl (by omega)) aw aw rfl (aa (aq (aa (av (aq (aa ar)))))) (by kernel_rfl) rfl ?_
 refine aD (i := 7) rfl ah (cG dq ([] : aV) bL rfl (bY 1 rfl) (by omega) rfl rfl) aw aw rfl (aa (aq (aa (av (aq (aa ar)))))) (by kernel_rfl) rfl ?_
 refine aD (i := 8) rfl ah (y_neqs rfl rfl) aw aw rfl (aa (aq (aa (av (aq (aa ar)))))) (by kernel_rfl) rfl ?_
 refine cT (t := 25) rfl (fun h6_8 => ?_) (fun h6_8 => ?_)
 refine cB (by kernel_rfl) ?_
 refine aj ?_
 refine ay rfl ?_
 refine ao ?_
 refine ab ?_
 refine ap (ai rfl) rfl rfl ?_
 refine ae ?_
 refine aj ?_
 refine aF ?_
 refine aL ?_
 refine aA ?_
 refine bu ?_
 refine aL ?_
 refine aA ?_
 refine aJ (ts := [4]) rfl rfl rfl (fun w hw => ?_)
 focus first
   | (have hne : xs ≠ ys := gn ([] : aV) (k := k) (by simpa using h6_8)
      exact ⟨(), by rw [decide_eq_false hne]; rfl, hw.base, hw.toNews⟩)
   | (have hk : k = xs.length := by omega
      have he : xs = ys := by have := hI.2; rw [hk, List.take_length, List.take_of_length_le (by omega)] at this; exact this
      exact ⟨(), by rw [decide_eq_true he]; rfl, hw.base, hw.toNews⟩)
 refine cB (by kernel_rfl) ?_
 refine aj ?_
 refine au rfl ?_
 refine aH ?_
 refine bq ?_
 refine aj ?_
 refine ab ?_
 refine ap (ak rfl) rfl rfl ?_
 refine ap (bg rfl rfl (by omega) (by omega)) rfl rfl ?_
 refine ap (ai rfl) rfl rfl ?_
 refine ae ?_
 refine bo (k + 1) ?_ ?_ ⟨rfl, trivial⟩ (by repeat (first | exact trivial | refine ⟨rfl, ?_⟩)) aw
 exact ⟨by omega, iZ ([] : aV) (by omega) (by omega) hI.2 (by simpa using h6_8)⟩
 omega
 refine ae ?_
 refine aj ?_
 refine au rfl ?_
 refine bC ?_
 refine aY ?_
 refine aU ?_
 refine a8 ?_
 refine aj ?_
 refine ao ?_
 refine ab ?_
 refine ap (ai rfl) rfl rfl ?_
 refine ae ?_
 refine aj ?_
 refine aF ?_
 refine aJ (ts := [4]) rfl rfl rfl (fun w hw => ?_)
 focus first
   | (have hne : xs ≠ ys := gn ([] : aV) (k := k) (by simpa using h6_8)
      exact ⟨(), by rw [decide_eq_false hne]; rfl, hw.base, hw.toNews⟩)
   | (have hk : k = xs.length := by omega
      have he : xs = ys := by have := hI.2; rw [hk, List.take_length, List.take_of_length_le (by omega)] at this; exact this
      exact ⟨(), by rw [decide_eq_true he]; rfl, hw.base, hw.toNews⟩)

/-- Not too much. -/
def lightE (e : En) : Bool := decide (e.host.length ≤ 300) && decide (e.alias.length ≤ 300) && decide (e.cluster.length ≤ 300) && decide (e.addrs.length ≤ 20) && decide (e.ports.length ≤ 20)

end Go.Proofs.YtnpdgmoeoidppaaGreat

/- From a law's call that answers true and turns nothing that lay, to what its row asks. -/
namespace Go.Proofs.YtnpdgmoeoidppaaGreat
open Go.RowKit Go.Shelf Go.ChangeShapes Go.WideShapes Go.ChangeAt
set_option linter.unusedVariables false

theorem stay_all {H : Type} {enc : TypeId × Value → H} {P : Program} (hl : laidOutB P = true) {W W' : World} (hb : Below W.heap.size W W') :
    ∀ {ts : List TypeId} {vs : List Value} {ds : List (DataW H)} {ps : List MemPlace}, ts.all (fun t => P.readableRec t && decide (t < P.types.size)) = true → (∀ x ∈ ps, x.block < W.heap.size) →
      DataW.TrodAll enc P W 0 (fun _ => true) true ts vs ds ps → DataW.TrodAll enc P W' 0 (fun b => decide (b < W.heap.size)) true ts vs ds ps
  | [], [], [], _, _, _, h => h
  | [], [], _ :: _, _, _, _, h => h.elim
  | [], _ :: _, _, _, _, _, h => h.elim
  | _ :: _, [], _, _, _, _, h => h.elim
  | _ :: _, _ :: _, [], _, _, _, h => h.elim
  | t :: ts, v :: vs, d :: ds, ps, hr, hlt, h => by
    obtain ⟨p, q, h1, h2, rfl⟩ := h
    simp only [List.all_cons, Bool.and_eq_true, decide_eq_true_eq] at hr
    exact ⟨p, q, Below.trod hl hr.1.1 hr.1.2 h1 hb (fun x hx => hlt x (List.mem_append_left _ hx)), stay_all hl hb hr.2 (fun x hx => hlt x (List.mem_append_right _ hx)) h2, rfl⟩
theorem keptBut_of {W W' : World} (hb : Upd no W W') (may : MemPlace → Prop) : W.keptBut W' may := by
  refine ⟨hb.os, hb.output, fun i hi => ?_⟩
  rw [hb.block i hi id]
  cases W.heap[i]? with
  | none => rfl
  | some o => cases o <;> simp
theorem law_post {H : Type} {enc : TypeId × Value → H} {P : Program} {f : Func} {s : ChangeSpec} {W W' : World} {args : Array Value} {ds : List (DataW H)} {p : List MemPlace} {tb : TypeId} (hl : laidOutB P = true) (hr : f.params.toList.all (fun t => P.readableRec t && decide (t < P.types.size)) = true) (hv : s.vars = [])
    (hW : DataW.Whole enc P f.params.toList s.vars false W args.toList ds [] p) (hs : s.fn H (ds ++ []) = { results := [.lit (.bool true)], args := ds }) (hrt : f.resultTypes = #[tb]) (hb : P.underlying tb = some .bool) (hu : Upd no W W') :
    s.post enc P f false true false false W args (.bool true) W' := by
  have hlt := hW.lt
  obtain ⟨q, r, h1, h2, rfl, h3, h4⟩ := id hW
  refine ⟨ds, [], q ++ r, [], q, r, hW, ?_, ?_, ?_, ?_, nofun⟩
  · rw [hs, hrt]
    exact trodAll_mk1 (shut_bool hb true)
  · rw [hs]
    exact stay_all hl hu.below hr (fun x hx => hlt x (List.mem_append_left _ hx)) h1
  · rw [hs, hv] at *
    exact h2
  · exact keptBut_of hu _
end Go.Proofs.YtnpdgmoeoidppaaGreat
