/- Regions whose order of evaluation Go leaves open. -/
import Derived.Test.YtckfjfnkombelaaLcQN
import Derived.OrdersHeld
namespace Go.Proofs.Ytckfjfnkombelaa
open Go.RowKit Go.Shelf
set_option linter.unusedVariables false

def PkOk (Q : Exit → Act → World → Prop) : Prop := ∀ c a w d v, Q (.panic c) (Act.put a d v) w → Q (.panic c) a w
theorem pk_fn {Q : Exit → Act → World → Prop} : PkOk (np Q) := fun _ _ _ _ _ h => h
theorem pk_seq {x : Cx} {y : Code} {Q : Exit → Act → World → Prop} (h : PkOk Q) : PkOk (Qs x y Q) := h
theorem pk_blk {id : Nat} {Q : Exit → Act → World → Prop} (h : PkOk Q) : PkOk (Qb id Q) := h
theorem pk_loop {x : Cx} {Q : Exit → Act → World → Prop} {σ : Type} {I : σ → Prop} {lf : σ → Fr} {Lf Sf : σ → List Ch} {l1 : Fr} {lt : σ → Prop} (h : PkOk Q) : PkOk (Ql x I lf Lf Sf l1 lt Q) := h

/-- Whatever order is picked from here on; what stands at or beyond place m need not keep C. -/
def wpAnyT (P : Program) (ops : Array Oper) (Q : Exit → Act → World → Prop) (C : World → Prop) (m : Nat) : Nat → Array Bool → Act → World → Prop
  | 0, listed, a, _w => Region.ready .any ops listed = [] ∧ Q .normal a _w
  | fuel + 1, listed, a, w =>
    (Region.ready .any ops listed = [] → Q .normal a w) ∧
    ∀ i ∈ Region.ready .any ops listed, wpOp P ops Q i (fun a' w' => (i < m → C w') ∧ wpAnyT P ops Q C m fuel (listed.setIfInBounds i true) a' w') a w
theorem wpAny_of_T {P : Program} {ops : Array Oper} {Q : Exit → Act → World → Prop} {C : World → Prop} {m : Nat} : ∀ (fuel : Nat) (listed : Array Bool) (a : Act) (w : World), wpAnyT P ops Q C m fuel listed a w → wpAny P .any ops Q fuel listed a w
  | 0, _, _, _, h => h
  | fuel + 1, _, _, _, h => ⟨h.1, fun i hi => wpOp_mono (fun a' w' h' => wpAny_of_T fuel _ a' w' h'.2) (h.2 i hi)⟩
def tailWaits (ops : Array Oper) (m i : Nat) : Bool := (List.range ops.size).all fun t => Nat.blt t m || match ops[t]? with
  | some o => o.after.any fun e => Region.binds .any e && e.on == i
  | none => true
theorem tailWaits_spec {ops : Array Oper} {m i : Nat} (h : tailWaits ops m i = true) {t : Nat} (ht : m ≤ t) {o : Oper} (ho : ops[t]? = some o) : ∃ e ∈ o.after, Region.binds .any e = true ∧ e.on = i := by
  simp only [tailWaits, List.all_eq_true, List.mem_range] at h
  have h1 := h t (Array.getElem?_eq_some_iff.1 ho).1
  simp only [ho, Bool.or_eq_true] at h1
  rcases h1 with h1 | h1
  · have := Nat.le_of_ble_eq_true h1; omega
  · obtain ⟨e, he, hb⟩ := Array.any_eq_true'.1 h1
    simp only [Bool.and_eq_true, beq_iff_eq] at hb
    exact ⟨e, he, hb.1, hb.2⟩
theorem wpAnyT_first {P : Program} {ops : Array Oper} {Q : Exit → Act → World → Prop} {C : World → Prop} {m i : Nat} {oi : Oper} {v : Value} (hi : ops[i]? = some oi) (hsel : ∀ (j : Nat) (o : Oper) cs b, ops[j]? = some o → o.op ≠ .select cs b)
    (hQ : ∀ c a w, Q (.panic c) (a.put oi.dst v) w → Q (.panic c) a w) (hm : tailWaits ops m i = true) :
    ∀ (fuel : Nat) (listed : Array Bool) (a : Act) (w : World),
      (∀ j oj, ops[j]? = some oj → j ≠ i → listed.getD j true = false → (∀ e ∈ oj.after, Region.binds .any e = true → e.on ≠ i) → oi.apart ops oj = true) →
      i ∈ Region.ready .any ops listed → YieldsIf P ops C oi v a → C w →
      wpAnyT P ops Q C m fuel (listed.setIfInBounds i true) (a.put oi.dst v) w → wpAnyT P ops Q C m (fuel + 1) listed a w := by
  intro fuel
  induction fuel with
  | zero =>
    intro listed a w _ hr hy hS H
    refine ⟨fun h => (by rw [h] at hr; cases hr), fun j hj => ?_⟩
    by_cases hji : j = i
    · subst hji; exact hy.wpOp hi hS ⟨fun _ => hS, H⟩
    · have := ready_mono hj hji
      rw [H.1] at this
      cases this
  | succ fuel ih =>
    intro listed a w hfree hr hy hS H
    refine ⟨fun h => (by rw [h] at hr; cases hr), fun j hj => ?_⟩
    by_cases hji : j = i
    · subst hji; exact hy.wpOp hi hS ⟨fun _ => hS, H⟩
    · have h1 := H.2 j (ready_mono hj hji)
      obtain ⟨hjun, oj, hoj, hall⟩ := mem_ready.1 hj
      have hun : listed.getD i false = false := by
        have h0 := (mem_ready.1 hr).1
        rcases Nat.lt_or_ge i listed.size with h' | h'
        · simpa [h'] using h0
        · simp [Array.getElem?_eq_none h']
      have hnot : ∀ e ∈ oj.after, Region.binds .any e = true → e.on ≠ i := fun e he hb heq => by
        have h1 := hall e he hb
        rw [heq, hun] at h1
        cases h1
      have hjm : j < m := by
        rcases Nat.lt_or_ge j m with h | h
        · exact h
        · obtain ⟨e, he, hb, hon⟩ := tailWaits_spec hm h hoj
          exact absurd hon (hnot e he hb)
      have h2 := wpOp_putIf hoj (hfree j oj hoj hji hjun hnot) (fun cs b => hsel i oi cs b hi) (fun cs b => hsel j oj cs b hoj) hQ hy h1
      have hfree' : ∀ k ok, ops[k]? = some ok → k ≠ i → (listed.setIfInBounds j true).getD k true = false →
          (∀ e ∈ ok.after, Region.binds .any e = true → e.on ≠ i) → oi.apart ops ok = true := fun k ok hk hki hun' hno => by
        refine hfree k ok hk hki ?_ hno
        by_cases hjk : j = k
        · subst hjk; exact hjun
        · rw [getD_set_ne true hjk] at hun'; exact hun'
      refine wpOp_mono (fun a' w' h3 => ⟨fun _ => h3.2.1 hjm, ih (listed.setIfInBounds j true) a' w' hfree' (ready_mono hr (Ne.symm hji)) h3.1 (h3.2.1 hjm) ?_⟩) h2
      rw [Array.setIfInBounds_comm _ _ hji]
      exact h3.2.2

/-- Whatever order is picked from here on; 'listed': what has come up; C: what holds behind every operation ahead of place m. -/
def WA (x : Cx) (C : World → Prop) (m : Nat) (ops : Array Oper) (fuel : Nat) (listed : Array Bool) (l : Fr) (L S : List Ch) (Q : Exit → Act → World → Prop) : Prop :=
  ∀ a w, Kn x.N x.ds l a → Hp x.ok0 x.w0 L S w → wpAnyT x.P ops Q C m fuel listed a w
section
variable {x : Cx} {C : World → Prop} {l : Fr} {L S : List Ch} {Q : Exit → Act → World → Prop} {ops : Array Oper} {fuel m : Nat} {listed : Array Bool}
theorem w_draw {id : Nat} {ol : List Oper} (m : Nat) (hro : x.ro = none) (hm : x.P.follows .mixedOrders = true) (h : WA x (Hp x.ok0 x.w0 L S) m ol.toArray ol.length (Array.replicate ol.length false) l L S Q) : W x l L S (.region id ol.toArray true) Q := fun a w ha hw => by
  rw [hro]
  refine (wpIn_wide (n := 0)).2 (wp_region_any hm (wpAny_of_T (C := Hp x.ok0 x.w0 L S) (m := m) _ _ _ _ ?_))
  have := h a { w with drawn := w.drawn + 1 } ha hw.drew
  simpa using this
/-- A row of whatever cells. -/
def Ch.any (b n : Nat) (T : TypeId) : Ch := ⟨fun k => k = b, fun w => ∃ cs : List Value, cs.length = n ∧ w.heap[b]? = some (.cells cs.toArray T (0, 0)), fun _ _ ⟨cs, h1, h2⟩ k => ⟨cs, h1, (k b rfl).trans h2⟩⟩
theorem Hp.any {ok0 : Nat → Prop} {w0 : World} {L L' S : List Ch} {w : World} {i b n : Nat} {cs : List Value} {T : TypeId} (h : Hp ok0 w0 L S w) (hi : SetAt L i (Ch.row b cs T) (Ch.any b n T) L') (hn : cs.length = n) : Hp ok0 w0 L' S w :=
  h.turn hi (fun hp => ⟨cs, hn, hp⟩) (fun _ h => h)
/-- A quiet operation is taken first. -/
theorem a_take {i d : Nat} {op : Op} {ty : TypeId} {pos : String} {af : Array Edge} {gd : Option (Nat × Bool)} {v : Value} {listed' : Array Bool} {L0 S0 : List Ch} (hi : ops[i]? = some ⟨some d, op, ty, pos, af, gd⟩) (hw : ∀ a, Kn x.N x.ds l a → Region.wanted ⟨some d, op, ty, pos, af, gd⟩ (yielded ops a.tmps) = true)
    (hy : Yv x l L0 S0 ⟨some d, op, ty, pos, af, gd⟩ v) (hC : ∀ w, Hp x.ok0 x.w0 L S w → C w) (hC0 : ∀ w, C w → Hp x.ok0 x.w0 L0 S0 w) (hN : Nat.blt d x.N = true) (hpk : PkOk Q)
    (hs : (Region.noSelect ops && Region.free .any ops listed i && (Region.ready .any ops listed).contains i && tailWaits ops m i) = true) (hl : listed.setIfInBounds i true = listed')
    (k : WA x C m ops fuel listed' ((d, v) :: l) L S Q) : WA x C m ops (fuel + 1) listed l L S Q := fun a w ha hh => by
  simp only [Bool.and_eq_true] at hs
  obtain ⟨⟨⟨h1, h2⟩, h3⟩, h4⟩ := hs
  exact wpAnyT_first hi (Region.noSelect_spec h1) (fun c a w h => hpk c a w _ _ h) h4 fuel listed a w (Region.free_spec hi h2) (by simpa using h3) (.inl ⟨hw a ha, fun w' hw' => hy a w' ha (hC0 w' hw')⟩) (hC w hh) (by rw [hl]; exact k _ w (ha.put (Nat.le_of_ble_eq_true hN) v) hh)
/-- .. one whose guard says no. -/
theorem a_skip {i d : Nat} {op : Op} {ty : TypeId} {pos : String} {af : Array Edge} {gd : Option (Nat × Bool)} {listed' : Array Bool} (hi : ops[i]? = some ⟨some d, op, ty, pos, af, gd⟩) (hw : ∀ a, Kn x.N x.ds l a → Region.wanted ⟨some d, op, ty, pos, af, gd⟩ (yielded ops a.tmps) = false)
    (hC : ∀ w, Hp x.ok0 x.w0 L S w → C w) (hN : Nat.blt d x.N = true) (hpk : PkOk Q)
    (hs : (Region.noSelect ops && Region.free .any ops listed i && (Region.ready .any ops listed).contains i && tailWaits ops m i) = true) (hl : listed.setIfInBounds i true = listed')
    (k : WA x C m ops fuel listed' ((d, undef) :: l) L S Q) : WA x C m ops (fuel + 1) listed l L S Q := fun a w ha hh => by
  simp only [Bool.and_eq_true] at hs
  obtain ⟨⟨⟨h1, h2⟩, h3⟩, h4⟩ := hs
  exact wpAnyT_first hi (Region.noSelect_spec h1) (fun c a w h => hpk c a w _ _ h) h4 fuel listed a w (Region.free_spec hi h2) (by simpa using h3) (.inr ⟨hw a ha, rfl⟩) (hC w hh) (by rw [hl]; exact k _ w (ha.put (Nat.le_of_ble_eq_true hN) undef) hh)
theorem wanted_none {ops : Array Oper} {dst : Option Nat} {op : Op} {ty : TypeId} {pos : String} {af : Array Edge} : ∀ a, Kn x.N x.ds l a → Region.wanted ⟨dst, op, ty, pos, af, none⟩ (yielded ops a.tmps) = true := fun _ _ => rfl
theorem wanted_yes {ops : Array Oper} {dst : Option Nat} {op : Op} {ty : TypeId} {pos : String} {af : Array Edge} {j t : Nat} {want : Bool} (hj : (ops[j]?).bind (·.dst) = some t) (ht : look l t = some (.bool want)) :
    ∀ a, Kn x.N x.ds l a → Region.wanted ⟨dst, op, ty, pos, af, some (j, want)⟩ (yielded ops a.tmps) = true := fun a ha => by
  have hy : yielded ops a.tmps j = some want := by simp [yielded, hj, ha.kn t _ ht]
  simp [Region.wanted, hy]
theorem wanted_no {ops : Array Oper} {dst : Option Nat} {op : Op} {ty : TypeId} {pos : String} {af : Array Edge} {j t : Nat} {want b : Bool} (hj : (ops[j]?).bind (·.dst) = some t) (ht : look l t = some (.bool b)) (hb : b = !want) :
    ∀ a, Kn x.N x.ds l a → Region.wanted ⟨dst, op, ty, pos, af, some (j, want)⟩ (yielded ops a.tmps) = false := fun a ha => by
  have hy : yielded ops a.tmps j = some b := by simp [yielded, hj, ha.kn t _ ht]
  simp [Region.wanted, hy, hb]
theorem wanted_nou {ops : Array Oper} {dst : Option Nat} {op : Op} {ty : TypeId} {pos : String} {af : Array Edge} {j t : Nat} {want : Bool} (hj : (ops[j]?).bind (·.dst) = some t) (ht : look l t = some undef) :
    ∀ a, Kn x.N x.ds l a → Region.wanted ⟨dst, op, ty, pos, af, some (j, want)⟩ (yielded ops a.tmps) = false := fun a ha => by
  have hy : yielded ops a.tmps j = none := by simp [yielded, hj, ha.kn t _ ht, undef]
  simp [Region.wanted, hy]
/-- The one operation that may come up: by the rules of the ordered walk. -/
def Qn (x : Cx) (C : World → Prop) (m i : Nat) (ops : Array Oper) (fuel : Nat) (listed : Array Bool) (Q : Exit → Act → World → Prop) : Exit → Act → World → Prop := Exit.then (fun a w => (i < m → C w) ∧ wpAnyT x.P ops Q C m fuel listed a w) Q
theorem e_one {C : World → Prop} {l : Fr} {L S : List Ch} {i : Nat} (hC : ∀ w, Hp x.ok0 x.w0 L S w → C w) (h : WA x C m ops fuel listed l L S Q) : E x l L S .normal (Qn x C m i ops fuel listed Q) := fun a w ha hw => ⟨fun _ => hC w hw, h a w ha hw⟩
theorem e_tail {C : World → Prop} {l : Fr} {L S : List Ch} {i : Nat} (hi : Nat.ble m i = true) (h : WA x C m ops fuel listed l L S Q) : E x l L S .normal (Qn x C m i ops fuel listed Q) := fun a w ha hw => ⟨fun h' => by have := Nat.le_of_ble_eq_true hi; omega, h a w ha hw⟩
theorem wpOp_of_list {o : Oper} {i : Nat} {a : Act} {w : World} {K : Act → World → Prop} (hi : ops[i]? = some o) (h : wpList x.P ops (Exit.then K Q) [o] a w) : wpOp x.P ops Q i K a w := by
  unfold wpOp
  simp only [hi]
  unfold wpList at h
  split
  · rename_i hw
    rw [if_pos hw] at h
    rcases h with h | h
    · refine .inl ?_
      unfold Oper.wp at h ⊢
      cases hx : (execOp a.eval o).run x.P w with
      | halt hh w' => rw [hx] at h; cases hh <;> exact h
      | ok n w' =>
        rw [hx] at h
        cases n with
        | enter f args => exact calls_mono h fun e w'' hR => by cases e <;> exact hR
        | _ => exact h
    · exact .inr h
  · rename_i hw
    rw [if_neg hw] at h
    exact h
/-- An operation that yields a value, nothing, or enters a function. -/
def Tame : Result Next → Prop
  | .ok (.value _) _ => True
  | .ok .skip _ => True
  | .ok (.enter _ _) _ => True
  | .ok _ _ => False
  | .halt _ _ => True
theorem tame_v {P : Program} {s : Sem Value} {w : World} : Tame ((do pure (Next.value (← s)) : Sem Next).run P w) := by
  rw [Sem.run_bind]
  cases s.run P w with
  | ok v w' => trivial
  | halt h w' => trivial
theorem tame_u {P : Program} {s : Sem Unit} {w : World} : Tame ((do s; pure Next.skip : Sem Next).run P w) := by
  rw [Sem.run_bind]
  cases s.run P w with
  | ok v w' => trivial
  | halt h w' => trivial
def tameOp : Op → Bool
  | .alloc _ | .box .. | .build .. | .buildSlice .. | .load .. | .store .. | .makeMap .. | .makeSlice .. | .lookup .. | .mapUpdate .. | .insert .. | .mapEntry .. | .entryStore .. | .slice .. | .convert .. | .move .. | .assign .. | .fieldAddr .. | .indexAddr .. | .index .. | .field .. | .extract .. => true
  | .call { callee := .builtin .append, .. } | .call { callee := .builtin .copy, .. } | .call { callee := .builtin .delete, .. } | .call { callee := .builtin .unsafeSliceData, .. } | .call { callee := .builtin .unsafeString, .. } => true
  | _ => false
theorem tame_op {P : Program} {ρ : Operand → Value} {o : Oper} {w : World} (h : tameOp o.op = true) : Tame ((execOp ρ o).run P w) := by
  obtain ⟨dst, op, ty, pos, af, gd⟩ := o
  cases op with
  | call c =>
    obtain ⟨cal, ys, tys⟩ := c
    cases cal with
    | builtin b => cases b <;> first | (simp [tameOp] at h; done) | exact tame_v
    | _ => simp [tameOp] at h
  | alloc e => exact tame_v
  | box e y => exact tame_v
  | build t ps => exact tame_v
  | buildSlice t n ps => exact tame_v
  | load t y => exact tame_v
  | store t y u => exact tame_u
  | makeMap t r => exact tame_v
  | makeSlice t a b => exact tame_v
  | lookup t a b c => exact tame_v
  | mapUpdate t a b c => exact tame_u
  | insert t a b c => exact tame_u
  | mapEntry t a b => exact tame_v
  | entryStore t a b c => exact tame_u
  | slice t a b c d => exact tame_v
  | convert t u a => exact tame_v
  | move a => trivial
  | fieldAddr t a b => exact tame_v
  | indexAddr t a b => exact tame_v
  | index t a b => exact tame_v
  | field t a b => exact tame_v
  | extract a b => exact tame_v
  | assign a => trivial
  | _ => simp [tameOp] at h
theorem tame_call {g : Operand} {dst : Option Nat} {ty : TypeId} {pos : String} {af : Array Edge} {gd : Option (Nat × Bool)} {ys : List Operand} {tys : Array TypeId} {f : Nat} {first cap : Array Value} (hg : ev l g = some (.func (.func f) first cap)) (hen : Enters x.P f) :
    ∀ a w, Kn x.N x.ds l a → Tame ((execOp a.eval ⟨dst, .call { callee := .value g, args := ys.toArray, argTypes := tys }, ty, pos, af, gd⟩).run x.P w) := fun a w ha => by
  have : (execOp a.eval ⟨dst, .call { callee := .value g, args := ys.toArray, argTypes := tys }, ty, pos, af, gd⟩).run x.P w = .ok (.enter f (first ++ (ys.map a.eval).toArray ++ cap)) w := by
    simp only [execOp, resolve, ha.ev hg, Deferred.ofValue]
    simp [invoke]
    rw [← Array.append_assoc, hen]
  rw [this]
  trivial
theorem a_one {o : Oper} {i : Nat} {listed' : Array Bool} (hro : x.ro = none) (hi : ops[i]? = some o) (hnd : Op.isDefer o.op = false) (ht : ∀ a w, Kn x.N x.ds l a → Tame ((execOp a.eval o).run x.P w)) (hr : Region.ready .any ops listed = [i]) (hl : listed.setIfInBounds i true = listed')
    (h : WL x l L S ops [o] (Qn x C m i ops fuel listed' Q)) : WA x C m ops (fuel + 1) listed l L S Q := fun a w ha hh => by
  refine ⟨fun h0 => absurd (hr ▸ h0) (by simp), fun j hj => ?_⟩
  rw [hr] at hj
  obtain rfl : j = i := by simpa using hj
  rw [hl]
  refine wpOp_of_list hi ?_
  have h1 := h a w ha hh
  rw [hro] at h1
  unfold wpListIn at h1
  unfold wpList
  split
  · rename_i hw
    rw [if_pos hw] at h1
    obtain ⟨_, h1⟩ := h1
    have e : Oper.semAt (fw none).round a.eval o = execOp a.eval o := rfl
    rw [e] at h1
    refine .inl ?_
    unfold Oper.wp
    have ht' := ht a w ha
    cases hx : (execOp a.eval o).run x.P w with
    | halt hh w' => rw [hx] at h1; cases hh <;> exact h1
    | ok n w' =>
      rw [hx] at h1 ht'
      cases n with
      | value v => exact h1
      | skip => exact h1
      | enter f args =>
        have := (callsIn_wide (n := 0 - 1)).1 (show CallsIn Fence.wide (0 - 1) x.P f args w' _ from h1.2)
        exact calls_mono this fun e w'' hR => by cases e <;> exact hR
      | _ => exact ht'.elim
  · rename_i hw
    rw [if_neg hw] at h1
    exact h1.2
theorem wa_mono {l' : Fr} (hs : ∀ a, Kn x.N x.ds l a → Kn x.N x.ds l' a) (k : WA x C m ops fuel listed l' L S Q) : WA x C m ops fuel listed l L S Q := fun a w ha hw => k a w (hs a ha) hw
theorem wa_as {t : Nat} {v : Value} (v' : Value) (h : look l t = some v) (e : v = v') (k : WA x C m ops fuel listed ((t, v') :: l) L S Q) : WA x C m ops fuel listed l L S Q := wa_mono (fun a ha => ha.mono fun t' u h' => by
    simp only [look] at h'
    cases e2 : Nat.beq t t' with
    | true => rw [e2] at h'; cases h'; rw [← Nat.eq_of_beq_eq_true e2, h, e]
    | false => rw [e2] at h'; exact h') k
theorem wa_at {t : Nat} {p : Prop} [Decidable p] (h : look l t = some (.bool (decide p))) (hp : p) (k : WA x C m ops fuel listed ((t, .bool true) :: l) L S Q) : WA x C m ops fuel listed l L S Q := wa_as (.bool true) h (by rw [decide_eq_true hp]) k
theorem wa_af {t : Nat} {p : Prop} [Decidable p] (h : look l t = some (.bool (decide p))) (hp : ¬ p) (k : WA x C m ops fuel listed ((t, .bool false) :: l) L S Q) : WA x C m ops fuel listed l L S Q := wa_as (.bool false) h (by rw [decide_eq_false hp]) k
theorem wa_splitp {t : Nat} {p : Prop} [Decidable p] (h : look l t = some (.bool (decide p))) (ht : p → WA x C m ops fuel listed ((t, .bool true) :: l) L S Q) (hf : ¬ p → WA x C m ops fuel listed ((t, .bool false) :: l) L S Q) : WA x C m ops fuel listed l L S Q := by
  by_cases hp : p
  · exact wa_at h hp (ht hp)
  · exact wa_af h hp (hf hp)
theorem a_done {fuel : Nat} (hr : Region.ready .any ops listed = []) (h : E x l L S .normal Q) : WA x C m ops fuel listed l L S Q := fun a w ha hh => by
  cases fuel with
  | zero => exact ⟨hr, h a w ha hh⟩
  | succ n => exact ⟨fun _ => h a w ha hh, by rw [hr]; simp⟩
end
end Go.Proofs.Ytckfjfnkombelaa
