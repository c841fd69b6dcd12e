import Derived.Test.YtnpdgmoeoidppaaGreatPfQx
import Derived.OrdersIn
import Derived.Test.YtnpdgmoeoidppaaGreatIeQx
/- Regions with open order, inside rounds too, calls of yield in them; scopes; parts of slices. -/
namespace Go.Proofs.YtnpdgmoeoidppaaGreat
open Go.RowKit Go.Shelf
set_option linter.unusedVariables false
set_option linter.unusedSimpArgs false

/-! A scope through which nothing jumps. -/
section
variable {x : Cx} {l : Fr} {L S : List Ch} {Q : Exit → Act → World → Prop}
theorem db {x : Cx} {Bk : List Ch} {σ : Type} {It : σ → Prop} {Ij : Code → σ → Prop} {Lf : σ → List Ch} {S : List Ch} : jS (Qr x Bk It Ij Lf S) := fun _ _ _ _ _ h => h.elim
end

/-! Regions with open order. -/
def noDefer (ops : Array Oper) : Bool := ops.all fun o => match o.op with
  | .defer _ => false
  | _ => true
theorem jD {ops : Array Oper} (h : noDefer ops = true) {j : Nat} {o : Oper} (ho : ops[j]? = some o) : ∀ c, o.op ≠ .defer c := fun c e => by
  have h1 := Array.all_eq_true'.1 h o (Array.mem_of_getElem? ho)
  rw [e] at h1
  cases h1
theorem wpOpIn_putIf {ro : Option Nat} {P : Program} {ops : Array Oper} {Q : Exit → Act → World → Prop} {C : World → Prop} {j : Nat} {oi oj : Oper} {v : Value} (hj : ops[j]? = some oj) (hap : oi.apart ops oj = true)
    (hsi : ∀ cs b, oi.op ≠ .select cs b) (hsj : ∀ cs b, oj.op ≠ .select cs b) (hdj : ∀ c, oj.op ≠ .defer c)
    (hQ : ∀ c a w, Q (.panic c) (a.put oi.dst v) w → Q (.panic c) a w) {K : Act → World → Prop} {a : Act} {w : World}
    (hy : YieldsIf P ops C oi v a) (h : wpOpIn (fw ro) 0 P ops Q j K (a.put oi.dst v) w) :
    wpOpIn (fw ro) 0 P ops Q j (fun a' w' => YieldsIf P ops C oi v a' ∧ K (a'.put oi.dst v) w') a w := by
  obtain ⟨h1, h2, h3⟩ := Oper.apart_spec hap
  have fY : ∀ (a : Act), YieldsIf P ops C oi v a → ∀ u, YieldsIf P ops C oi v (a.put oj.dst u) := fun a hy u =>
    hy.of_same (execOp_put oi hsi a oj.dst u h3) (wanted_put oi a oj.dst u h3)
  have keepD : ∀ d, YieldsIf P ops C oi v { a with defers := d :: a.defers } := fun d => hy.of_same rfl rfl
  unfold wpOpIn at *
  simp only [hj] at *
  rw [wanted_put oj a oi.dst v h1] at h
  split
  · rename_i hw
    simp only [hw, if_true] at h
    unfold Oper.wpIn at *
    refine ⟨fun _ _ => trivial, ?_⟩
    have h := h.2
    rw [Oper.semAt_eq _ _ _ hdj, execOp_put oj hsj a oi.dst v h1] at h
    rw [Oper.semAt_eq _ _ _ hdj]
    generalize (execOp a.eval oj).run P w = r at *
    cases r with
    | ok n w' =>
      cases n <;> simp only [Oper.uponIn] at h ⊢
      case value u => exact ⟨fY a hy u, by rw [← Act.put_comm a v u h2]; exact h⟩
      case skip => exact ⟨fY a hy _, by rw [← Act.put_comm a v undef h2]; exact h⟩
      case defer d =>
        refine ⟨fY _ (keepD d) _, ?_⟩
        rw [← Act.put_comm _ v undef h2, ← Act.put_defers]
        exact h
      case enter f args =>
        refine ⟨h.1, CallsIn.mono h.2 fun e w'' he => ?_⟩
        cases e with
        | returned u => exact ⟨fY a hy u, by rw [← Act.put_comm a v u h2]; exact he⟩
        | panicked c => exact hQ _ _ _ he
        | outgrown => exact he
      case row row args => exact ⟨h.1, RowsIn.mono h.2 fun u w'' he => ⟨fY a hy u, by rw [← Act.put_comm a v u h2]; exact he⟩⟩
      case round l f tmps assign body =>
        refine ⟨h.1, RoundIn.mono h.2 fun e w'' he => ?_⟩
        cases e with
        | returned u => exact ⟨fY a hy u, by rw [← Act.put_comm a v u h2]; exact he⟩
        | panicked c => exact hQ _ _ _ he
        | outgrown => exact he
    | halt x w' =>
      cases x <;> simp only [Oper.uponIn] at h ⊢
      case panic u => exact hQ _ _ _ h
  · rename_i hw
    simp only [hw] at h
    exact ⟨fun _ _ => trivial, fY a hy _, by rw [← Act.put_comm a v undef h2]; exact h.2⟩
theorem ip {ro : Option Nat} {P : Program} {ops : Array Oper} {Q : Exit → Act → World → Prop} {C : World → Prop} {i : Nat} {o : Oper} {v : Value} {a : Act} (hi : ops[i]? = some o) (hd : ∀ c, o.op ≠ .defer c) (hy : YieldsIf P ops C o v a)
    {K : Act → World → Prop} {w : World} (hS : C w) (h : K (a.put o.dst v) w) : wpOpIn (fw ro) 0 P ops Q i K a w := by
  unfold Go.wpOpIn
  simp only [hi]
  rcases hy with ⟨hw, hv⟩ | ⟨hw, rfl⟩
  · simp only [hw, if_true, Oper.wpIn, Oper.semAt_eq _ _ _ hd, hv w hS, Oper.uponIn]; exact ⟨fun _ _ => trivial, h⟩
  · simp only [hw, Bool.false_eq_true, if_false]; exact ⟨fun _ _ => trivial, h⟩
def jr (ro : Option Nat) (P : Program) (ops : Array Oper) (Q : Exit → Act → World → Prop) (C : World → Prop) (m : Nat) : Nat → Array Bool → Act → World → Prop
  | 0, listed, a, _w => Region.ready .any ops listed = [] ∧ Q .normal a _w
  | fuel + 1, listed, a, w =>
    (Region.ready .any ops listed = [] → Q .normal a w) ∧
    ∀ i ∈ Region.ready .any ops listed, wpOpIn (fw ro) 0 P ops Q i (fun a' w' => (eL m (listed.setIfInBounds i true) = true → C w') ∧ jr ro P ops Q C m fuel (listed.setIfInBounds i true) a' w') a w
theorem wpAny_of_V {ro : Option Nat} {P : Program} {ops : Array Oper} {Q : Exit → Act → World → Prop} {C : World → Prop} {m : Nat} : ∀ (fuel : Nat) (listed : Array Bool) (a : Act) (w : World), jr ro P ops Q C m fuel listed a w → wpAnyIn (fw ro) 0 P .any ops Q fuel listed a w
  | 0, _, _, _, h => h
  | fuel + 1, _, _, _, h => ⟨h.1, fun i hi => wpOpIn_mono (fun a' w' h' => wpAny_of_V fuel _ a' w' h'.2) (h.2 i hi)⟩
theorem jO {ro : Option Nat} {P : Program} {ops : Array Oper} {Q : Exit → Act → World → Prop} {C : World → Prop} {m i : Nat} {oi : Oper} {v : Value} (hi : ops[i]? = some oi) (hsel : ∀ (j : Nat) (o : Oper) cs b, ops[j]? = some o → o.op ≠ .select cs b) (hdef : ∀ (j : Nat) (o : Oper), ops[j]? = some o → ∀ c, o.op ≠ .defer c)
    (hQ : ∀ c a w, Q (.panic c) (a.put oi.dst v) w → Q (.panic c) a w) (hm : iK ops m i = true) (him : i < m) :
    ∀ (fuel : Nat) (listed : Array Bool) (a : Act) (w : World), eL m listed = true → iS ops listed →
      (∀ j oj, ops[j]? = some oj → j ≠ i → listed.getD j true = false → (∀ e ∈ oj.after, Region.binds .any e = true → e.on ≠ i) → oi.apart ops oj = true) →
      i ∈ Region.ready .any ops listed → YieldsIf P ops C oi v a → C w →
      jr ro P ops Q C m fuel (listed.setIfInBounds i true) (a.put oi.dst v) w → jr ro P ops Q C m (fuel + 1) listed a w := by
  intro fuel
  induction fuel with
  | zero =>
    intro listed a w hnt hcl _ hr hy hS H
    refine ⟨fun h => (by rw [h] at hr; cases hr), fun j hj => ?_⟩
    by_cases hji : j = i
    · subst hji; exact ip hi (hdef _ _ hi) hy hS ⟨fun _ => hS, H⟩
    · have := ready_mono hj hji
      rw [H.1] at this
      cases this
  | succ fuel ih =>
    intro listed a w hnt hcl hfree hr hy hS H
    refine ⟨fun h => (by rw [h] at hr; cases hr), fun j hj => ?_⟩
    by_cases hji : j = i
    · subst hji; exact ip hi (hdef _ _ hi) hy hS ⟨fun _ => hS, H⟩
    · have h1 := H.2 j (ready_mono hj hji)
      obtain ⟨hjun, oj, hoj, hall⟩ := mem_ready.1 hj
      have hun : listed.getD i false = false := by
        have h0 := (mem_ready.1 hr).1
        rcases Nat.lt_or_ge i listed.size with h' | h'
        · simpa [h'] using h0
        · simp [Array.getElem?_eq_none h']
      have hnot : ∀ e ∈ oj.after, Region.binds .any e = true → e.on ≠ i := fun e he hb heq => by
        have h1 := hall e he hb
        rw [heq, hun] at h1
        cases h1
      have hjm : j < m := by
        rcases Nat.lt_or_ge j m with h | h
        · exact h
        · simp only [iK, List.all_eq_true, List.mem_range] at hm
          have h1 := hm j (Array.getElem?_eq_some_iff.1 hoj).1
          rw [Bool.or_eq_true] at h1
          rcases h1 with h1 | h1
          · have := Nat.le_of_ble_eq_true h1; omega
          · rw [io hcl _ j oj hoj hall h1] at hun; cases hun
      have h2 := wpOpIn_putIf hoj (hfree j oj hoj hji hjun hnot) (fun cs b => hsel i oi cs b hi) (fun cs b => hsel j oj cs b hoj) (hdef j oj hoj) hQ hy h1
      have hfree' : ∀ k ok, ops[k]? = some ok → k ≠ i → (listed.setIfInBounds j true).getD k true = false →
          (∀ e ∈ ok.after, Region.binds .any e = true → e.on ≠ i) → oi.apart ops ok = true := fun k ok hk hki hun' hno => by
        refine hfree k ok hk hki ?_ hno
        by_cases hjk : j = k
        · subst hjk; exact hjun
        · rw [getD_set_ne true hjk] at hun'; exact hun'
      have hC := fH (fH hnt him) hjm
      refine wpOpIn_mono (fun a' w' h3 => ⟨fun _ => h3.2.1 hC, ih (listed.setIfInBounds j true) a' w' (fH hnt hjm) (closed_set hcl hoj hall) hfree' (ready_mono hr (Ne.symm hji)) h3.1 (h3.2.1 hC) ?_⟩) h2
      rw [Array.setIfInBounds_comm _ _ hji]
      exact h3.2.2
def WV (x : Cx) (C : World → Prop) (m : Nat) (ops : Array Oper) (fuel : Nat) (listed : Array Bool) (l : Fr) (L S : List Ch) (Q : Exit → Act → World → Prop) : Prop :=
  ∀ a w, Kn x.N x.ds l a → Hp x.ok0 x.w0 L S w → jr x.ro x.P ops Q C m fuel listed a w
def QnV (x : Cx) (C : World → Prop) (m : Nat) (ops : Array Oper) (fuel : Nat) (listed : Array Bool) (Q : Exit → Act → World → Prop) : Exit → Act → World → Prop := Exit.then (fun a w => (eL m listed = true → C w) ∧ jr x.ro x.P ops Q C m fuel listed a w) Q
def WRV (x : Cx) (C : World → Prop) (m : Nat) (ops : Array Oper) (fuel : Nat) (listed : Array Bool) (js : List Nat) (l : Fr) (L S : List Ch) (Q : Exit → Act → World → Prop) : Prop :=
  ∀ i ∈ js, ∀ a w, Kn x.N x.ds l a → Hp x.ok0 x.w0 L S w → wpOpIn (fw x.ro) 0 x.P ops Q i (fun a' w' => (eL m (listed.setIfInBounds i true) = true → C w') ∧ jr x.ro x.P ops Q C m fuel (listed.setIfInBounds i true) a' w') a w
section
variable {x : Cx} {C : World → Prop} {l : Fr} {L S : List Ch} {Q : Exit → Act → World → Prop} {ops : Array Oper} {fuel m : Nat} {listed : Array Bool}
theorem ik {id : Nat} {ol : List Oper} (m : Nat) (hm : x.P.follows .mixedOrders = true) (h : WV x (Hp x.ok0 x.w0 L S) m ol.toArray ol.length (Array.replicate ol.length false) l L S Q) : W x l L S (.region id ol.toArray true) Q := fun a w ha hw => by
  refine wpIn_region_any hm (wpAny_of_V (C := Hp x.ok0 x.w0 L S) (m := m) _ _ _ _ ?_)
  have := h a { w with drawn := w.drawn + 1 } ha hw.drew
  simpa using this
theorem cB {i d : Nat} {op : Op} {ty : TypeId} {pos : String} {af : Array Edge} {gd : Option (Nat × Bool)} {v : Value} {listed' : Array Bool} {L0 S0 : List Ch} (hi : ops[i]? = some ⟨some d, op, ty, pos, af, gd⟩) (hw : ∀ a, Kn x.N x.ds l a → Region.wanted ⟨some d, op, ty, pos, af, gd⟩ (yielded ops a.tmps) = true)
    (hy : Yv x l L0 S0 ⟨some d, op, ty, pos, af, gd⟩ v) (hC : ∀ w, Hp x.ok0 x.w0 L S w → C w) (hC0 : ∀ w, C w → Hp x.ok0 x.w0 L0 S0 w) (hN : Nat.blt d x.N = true) (hpk : jS Q)
    (hs : (Region.noSelect ops && noDefer ops && Region.free .any ops listed i && (Region.ready .any ops listed).contains i && iK ops m i && Nat.blt i m && eL m listed && iP ops listed) = true) (hl : listed.setIfInBounds i true = listed')
    (k : WV x C m ops fuel listed' ((d, v) :: l) L S Q) : WV x C m ops (fuel + 1) listed l L S Q := fun a w ha hh => by
  simp only [Bool.and_eq_true] at hs
  obtain ⟨⟨⟨⟨⟨⟨⟨h1, h0⟩, h2⟩, h3⟩, h4⟩, h5⟩, h6⟩, h7⟩ := hs
  exact jO hi (Region.noSelect_spec h1) (fun _ _ ho => jD h0 ho) (fun c a w h => hpk c a w _ _ h) h4 (Nat.le_of_ble_eq_true h5) fuel listed a w h6 (i5 h7) (Region.free_spec hi h2) (by simpa using h3) (.inl ⟨hw a ha, fun w' hw' => hy a w' ha (hC0 w' hw')⟩) (hC w hh) (by rw [hl]; exact k _ w (ha.put (Nat.le_of_ble_eq_true hN) v) hh)
/-- .. one whose guard says no. -/
theorem iL {i d : Nat} {op : Op} {ty : TypeId} {pos : String} {af : Array Edge} {gd : Option (Nat × Bool)} {listed' : Array Bool} (hi : ops[i]? = some ⟨some d, op, ty, pos, af, gd⟩) (hw : ∀ a, Kn x.N x.ds l a → Region.wanted ⟨some d, op, ty, pos, af, gd⟩ (yielded ops a.tmps) = false)
    (hC : ∀ w, Hp x.ok0 x.w0 L S w → C w) (hN : Nat.blt d x.N = true) (hpk : jS Q)
    (hs : (Region.noSelect ops && noDefer ops && Region.free .any ops listed i && (Region.ready .any ops listed).contains i && iK ops m i && Nat.blt i m && eL m listed && iP ops listed) = true) (hl : listed.setIfInBounds i true = listed')
    (k : WV x C m ops fuel listed' ((d, undef) :: l) L S Q) : WV x C m ops (fuel + 1) listed l L S Q := fun a w ha hh => by
  simp only [Bool.and_eq_true] at hs
  obtain ⟨⟨⟨⟨⟨⟨⟨h1, h0⟩, h2⟩, h3⟩, h4⟩, h5⟩, h6⟩, h7⟩ := hs
  exact jO hi (Region.noSelect_spec h1) (fun _ _ ho => jD h0 ho) (fun c a w h => hpk c a w _ _ h) h4 (Nat.le_of_ble_eq_true h5) fuel listed a w h6 (i5 h7) (Region.free_spec hi h2) (by simpa using h3) (.inr ⟨hw a ha, rfl⟩) (hC w hh) (by rw [hl]; exact k _ w (ha.put (Nat.le_of_ble_eq_true hN) undef) hh)
theorem dg {C : World → Prop} {l : Fr} {L S : List Ch} (hC : ∀ w, Hp x.ok0 x.w0 L S w → C w) (h : WV x C m ops fuel listed l L S Q) : E x l L S .normal (QnV x C m ops fuel listed Q) := fun a w ha hw => ⟨fun _ => hC w hw, h a w ha hw⟩
theorem cQ {C : World → Prop} {l : Fr} {L S : List Ch} (hi : eL m listed = false) (h : WV x C m ops fuel listed l L S Q) : E x l L S .normal (QnV x C m ops fuel listed Q) := fun a w ha hw => ⟨fun h' => absurd (hi.symm.trans h') (by decide), h a w ha hw⟩
theorem iC {js : List Nat} (hr : Region.ready .any ops listed = js) (hne : js.isEmpty = false) (h : WRV x C m ops fuel listed js l L S Q) : WV x C m ops (fuel + 1) listed l L S Q := fun a w ha hh =>
  ⟨fun h0 => by rw [hr] at h0; subst h0; simp at hne, fun j hj => h j (hr ▸ hj) a w ha hh⟩
theorem gG : WRV x C m ops fuel listed [] l L S Q := fun i hi => by cases hi
theorem dX {js : List Nat} {o : Oper} {i : Nat} {listed' : Array Bool} (hi : ops[i]? = some o) (hl : listed.setIfInBounds i true = listed')
    (h : WL x l L S ops [o] (QnV x C m ops fuel listed' Q)) (k : WRV x C m ops fuel listed js l L S Q) : WRV x C m ops fuel listed (i :: js) l L S Q := fun j hj => by
  rcases List.mem_cons.1 hj with rfl | hj
  · intro a w ha hh
    rw [hl]
    have h1 := h a w ha hh
    unfold wpListIn at h1
    unfold wpOpIn
    simp only [hi]
    split
    · rename_i hw
      rw [if_pos hw] at h1
      obtain ⟨_, h1⟩ := h1
      refine ⟨fun _ _ => trivial, ?_⟩
      generalize (Oper.semAt (fw x.ro).round a.eval o).run x.P w = r at *
      cases r with
      | halt hh w' => cases hh <;> exact h1
      | ok n w' =>
        cases n with
        | enter f args => exact ⟨h1.1, CallsIn.mono h1.2 fun e w'' hR => by cases e <;> exact hR⟩
        | row r args => exact ⟨h1.1, RowsIn.mono h1.2 fun _ _ hR => hR⟩
        | round l2 f tmps asg body => exact ⟨h1.1, RoundIn.mono h1.2 fun e w'' hR => by cases e <;> exact hR⟩
        | _ => exact h1
    · rename_i hw
      rw [if_neg hw] at h1
      exact ⟨fun _ _ => trivial, h1.2⟩
  · exact k j hj
theorem cS {o : Oper} {i : Nat} {listed' : Array Bool} (hi : ops[i]? = some o) (hr : Region.ready .any ops listed = [i]) (hl : listed.setIfInBounds i true = listed')
    (h : WL x l L S ops [o] (QnV x C m ops fuel listed' Q)) : WV x C m ops (fuel + 1) listed l L S Q := iC hr rfl (dX hi hl h gG)
theorem wv_as {t : Nat} {v : Value} (v' : Value) (h : look l t = some v) (e : v = v') (k : WV x C m ops fuel listed ((t, v') :: l) L S Q) : WV x C m ops fuel listed l L S Q := fun a w ha hw => k a w (ha.mono fun t' u h' => by
    simp only [look] at h'
    cases e2 : Nat.beq t t' with
    | true => rw [e2] at h'; cases h'; rw [← Nat.eq_of_beq_eq_true e2, h, e]
    | false => rw [e2] at h'; exact h') hw
theorem wv_splitb {t : Nat} {b : Bool} (h : look l t = some (.bool b)) (ht : b = true → WV x C m ops fuel listed ((t, .bool true) :: l) L S Q) (hf : b = false → WV x C m ops fuel listed ((t, .bool false) :: l) L S Q) : WV x C m ops fuel listed l L S Q := by
  cases hb : b with
  | true => exact wv_as (.bool true) h (by rw [hb]) (ht hb)
  | false => exact wv_as (.bool false) h (by rw [hb]) (hf hb)
theorem eQ {fuel : Nat} (hr : Region.ready .any ops listed = []) (h : E x l L S .normal Q) : WV x C m ops fuel listed l L S Q := fun a w ha hh => by
  cases fuel with
  | zero => exact ⟨hr, h a w ha hh⟩
  | succ n => exact ⟨fun _ => h a w ha hh, by rw [hr]; simp⟩
end

/-! Parts of slices. -/
def sA (A : Option Addr) (m c sz : Nat) : Option Addr := if c = m then A else A.map (·.add (m * sz))
theorem fl_drop {α : Type} {enc : α → List Value} {sz : Nat} (hE : Enc enc sz) : ∀ (xs : List α) (m : Nat), fl enc (xs.drop m) = (fl enc xs).drop (m * sz)
  | [], m => by simp [fl]
  | x :: xs, 0 => by simp
  | x :: xs, m + 1 => by
    rw [List.drop_succ_cons, fl_drop hE xs m]
    have : fl enc (x :: xs) = enc x ++ fl enc xs := rfl
    have h2 : (enc x).drop ((m + 1) * sz) = [] := List.drop_of_length_le (by rw [hE.len x, Nat.succ_mul]; omega)
    rw [this, List.drop_append, hE.len x, h2, List.nil_append]
    congr 1
    rw [Nat.succ_mul]; omega
theorem jR {α : Type} {enc : α → List Value} {sz : Nat} (hE : Enc enc sz) : ∀ (xs : List α) (m : Nat), fl enc (xs.take m) = (fl enc xs).take (m * sz)
  | [], m => by simp [fl]
  | x :: xs, 0 => by simp [fl]
  | x :: xs, m + 1 => by
    have e1 : fl enc ((x :: xs).take (m + 1)) = enc x ++ fl enc (xs.take m) := rfl
    have e2 : fl enc (x :: xs) = enc x ++ fl enc xs := rfl
    have h2 : (enc x).take ((m + 1) * sz) = enc x := List.take_of_length_le (by rw [hE.len x, Nat.succ_mul]; omega)
    rw [e1, e2, jR hE xs m, List.take_append, hE.len x, h2]
    congr 2
    rw [Nat.succ_mul]; omega
theorem rsP_drop {α : Type} {enc : α → List Value} {sz : Nat} (hE : Enc enc sz) {A : Option Addr} {c m : Nat} {xs : List α} {w : World} (h : RsP A xs.length sz (fl enc xs) w) (hc : xs.length ≤ c) (hm : m ≤ xs.length) : RsP (sA A m c sz) (xs.drop m).length sz (fl enc (xs.drop m)) w := by
  refine ⟨eD hE.len _, fun u hu => h.one u ?_, ?_⟩
  · rw [fl_drop hE] at hu; exact List.mem_of_mem_drop hu
  · by_cases e : (xs.drop m).length = 0
    · exact .inl e
    · rw [List.length_drop] at e
      rcases h.at_ with h0 | ⟨b, off, rfl, hv⟩
      · omega
      · refine .inr ⟨b, off + m * sz, ?_, fun i hi => ?_⟩
        · rw [sA, if_neg (by omega)]
          show some (Addr.add _ _) = _
          unfold Addr.add; split
          · rename_i h0; rw [h0]; rfl
          · rfl
        · rw [fl_drop hE] at hi ⊢
          rw [List.length_drop] at hi
          rw [List.getElem?_drop, Nat.add_assoc]
          exact hv _ (by omega)
theorem rsP_take {α : Type} {enc : α → List Value} {sz : Nat} (hE : Enc enc sz) {A : Option Addr} {m : Nat} {xs : List α} {w : World} (h : RsP A xs.length sz (fl enc xs) w) (hm : m ≤ xs.length) : RsP A (xs.take m).length sz (fl enc (xs.take m)) w := by
  refine ⟨eD hE.len _, fun u hu => h.one u ?_, ?_⟩
  · rw [jR hE] at hu; exact List.mem_of_mem_take hu
  · rcases h.at_ with h0 | ⟨b, off, rfl, hv⟩
    · left; simp; omega
    · refine .inr ⟨b, off, rfl, fun i hi => ?_⟩
      rw [jR hE] at hi ⊢
      rw [List.length_take] at hi
      rw [List.getElem?_take, if_pos (by omega)]
      exact hv _ (by omega)
section
variable {x : Cx} {l : Fr} {L S : List Ch}
theorem rd_dropL {α : Type} {enc : α → List Value} {sz : Nat} (hE : Enc enc sz) {A : Option Addr} {c m : Nat} {e : TypeId} {xs : List α} {w : World} (i : Nat) (h : L[i]? = some (Ch.ls A c e sz enc xs)) (hm : m ≤ xs.length) (hw : Hp x.ok0 x.w0 L S w) : (Ch.rd (sA A m c sz) sz enc (xs.drop m)).P w ∧ ∀ b, (Ch.rd (sA A m c sz) sz enc (xs.drop m)).ok b → b < w.heap.size := by
  have h1 : SlP A xs.length c e sz (fl enc xs) w := hw.own _ (List.mem_of_getElem? h)
  have hc : xs.length ≤ c := by
    rcases h1.at_ with ⟨_, h2, h3⟩ | ⟨g, cur, fz, _, _, h2, _⟩
    · omega
    · exact h2
  refine ⟨rsP_drop hE h1.rs hc hm, fun b hb => ?_⟩
  refine (rd_slrs (hw.rdL (List.mem_of_getElem? h))).2 b ⟨?_, ?_⟩
  · have := hb.1; simp at this; omega
  · have := hb.2
    unfold sA at this
    split at this
    · exact this
    · cases A with
      | none => exact this
      | some a =>
        rw [← this]
        show some a.block = some (Addr.add a _).block
        unfold Addr.add; split <;> rfl
theorem rd_takeL {α : Type} {enc : α → List Value} {sz : Nat} (hE : Enc enc sz) {A : Option Addr} {c m : Nat} {e : TypeId} {xs : List α} {w : World} (i : Nat) (h : L[i]? = some (Ch.ls A c e sz enc xs)) (hm : m ≤ xs.length) (hw : Hp x.ok0 x.w0 L S w) : (Ch.rd A sz enc (xs.take m)).P w ∧ ∀ b, (Ch.rd A sz enc (xs.take m)).ok b → b < w.heap.size := by
  have h1 : SlP A xs.length c e sz (fl enc xs) w := hw.own _ (List.mem_of_getElem? h)
  refine ⟨rsP_take hE h1.rs hm, fun b hb => ?_⟩
  refine (rd_slrs (hw.rdL (List.mem_of_getElem? h))).2 b ⟨?_, hb.2⟩
  have := hb.1; simp at this; omega
variable {d : Nat} {ty : TypeId} {pos : String} {af : Array Edge} {gd : Option (Nat × Bool)}
theorem gC {P : Program} {t e : TypeId} (h : P.underlying t = some (.slice e)) : P.elem t = e := by simp [Program.elem, h]
theorem iv {α : Type} {y i1 : Operand} {A : Option Addr} {xs : List α} {c m sz bytes : Nat} {i : Int} {k1 : IntKind} {t e : TypeId} {agg : Bool} {z : Value} (h0 : x.P.underlying t = some (.slice e)) (he : TyI x.P e agg sz bytes z) (hy : ev l y = some (.slice A xs.length c)) (hi : ev l i1 = some (.int k1 i)) (hm : i = (m : Int)) (b1 : m ≤ xs.length) :
    Yv x l L S ⟨some d, .slice t y (some i1) none none, ty, pos, af, gd⟩ (.slice (sA A m c sz) (xs.drop m).length (c - m)) := fun a w ha hw => by
  have h1 : x.P.underlying t = some (.slice (x.P.elem t)) := by rw [gC h0]; exact h0
  have h2 := gC h0
  subst hm
  have e1 := run_slice_l (P := x.P) w t A xs.length c h1 k1 (m : Int) (by omega) (by omega)
  simp [execOp, ha.ev hy, ha.ev hi, run_sliceAt_slice (P := x.P) w t _ _ _ _ h1, e1, sA, sliced, Result.andThen, h2, he.size w]
theorem y_takes {α : Type} {y i1 : Operand} {A : Option Addr} {xs : List α} {c m sz bytes : Nat} {i : Int} {k1 : IntKind} {t e : TypeId} {agg : Bool} {z : Value} (h0 : x.P.underlying t = some (.slice e)) (he : TyI x.P e agg sz bytes z) (hy : ev l y = some (.slice A xs.length c)) (hi : ev l i1 = some (.int k1 i)) (hm : i = (m : Int)) (b1 : m ≤ xs.length) (hc : ∀ w, Hp x.ok0 x.w0 L S w → xs.length ≤ c) :
    Yv x l L S ⟨some d, .slice t y none (some i1) none, ty, pos, af, gd⟩ (.slice A (xs.take m).length c) := fun a w ha hw => by
  have h1 : x.P.underlying t = some (.slice (x.P.elem t)) := by rw [gC h0]; exact h0
  have h2 := gC h0
  subst hm
  have hc' := hc w hw
  have e1 := run_slice_h (P := x.P) w t A xs.length c h1 k1 (m : Int) (by omega) (by omega)
  have e2 : min m xs.length = m := by omega
  have e3 : A.map (fun a => a.add 0) = A := by cases A <;> rfl
  simp [execOp, ha.ev hy, ha.ev hi, run_sliceAt_slice (P := x.P) w t _ _ _ _ h1, e1, e2, e3, sliced, Result.andThen, h2, he.size w]
theorem cap_L {α : Type} {enc : α → List Value} {A : Option Addr} {c sz : Nat} {e : TypeId} {xs : List α} (i : Nat) (h : L[i]? = some (Ch.ls A c e sz enc xs)) : ∀ w, Hp x.ok0 x.w0 L S w → xs.length ≤ c := fun w hw => by
  have h1 : SlP A xs.length c e sz (fl enc xs) w := hw.own _ (List.mem_of_getElem? h)
  rcases h1.at_ with ⟨_, h2, h3⟩ | ⟨g, cur, fz, _, _, h2, _⟩
  · omega
  · exact h2
end
end Go.Proofs.YtnpdgmoeoidppaaGreat

/- Chains: plain laws. -/
namespace Go.Proofs.YtnpdgmoeoidppaaGreat
open Go.RowKit Go.Shelf
set_option linter.unusedVariables false
set_option linter.unusedSimpArgs false

section
variable {G : a6 → Option a6}
end
/-- Neighbours. -/
def pairs : List a6 → List (a6 × a6)
  | a :: b :: r => (a, b) :: pairs (b :: r)
  | _ => []
end Go.Proofs.YtnpdgmoeoidppaaGreat

/- tables: pushed to (nothing dropped) -/
namespace Go.Proofs.YtnpdgmoeoidppaaGreat
open Go.RowKit Go.Shelf
set_option linter.unusedVariables false
set_option linter.unusedSimpArgs false

theorem bu_24_0_1 (x0 : Int) (x1 : Option Addr) (x2 : Nat) (x3 : Nat) : Tryz.prog.built 24 [(0, .int .i64 x0), (1, .slice x1 x2 x3)] = some [.int .i64 x0, .slice x1 x2 x3].toArray := by kernel_rfl
theorem ent_134 : Enters Tryz.prog 134 := enters_of Tryz.func134 (by kernel_rfl) rfl
theorem ent_136 : Enters Tryz.prog 136 := enters_of Tryz.func136 (by kernel_rfl) rfl
theorem eH : FA Tryz.prog 103 0 0 := fun b o w => by kernel_rfl
theorem gm : FA Tryz.prog 103 1 1 := fun b o w => by kernel_rfl
theorem fC : FA Tryz.prog 103 2 2 := fun b o w => by kernel_rfl
theorem cE : FA Tryz.prog 103 3 3 := fun b o w => by kernel_rfl
theorem cP : FA Tryz.prog 103 4 4 := fun b o w => by kernel_rfl

/-- ref17.put. -/
def d7 (x : Le) : Bool → List Le → List Le
  | done, [] => if done then [] else [x]
  | done, y :: r => (if !done && decide (bR x.e.host y.e.host ≤ 0) then [x] else []) ++ (if bR x.e.host y.e.host ≠ 0 then [y] else []) ++ d7 x (done || decide (bR x.e.host y.e.host ≤ 0)) r
def fQ (l : List Le) (x : Le) : List Le := d7 x false l
def dz (l : List Le) (p : List Le) : List Le := p.foldl fQ l
theorem iD {x y : Le} : ∀ {l : List Le} {d : Bool}, y ∈ d7 x d l → y = x ∨ y ∈ l
  | [], d, h => by
    rw [d7] at h; split at h
    · cases h
    · exact .inl (List.mem_singleton.1 h)
  | z :: r, d, h => by
    rw [d7, List.mem_append, List.mem_append] at h
    rcases h with (h | h) | h
    · split at h
      · exact .inl (List.mem_singleton.1 h)
      · cases h
    · split at h
      · exact .inr (by rw [List.mem_singleton.1 h]; exact .head _)
      · cases h
    · exact (iD h).imp id (.tail _)
theorem putG_len (x : Le) : ∀ (l : List Le) (d : Bool), (d7 x d l).length ≤ l.length + (if d then 0 else 1)
  | [], d => by cases d <;> simp [d7]
  | z :: r, d => by
    rw [d7, List.length_append, List.length_append]
    have h1 := putG_len x r true
    have h2 := putG_len x r d
    have h3 : ∀ b : Bool, (if b = true then [x] else []).length = if b = true then 1 else 0 := fun b => by cases b <;> rfl
    have h4 : (if bR x.e.host z.e.host ≠ 0 then [z] else []).length ≤ 1 := by split <;> simp
    by_cases hc : bR x.e.host z.e.host ≤ 0
    · rw [decide_eq_true hc] at *
      cases d <;> simp at h1 h2 h4 ⊢ <;> omega
    · rw [decide_eq_false hc] at *
      cases d <;> simp at h1 h2 h4 ⊢ <;> omega
theorem putG_dn {x y : Le} {d : Bool} {r : List Le} (h : d = true) (h2 : bR x.e.host y.e.host ≠ 0) : d7 x d (y :: r) = [y] ++ d7 x d r := by
  rw [d7, h, if_pos h2]; simp
theorem putG_dz {x y : Le} {d : Bool} {r : List Le} (h : d = true) (h2 : ¬ bR x.e.host y.e.host ≠ 0) : d7 x d (y :: r) = d7 x d r := by
  rw [d7, h, if_neg h2]; simp
theorem putG_nl {x y : Le} {d : Bool} {r : List Le} (h : d = false) (h3 : bR x.e.host y.e.host ≤ 0) (h2 : bR x.e.host y.e.host ≠ 0) : d7 x d (y :: r) = [x] ++ [y] ++ d7 x true r := by
  rw [d7, h, if_pos h2, decide_eq_true h3]; simp
theorem putG_nz {x y : Le} {d : Bool} {r : List Le} (h : d = false) (h3 : bR x.e.host y.e.host ≤ 0) (h2 : ¬ bR x.e.host y.e.host ≠ 0) : d7 x d (y :: r) = [x] ++ d7 x true r := by
  rw [d7, h, if_neg h2, decide_eq_true h3]; simp
theorem putG_ng {x y : Le} {d : Bool} {r : List Le} (h : d = false) (h3 : ¬ bR x.e.host y.e.host ≤ 0) (h2 : bR x.e.host y.e.host ≠ 0) : d7 x d (y :: r) = [y] ++ d7 x d r := by
  rw [d7, h, if_pos h2, decide_eq_false h3]; simp
theorem putE_tb {l : List Le} {x : Le} (h : TbOk l) (hx : EnOk x.e ∧ eJ x.e = true) : TbOk (fQ l x) := fun y hy => by
  rcases iD hy with rfl | h2
  · exact hx
  · exact h y h2
theorem putE_len (l : List Le) (x : Le) : (fQ l x).length ≤ l.length + 1 := putG_len x l false
theorem putAll_succ {l p : List Le} {k : Nat} (h : k < p.length) : dz l (p.take (k + 1)) = fQ (dz l (p.take k)) (p.getD k bm) := by
  rw [dz, dh p bm k h, List.foldl_append]; rfl
def MapIs (m : List (a6 × Bool)) (pre : List a6) : Prop := ∀ key, lkp m key = if key ∈ pre then some true else none
theorem iW {m : List (a6 × Bool)} {pre : List a6} (h : MapIs m pre) (a : a6) : ((lkp m a).map fun b : Bool => Value.bool b).getD (.bool false) = .bool (decide (a ∈ pre)) := by
  rw [h a]; split
  · rename_i h1; rw [decide_eq_true h1]; rfl
  · rename_i h1; rw [decide_eq_false h1]; rfl
theorem g2 {m : List (a6 × Bool)} {l : List a6} {k : Nat} (h : MapIs m (l.take k)) (hk : k < l.length) : MapIs (upd m (l.getD k []) true) (l.take (k + 1)) := fun key => by
  rw [lkp_upd, h key, dh l [] k hk]
  by_cases e : key = l.getD k []
  · rw [if_pos e, if_pos (by rw [e]; simp)]
  · rw [if_neg e]
    by_cases h3 : key ∈ l.take k
    · rw [if_pos h3, if_pos (List.mem_append_left _ h3)]
    · rw [if_neg h3, if_neg (fun q => (List.mem_append.1 q).elim h3 (fun q => e (List.mem_singleton.1 q)))]
theorem g7 {l : List a6} (h : l.Nodup) {k : Nat} (hk : k < l.length) : ¬ l.getD k [] ∈ l.take k := fun q => by
  obtain ⟨i, hi, e⟩ := List.mem_iff_getElem.1 q
  have hi2 : i < k := by simp at hi; omega
  rw [List.getElem_take, List.getD_eq_getElem?_getD, List.getElem?_eq_getElem hk] at e
  have := List.pairwise_iff_getElem.1 h i k (by omega) hk hi2
  exact this e

set_option maxRecDepth 100000 in
set_option maxHeartbeats 1000000 in
theorem c_ref17_put (l : List Le) (A : Option Addr) (c : Nat) (x : Le) (hok : TbOk l) (hx : x.e.host.length ≤ 1000) (hlen : l.length ≤ 1000000) : RC Tryz.prog 136 #[.slice A l.length c, .agg (dF x).toArray] [Ch.rd A 7 dF l] (α := Option Addr × Nat) (fun p => .slice p.1 (fQ l x).length p.2) (fun p => [Ch.ls p.1 p.2 34 7 dF (fQ l x)]) := by
 refine bK (args := [.slice A l.length c, .agg (dF x).toArray]) 49 Tryz.func136 rfl rfl rfl (fun w0 => ?_)
 refine ap ?_
 refine ae ?_
 refine cL rfl rfl rfl (fun b1 => ?_)
 refine aq (ai rfl) rfl rfl ?_
 refine aa ?_
 refine aj ?_
 refine ap ?_
 refine ae ?_
 refine aq (ai rfl) rfl rfl ?_
 refine aa ?_
 refine aj ?_
 refine ap ?_
 refine ae ?_
 refine aq (ai rfl) rfl rfl ?_
 refine aa ?_
 refine aj ?_
 refine ap ?_
 refine ap ?_
 refine ae ?_
 refine aq (ai rfl) rfl rfl ?_
 refine aa ?_
 refine aj ?_
 refine aS ?_
 refine cz (fun w h => h.nilsl 34 7) ?_
 refine dn (σ := Nat × Bool × List Le × Option Addr × Nat) [5, 6, 7, 8, 9, 10, 11, 12, 13, 14, 15, 16, 17, 18, 19, 20, 21, 22, 23, 24, 25, 26, 27, 28, 29, 30, 31, 32, 33, 34, 35, 36, 37, 38, 39, 40, 41] (fun q => q.1 ≤ l.length ∧ fQ l x = q.2.2.1 ++ d7 x q.2.1 (l.drop q.1) ∧ q.2.2.1.length ≤ 2 * q.1) (fun q => l.length - q.1) (fun q => [(7, .int .i64 q.1), (6, .bool q.2.1), (5, .slice q.2.2.2.1 q.2.2.1.length q.2.2.2.2)]) (fun q => Ch.ls q.2.2.2.1 q.2.2.2.2 34 7 dF q.2.2.1) ((0, false, [], none, 0)) ?_ ⟨rfl, rfl, rfl, trivial⟩ rfl (fun q hI => ?_)
 exact ⟨Nat.zero_le _, rfl, Nat.zero_le _⟩
 obtain ⟨k, done, acc, A5, c5⟩ := q
 dsimp only at hI ⊢
 refine ap ?_
 refine ap ?_
 refine ae ?_
 refine aq (am rfl) rfl rfl ?_
 refine aq (am rfl) rfl rfl ?_
 refine aq (bg Tryz.underlying22 rfl) rfl rfl ?_
 refine aq (bW rfl rfl) rfl rfl ?_
 refine ay (t := 12) rfl (fun h4_3 => ?_) (fun h4_3 => ?_)
 have hk : k < l.length := by omega
 have hb9 := hok.at hk
 have hh9 := hb9.h
 refine aa ?_
 refine aj ?_
 refine aA rfl ?_
 refine aQ ?_
 refine aj ?_
 refine ap ?_
 refine aS ?_
 refine ap ?_
 refine dQ 9 rfl mixed ?_
 refine aK (i := 0) rfl ak (aB cM rfl) aG aG rfl (ah (ao (ah (av (ao (ah aw)))))) (by kernel_rfl) rfl ?_
 refine aK (i := 1) rfl ak (aC 1 bE rfl rfl rfl) aG aG rfl (ah (ao (ah (av (ao (ah aw)))))) (by kernel_rfl) rfl ?_
 refine aK (i := 2) rfl ak (am rfl) aG aG rfl (ah (ao (ah (av (ao (ah aw)))))) (by kernel_rfl) rfl ?_
 refine aK (i := 3) rfl ak (am rfl) aG aG rfl (ah (ao (ah (av (ao (ah aw)))))) (by kernel_rfl) rfl ?_
 refine aK (i := 4) rfl ak (bB  Tryz.underlying22 aU rfl rfl (bF 0 rfl) rfl (by omega)) aG aG rfl (ah (ao (ah (av (ao (ah aw)))))) (by kernel_rfl) rfl ?_
 refine aK (i := 5) rfl ak (aB cM rfl) aG aG rfl (ah (ao (ah (av (ao (ah aw)))))) (by kernel_rfl) rfl ?_
 refine aK (i := 6) rfl ak (bZ bp bm bE rfl (bF 0 rfl) (by omega) rfl rfl) aG aG rfl (ah (ao (ah (av (ao (ah aw)))))) (by kernel_rfl) rfl ?_
 refine dG (i := 7) rfl rfl rfl (bf rfl ent_141) (by kernel_rfl) rfl ?_
 refine bD rfl ent_141 (iq _ _ (by omega) (by omega)) rfl ?_
 refine aa ?_
 refine eO aG ?_
 refine aK (i := 8) rfl ak (ai rfl) aG aG rfl (ah (ao (ah (av (ao (ah aw)))))) (by kernel_rfl) rfl ?_
 refine cF (by kernel_rfl) ?_
 refine aj ?_
 refine ap ?_
 refine ap ?_
 refine ae ?_
 refine aq (am rfl) rfl rfl ?_
 refine bN (t := 23) rfl (fun h7_0 => ?_) (fun h7_0 => ?_)
 refine aq (bS rfl) rfl rfl ?_
 refine aq (am rfl) rfl rfl ?_
 refine ar rfl rfl rfl rfl ?_
 refine ar rfl rfl rfl rfl ?_
 refine aq (aF rfl rfl) rfl rfl ?_
 refine aa ?_
 refine aj ?_
 refine aD rfl ?_
 refine aQ ?_
 refine aj ?_
 refine ap ?_
 refine ae ?_
 refine aq (am rfl) rfl rfl ?_
 refine aq (cO rfl rfl) rfl rfl ?_
 refine ay (t := 34) rfl (fun h9_1 => ?_) (fun h9_1 => ?_)
 refine aa ?_
 refine aj ?_
 refine aA rfl ?_
 refine ae ?_
 refine aq (am rfl) rfl rfl ?_
 refine aq (am rfl) rfl rfl ?_
 refine aq (am rfl) rfl rfl ?_
 refine aq (bB  Tryz.underlying22 aU rfl rfl (bF 0 rfl) rfl (by omega)) rfl rfl ?_
 refine aq (b6 bp bm aU rfl (bF 0 rfl) (by omega) rfl rfl rfl) rfl rfl ?_
 refine bY (vs := [_]) ([l.getD k bm] : List (Le)) bp Tryz.underlying22 aU rfl rfl rfl rfl rfl rfl (fun As2 => ?_)
 refine cv (enc := dF) (sz := 7) _ Tryz.underlying22 aU rfl rfl rfl (fun A c => (.s (.z))) (d5 0 Tryz.underlying22 rfl) (by simp only [List.length_append, List.length_cons, List.length_nil]; omega) (by simp only [List.length_append, List.length_cons, List.length_nil]; omega) rfl (fun A2 c2 => ?_)
 refine aq (ai rfl) rfl rfl ?_
 refine aa ?_
 refine bj ?_
 refine aj ?_
 refine ae ?_
 refine aq (am rfl) rfl rfl ?_
 refine aq (br rfl rfl (by omega) (by omega)) rfl rfl ?_
 refine aq (ai rfl) rfl rfl ?_
 refine aa ?_
 refine bv ((k + 1, done, acc ++ [l.getD k bm], A2, c2)) ?_ ?_ ⟨rfl, rfl, rfl, trivial⟩ (by repeat (first | exact trivial | refine ⟨rfl, ?_⟩)) (bq 1)
 exact ⟨by show k + 1 ≤ _; omega, by show fQ l x = (acc ++ [l.getD k bm]) ++ d7 x done (l.drop (k + 1)); rw [hI.2.1, bG l bm k hk, putG_dn h7_0 h9_1] <;> try simp only [List.append_assoc], by show (acc ++ [l.getD k bm]).length ≤ 2 * (k + 1); (try simp only [List.length_append, List.length_cons, List.length_nil]); omega⟩
 show l.length - (k + 1) < l.length - k
 omega
 refine aa ?_
 refine aj ?_
 refine aD rfl ?_
 refine aQ ?_
 refine bj ?_
 refine aj ?_
 refine ae ?_
 refine aq (am rfl) rfl rfl ?_
 refine aq (br rfl rfl (by omega) (by omega)) rfl rfl ?_
 refine aq (ai rfl) rfl rfl ?_
 refine aa ?_
 refine bv ((k + 1, done, acc, A5, c5)) ?_ ?_ ⟨rfl, rfl, rfl, trivial⟩ (by repeat (first | exact trivial | refine ⟨rfl, ?_⟩)) aG
 exact ⟨by show k + 1 ≤ _; omega, by show fQ l x = (acc) ++ d7 x done (l.drop (k + 1)); rw [hI.2.1, bG l bm k hk, putG_dz h7_0 h9_1] <;> try simp only [List.append_assoc], by show (acc).length ≤ 2 * (k + 1); (try simp only [List.length_append, List.length_cons, List.length_nil]); omega⟩
 show l.length - (k + 1) < l.length - k
 omega
 refine aq (bS rfl) rfl rfl ?_
 refine aq (am rfl) rfl rfl ?_
 refine au rfl rfl ?_
 refine aq (am rfl) rfl rfl ?_
 refine au rfl rfl ?_
 refine aq (ff rfl rfl) rfl rfl ?_
 refine ay (t := 27) rfl (fun h7_4 => ?_) (fun h7_4 => ?_)
 refine aq (aH rfl rfl) rfl rfl ?_
 refine aa ?_
 refine aj ?_
 refine aA rfl ?_
 refine ae ?_
 refine aq (am rfl) rfl rfl ?_
 refine aq (bu 1 aU rfl rfl rfl rfl) rfl rfl ?_
 refine bY (vs := [_]) ([x] : List (Le)) bp Tryz.underlying22 aU rfl rfl rfl rfl rfl rfl (fun As4 => ?_)
 refine cv (enc := dF) (sz := 7) _ Tryz.underlying22 aU rfl rfl rfl (fun A c => (.s (.z))) (d5 0 Tryz.underlying22 rfl) (by simp only [List.length_append, List.length_cons, List.length_nil]; omega) (by simp only [List.length_append, List.length_cons, List.length_nil]; omega) rfl (fun A4 c4 => ?_)
 refine aq (ai rfl) rfl rfl ?_
 refine aq (ai rfl) rfl rfl ?_
 refine aa ?_
 refine aj ?_
 refine ap ?_
 refine ae ?_
 refine aq (am rfl) rfl rfl ?_
 refine aq (cO rfl rfl) rfl rfl ?_
 refine ay (t := 34) rfl (fun h9_1 => ?_) (fun h9_1 => ?_)
 refine aa ?_
 refine aj ?_
 refine aA rfl ?_
 refine ae ?_
 refine aq (am rfl) rfl rfl ?_
 refine aq (am rfl) rfl rfl ?_
 refine aq (am rfl) rfl rfl ?_
 refine aq (bB  Tryz.underlying22 aU rfl rfl (bF 0 rfl) rfl (by omega)) rfl rfl ?_
 refine aq (b6 bp bm aU rfl (bF 0 rfl) (by omega) rfl rfl rfl) rfl rfl ?_
 refine bY (vs := [_]) ([l.getD k bm] : List (Le)) bp Tryz.underlying22 aU rfl rfl rfl rfl rfl rfl (fun As6 => ?_)
 refine cv (enc := dF) (sz := 7) _ Tryz.underlying22 aU rfl rfl rfl (fun A c => (.s (.s (.z)))) (d5 0 Tryz.underlying22 rfl) (by simp only [List.length_append, List.length_cons, List.length_nil]; omega) (by simp only [List.length_append, List.length_cons, List.length_nil]; omega) rfl (fun A6 c6 => ?_)
 refine aq (ai rfl) rfl rfl ?_
 refine aa ?_
 refine bj ?_
 refine aj ?_
 refine ae ?_
 refine aq (am rfl) rfl rfl ?_
 refine aq (br rfl rfl (by omega) (by omega)) rfl rfl ?_
 refine aq (ai rfl) rfl rfl ?_
 refine aa ?_
 refine bv ((k + 1, true, acc ++ [x] ++ [l.getD k bm], A6, c6)) ?_ ?_ ⟨rfl, rfl, rfl, trivial⟩ (by repeat (first | exact trivial | refine ⟨rfl, ?_⟩)) (bq 2)
 exact ⟨by show k + 1 ≤ _; omega, by show fQ l x = (acc ++ [x] ++ [l.getD k bm]) ++ d7 x true (l.drop (k + 1)); rw [hI.2.1, bG l bm k hk, putG_nl h7_0 h7_4 h9_1] <;> try simp only [List.append_assoc], by show (acc ++ [x] ++ [l.getD k bm]).length ≤ 2 * (k + 1); (try simp only [List.length_append, List.length_cons, List.length_nil]); omega⟩
 show l.length - (k + 1) < l.length - k
 omega
 refine aa ?_
 refine aj ?_
 refine aD rfl ?_
 refine aQ ?_
 refine bj ?_
 refine aj ?_
 refine ae ?_
 refine aq (am rfl) rfl rfl ?_
 refine aq (br rfl rfl (by omega) (by omega)) rfl rfl ?_
 refine aq (ai rfl) rfl rfl ?_
 refine aa ?_
 refine bv ((k + 1, true, acc ++ [x], A4, c4)) ?_ ?_ ⟨rfl, rfl, rfl, trivial⟩ (by repeat (first | exact trivial | refine ⟨rfl, ?_⟩)) (bq 1)
 exact ⟨by show k + 1 ≤ _; omega, by show fQ l x = (acc ++ [x]) ++ d7 x true (l.drop (k + 1)); rw [hI.2.1, bG l bm k hk, putG_nz h7_0 h7_4 h9_1] <;> try simp only [List.append_assoc], by show (acc ++ [x]).length ≤ 2 * (k + 1); (try simp only [List.length_append, List.length_cons, List.length_nil]); omega⟩
 show l.length - (k + 1) < l.length - k
 omega
 refine aq (aH rfl rfl) rfl rfl ?_
 refine aa ?_
 refine aj ?_
 refine aD rfl ?_
 refine aQ ?_
 refine aj ?_
 refine ap ?_
 refine ae ?_
 refine aq (am rfl) rfl rfl ?_
 refine aq (cO rfl rfl) rfl rfl ?_
 refine ay (t := 34) rfl (fun h9_1 => ?_) (fun h9_1 => ?_)
 refine aa ?_
 refine aj ?_
 refine aA rfl ?_
 refine ae ?_
 refine aq (am rfl) rfl rfl ?_
 refine aq (am rfl) rfl rfl ?_
 refine aq (am rfl) rfl rfl ?_
 refine aq (bB  Tryz.underlying22 aU rfl rfl (bF 0 rfl) rfl (by omega)) rfl rfl ?_
 refine aq (b6 bp bm aU rfl (bF 0 rfl) (by omega) rfl rfl rfl) rfl rfl ?_
 refine bY (vs := [_]) ([l.getD k bm] : List (Le)) bp Tryz.underlying22 aU rfl rfl rfl rfl rfl rfl (fun As8 => ?_)
 refine cv (enc := dF) (sz := 7) _ Tryz.underlying22 aU rfl rfl rfl (fun A c => (.s (.z))) (d5 0 Tryz.underlying22 rfl) (by simp only [List.length_append, List.length_cons, List.length_nil]; omega) (by simp only [List.length_append, List.length_cons, List.length_nil]; omega) rfl (fun A8 c8 => ?_)
 refine aq (ai rfl) rfl rfl ?_
 refine aa ?_
 refine bj ?_
 refine aj ?_
 refine ae ?_
 refine aq (am rfl) rfl rfl ?_
 refine aq (br rfl rfl (by omega) (by omega)) rfl rfl ?_
 refine aq (ai rfl) rfl rfl ?_
 refine aa ?_
 refine bv ((k + 1, done, acc ++ [l.getD k bm], A8, c8)) ?_ ?_ ⟨rfl, rfl, rfl, trivial⟩ (by repeat (first | exact trivial | refine ⟨rfl, ?_⟩)) (bq 1)
 exact ⟨by show k + 1 ≤ _; omega, by show fQ l x = (acc ++ [l.getD k bm]) ++ d7 x done (l.drop (k + 1)); rw [hI.2.1, bG l bm k hk, putG_ng h7_0 h7_4 h9_1] <;> try simp only [List.append_assoc], by show (acc ++ [l.getD k bm]).length ≤ 2 * (k + 1); (try simp only [List.length_append, List.length_cons, List.length_nil]); omega⟩
 show l.length - (k + 1) < l.length - k
 omega
 refine aa ?_
 refine aj ?_
 refine aD rfl ?_
 refine aQ ?_
 refine bj ?_
 refine aj ?_
 refine ae ?_
 refine aq (am rfl) rfl rfl ?_
 refine aq (br rfl rfl (by omega) (by omega)) rfl rfl ?_
 refine aq (ai rfl) rfl rfl ?_
 refine aa ?_
 refine bv ((k + 1, done, acc, A5, c5)) ?_ ?_ ⟨rfl, rfl, rfl, trivial⟩ (by repeat (first | exact trivial | refine ⟨rfl, ?_⟩)) aG
 exfalso; omega
 show l.length - (k + 1) < l.length - k
 omega
 refine aa ?_
 refine aj ?_
 refine aD rfl ?_
 refine bJ ?_
 refine aV ?_
 refine aX ?_
 refine a8 ?_
 refine aj ?_
 refine ap ?_
 refine ap ?_
 have hkl : k = l.length := by omega
 have hE0 := hI.2.1
 rw [List.drop_of_length_le (by omega), d7] at hE0
 refine ae ?_
 refine aq (am rfl) rfl rfl ?_
 refine bN (t := 42) rfl (fun h11_0 => ?_) (fun h11_0 => ?_)
 refine aq (bS rfl) rfl rfl ?_
 refine aa ?_
 refine aj ?_
 refine aD rfl ?_
 refine aQ ?_
 refine aj ?_
 refine ap ?_
 refine ae ?_
 refine aq (am rfl) rfl rfl ?_
 refine aq (ai rfl) rfl rfl ?_
 refine aa ?_
 refine aj ?_
 refine aN ?_
 refine aR (ts := [4]) rfl rfl rfl (fun w hw => ?_)
 have hE : fQ l x = acc := by rw [hE0, h11_0]; simp
 exact ⟨(A5, c5), by rw [hE]; rfl, hw.base, by rw [hE]; exact (hw.weak (.cons_cons _ (.cons _ .slnil)) (fun s hs => hs)).toNews⟩
 refine aq (bS rfl) rfl rfl ?_
 refine aa ?_
 refine aj ?_
 refine aA rfl ?_
 refine ae ?_
 refine aq (am rfl) rfl rfl ?_
 refine aq (bu 1 aU rfl rfl rfl rfl) rfl rfl ?_
 refine bY (vs := [_]) ([x] : List (Le)) bp Tryz.underlying22 aU rfl rfl rfl rfl rfl rfl (fun As10 => ?_)
 refine cv (enc := dF) (sz := 7) _ Tryz.underlying22 aU rfl rfl rfl (fun A c => (.s (.z))) (d5 0 Tryz.underlying22 rfl) (by simp only [List.length_append, List.length_cons, List.length_nil]; omega) (by simp only [List.length_append, List.length_cons, List.length_nil]; omega) rfl (fun A10 c10 => ?_)
 refine aq (ai rfl) rfl rfl ?_
 refine aa ?_
 refine aj ?_
 refine ap ?_
 refine ae ?_
 refine aq (am rfl) rfl rfl ?_
 refine aq (ai rfl) rfl rfl ?_
 refine aa ?_
 refine aj ?_
 refine aN ?_
 refine aR (ts := [4]) rfl rfl rfl (fun w hw => ?_)
 have hE : fQ l x = acc ++ [x] := by rw [hE0, h11_0]; simp
 exact ⟨(A10, c10), by rw [hE]; rfl, hw.base, by rw [hE]; exact (hw.weak (.cons _ (.cons_cons _ (.cons _ .slnil))) (fun s hs => hs)).toNews⟩

theorem rd_bare {w : World} {l : List Le} (h : ∀ x ∈ l, x.e.addrs = [] ∧ x.e.ports = []) : Rd (l.flatMap fm) w := fun c hc => by
  obtain ⟨x, hx, hc⟩ := List.mem_flatMap.1 hc
  obtain ⟨h1, h2⟩ := h x hx
  simp only [fm, List.mem_cons, List.not_mem_nil, or_false] at hc
  rcases hc with rfl | rfl
  · rw [h1]; exact ⟨⟨rfl, nofun, .inl rfl⟩, fun b hb => absurd hb.1 (by simp)⟩
  · rw [h2]; exact ⟨⟨rfl, nofun, .inl rfl⟩, fun b hb => absurd hb.1 (by simp)⟩

end Go.Proofs.YtnpdgmoeoidppaaGreat

/- Parts of slices that are read. -/
namespace Go.Proofs.YtnpdgmoeoidppaaGreat
open Go.RowKit Go.Shelf
set_option linter.unusedVariables false

section
variable {x : Cx} {l : Fr} {L S : List Ch}
theorem rd_dropR {α : Type} {enc : α → List Value} {sz : Nat} (hE : Enc enc sz) {A : Option Addr} {c m : Nat} {xs : List α} {w : World} (h : (Ch.rd A sz enc xs).P w ∧ ∀ b, (Ch.rd A sz enc xs).ok b → b < w.heap.size) (hc : xs.length ≤ c) (hm : m ≤ xs.length) : (Ch.rd (sA A m c sz) sz enc (xs.drop m)).P w ∧ ∀ b, (Ch.rd (sA A m c sz) sz enc (xs.drop m)).ok b → b < w.heap.size := by
  refine ⟨rsP_drop hE h.1 hc hm, fun b hb => h.2 b ⟨?_, ?_⟩⟩
  · have := hb.1; simp at this; omega
  · have := hb.2
    unfold sA at this
    split at this
    · exact this
    · cases A with
      | none => exact this
      | some a =>
        rw [← this]
        show some a.block = some (Addr.add a _).block
        unfold Addr.add; split <;> rfl
theorem fy {α : Type} {enc : α → List Value} {sz : Nat} (hE : Enc enc sz) {A : Option Addr} {c m : Nat} {xs : List α} {w : World} (i : Nat) (h : S[i]? = some (Ch.rd A sz enc xs)) (hm : m ≤ xs.length) (hc : xs.length ≤ c) (hw : Hp x.ok0 x.w0 L S w) : (Ch.rd (sA A m c sz) sz enc (xs.drop m)).P w ∧ ∀ b, (Ch.rd (sA A m c sz) sz enc (xs.drop m)).ok b → b < w.heap.size :=
  rd_dropR hE (hw.rdS (List.mem_of_getElem? h)) hc hm
end
section
variable {x : Cx} {C : World → Prop} {l : Fr} {L S : List Ch} {Q : Exit → Act → World → Prop} {ops : Array Oper} {fuel m : Nat} {listed : Array Bool}
theorem fV {t : Nat} {p : Prop} [Decidable p] (h : look l t = some (.bool (decide p))) (hp : p) (k : WU x C m ops fuel listed ((t, .bool true) :: l) L S Q) : WU x C m ops fuel listed l L S Q := dT (.bool true) h (by rw [decide_eq_true hp]) k
theorem wu_af {t : Nat} {p : Prop} [Decidable p] (h : look l t = some (.bool (decide p))) (hp : ¬ p) (k : WU x C m ops fuel listed ((t, .bool false) :: l) L S Q) : WU x C m ops fuel listed l L S Q := dT (.bool false) h (by rw [decide_eq_false hp]) k
theorem wu_splitb {t : Nat} {b : Bool} (h : look l t = some (.bool b)) (ht : b = true → WU x C m ops fuel listed ((t, .bool true) :: l) L S Q) (hf : b = false → WU x C m ops fuel listed ((t, .bool false) :: l) L S Q) : WU x C m ops fuel listed l L S Q := by
  cases hb : b with
  | true => exact dT (.bool true) h (by rw [hb]) (ht hb)
  | false => exact dT (.bool false) h (by rw [hb]) (hf hb)
theorem wu_splitp {t : Nat} {p : Prop} [Decidable p] (h : look l t = some (.bool (decide p))) (ht : p → WU x C m ops fuel listed ((t, .bool true) :: l) L S Q) (hf : ¬ p → WU x C m ops fuel listed ((t, .bool false) :: l) L S Q) : WU x C m ops fuel listed l L S Q := by
  by_cases hp : p
  · exact fV h hp (ht hp)
  · exact wu_af h hp (hf hp)
end
theorem w_joinL {x : Cx} {l : Fr} {L S : List Ch} {Q : Exit → Act → World → Prop} {y z : Code} {σ : Type} (lf : σ → Fr) (Lf : σ → List Ch) (K : ∀ g : σ, W x (lf g ++ l) (Lf g) S z Q) (h : (∀ (g : σ) (l' : Fr), Kn2 l' [] (lf g ++ l) → W x l' (Lf g) S z Q) → W x l L S (.seq y z) Q) : W x l L S (.seq y z) Q := h (fun g l' hk a w ha hw => K g a w (ha.mono fun t v ht => hk.look t v ht rfl) hw)
end Go.Proofs.YtnpdgmoeoidppaaGreat

/- A slice cut in place: what is behind the cut moved up, the rest cleared. -/
namespace Go.Proofs.YtnpdgmoeoidppaaGreat
open Go.RowKit Go.Shelf
set_option linter.unusedVariables false
set_option linter.unusedSimpArgs false

theorem cut_lists {cur F : List Value} {a b n : Nat} (hb : a + F.length = b) (h1 : b ≤ n) (h2 : n ≤ cur.length) : (cur.take a ++ F ++ cur.drop b).take n = (cur.take n).take a ++ F ++ (cur.take n).drop b := by
  rw [List.take_append, List.take_of_length_le (l := cur.take a ++ F) (by rw [List.length_append, List.length_take]; omega), List.take_take, Nat.min_eq_left (by omega)]
  congr 1
  rw [List.length_append, List.length_take, Nat.min_eq_left (by omega), hb, List.drop_take]
section
variable {x : Cx} {l : Fr} {L S : List Ch} {Q : Exit → Act → World → Prop} {ops : Array Oper} {rest : List Oper} {d : Nat} {ty : TypeId} {pos : String} {af : Array Edge} {gd : Option (Nat × Bool)}
theorem y_slice3 {y i1 i2 i3 : Operand} {A : Option Addr} {n c m k q sz bytes : Nat} {a1 a2 a3 : Int} {k1 k2 k3 : IntKind} {t e : TypeId} {agg : Bool} {z : Value} (h0 : x.P.underlying t = some (.slice e)) (he : TyI x.P e agg sz bytes z) (hy : ev l y = some (.slice A n c)) (hi1 : ev l i1 = some (.int k1 a1)) (hi2 : ev l i2 = some (.int k2 a2)) (hi3 : ev l i3 = some (.int k3 a3)) (e1 : a1 = (m : Int)) (e2 : a2 = (k : Int)) (e3 : a3 = (q : Int)) (b1 : m ≤ k) (b2 : k ≤ q) (hq : ∀ w, Hp x.ok0 x.w0 L S w → q ≤ c) :
    Yv x l L S ⟨some d, .slice t y (some i1) (some i2) (some i3), ty, pos, af, gd⟩ (.slice (if q = m then A else A.map (·.add (m * sz))) (k - m) (q - m)) := fun a w ha hw => by
  have h1 : x.P.underlying t = some (.slice (x.P.elem t)) := by rw [gC h0]; exact h0
  have h2 := gC h0
  subst e1 e2 e3
  have hc := hq w hw
  have e1 := run_slice_lhm (P := x.P) w t A n c h1 k1 k2 k3 (m : Int) (k : Int) (q : Int) (by omega) (by omega) (by omega) (by omega)
  simp [execOp, ha.ev hy, ha.ev hi1, ha.ev hi2, ha.ev hi3, run_sliceAt_slice (P := x.P) w t _ _ _ _ h1, e1, sliced, Result.andThen, h2, he.size w]
/-- What is behind a place is moved up, in place: the row is as long as it was. -/
theorem o_cut {α : Type} {enc : α → List Value} {y u : Operand} {t tx e : TypeId} {agg : Bool} {sz bytes c m j i : Nat} {z : Value} {A : Option Addr} {xs : List α} {L' : List Ch} (hE : Enc enc sz) (ht : x.P.underlying t = some (.slice e)) (htx : x.P.underlying tx = some (.slice e)) (he : TyI x.P e agg sz bytes z) (hz : Nat.beq z.cells.size sz = true)
    (hy : ev l y = some (.slice A (xs.take m).length c)) (hu : ev l u = some (.slice (sA A j c sz) (xs.drop j).length (c - j))) (hm : m ≤ j) (hj : j ≤ xs.length) (hi : SetAt L i (Ch.ls A c e sz enc xs) (Ch.ls A c e sz enc (xs.take m ++ xs.drop j ++ xs.drop (xs.length - (j - m)))) L') (hN : Nat.blt d x.N = true)
    (k : WL x ((d, .slice A (xs.length - (j - m)) c) :: l) L' S ops rest Q) : WL x l L S ops (⟨some d, .call { callee := .builtin .append, args := #[y, u], argTypes := #[t, tx] }, ty, pos, af, none⟩ :: rest) Q :=
  wl_val rfl rfl (fun _ => nofun) hN
    (fun a w ha hw => by
      have hP : SlP A xs.length c e sz (fl enc xs) w := hw.own _ hi.mem
      obtain ⟨i0, hi1, hi2, hi3, hi4⟩ := he.inf
      subst hi3
      have hs : Src x.P i0.size tx (.slice (sA A j c i0.size) (xs.drop j).length (c - j)) (xs.drop j).length (fl enc (xs.drop j)) w := RsP.src htx (rsP_drop hE hP.rs (by rcases hP.at_ with ⟨_, h2, h3⟩ | ⟨g, cur, fz, _, _, h2, _⟩ <;> omega) hj)
      have hln : (xs.take m).length + (xs.drop j).length = xs.length - (j - m) := by simp; omega
      have hl9 : (xs.take m ++ xs.drop j ++ xs.drop (xs.length - (j - m))).length = xs.length := by simp; omega
      rcases hP.at_ with ⟨rfl, h0, rfl⟩ | ⟨g, cur, fz, rfl, hg, h1, h2, h3, h4, h5⟩
      · have hx : xs = [] := List.length_eq_zero_iff.1 h0
        subst hx
        have hj0 : j = 0 := by simpa using hj
        have hm0 : m = 0 := by omega
        subst hj0 hm0
        have hcl := hs.cells
        have hsl := hs.len
        refine ⟨w, ?_, hw.upd hi (Upd.refl _ _) (by exact hP) (fun b hb => .inl hb)⟩
        simp only [execOp, resolve, invoke, builtin]
        simp only [List.drop_nil, List.length_nil] at hcl hsl
        have hfl : fl enc ([] : List α) = [] := rfl
        rw [hfl] at hcl
        have : (Builtin.append_ #[t, tx] ty #[.slice none 0 0, .slice (sA none 0 0 i0.size) 0 0]).run x.P w = .ok (.slice none 0 0) w := by
          simp [Builtin.append_, run_underlying ht, run_underlying htx, sizeOf, typeInfo, hi1, hsl, hcl]
        simp [ha.ev hy, ha.ev hu, this]
      · have hnl := hs.newsLen
        have hle : (xs.take m).length * i0.size + (xs.drop j).length * i0.size ≤ cur.size := by
          have : xs.length * i0.size ≤ c * i0.size := Nat.mul_le_mul_right _ h1
          have h9 : ((xs.take m).length + (xs.drop j).length) * i0.size ≤ xs.length * i0.size := Nat.mul_le_mul_right _ (by omega)
          rw [Nat.add_mul] at h9; omega
        have hq2 : ∀ q, q < (fl enc (xs.drop j)).length → 0 + (xs.take m).length * i0.size + q < cur.size := fun q hq => by rw [hnl] at hq; omega
        have hr := run_append_room_src (P := x.P) w t tx ty e i0 ht hi1 g 0 (xs.take m).length c _ (xs.drop j).length _ hs (by omega) (fun q hq => by
          have := hq2 q hq
          generalize 0 + (xs.take m).length * i0.size + q = o at this ⊢
          simp [World.cell?, hg, this]) (fun q hq => iU hg h5 (hq2 q hq))
        simp only [Nat.zero_add] at hr
        obtain ⟨cur', e1, e2, e3⟩ := eR (fl enc (xs.drop j)) ((xs.take m).length * i0.size) w cur hg (by omega)
        have hsz : cur'.size = cur.size := by
          have h9 := congrArg List.length e2
          have h8 : (fl enc (xs.drop j)).length + (xs.take m).length * i0.size ≤ cur.size := by rw [hnl]; omega
          generalize (fl enc (xs.drop j)) = F at h9 h8
          generalize (xs.take m).length * i0.size = o at h9 h8
          simp only [Array.length_toList, List.length_append, List.length_take, List.length_drop] at h9
          omega
        refine ⟨_, ?_, hw.upd hi (e3.mono (fun q _ hq => by rw [hq]; rfl)) ?_ (fun b hb => .inl hb)⟩
        · simp only [execOp, resolve, invoke, builtin]
          rw [hln] at hr
          have hye := ha.ev hy
          have hue := ha.ev hu
          generalize (xs.take m).length = n1 at hye hr ⊢
          generalize (xs.drop j).length = n2 at hue hr ⊢
          simp [hye, hue, hr]
        · show SlP _ (xs.take m ++ xs.drop j ++ xs.drop (xs.length - (j - m))).length c e i0.size (fl enc (xs.take m ++ xs.drop j ++ xs.drop (xs.length - (j - m)))) _
          rw [hl9]
          refine ⟨by rw [eD hE.len, hl9], fun v hv => hE.ones _ v hv, .inr ⟨g, cur', fz, rfl, e1, h1, h2, by omega, ?_, fun o ho => h5 o (by omega)⟩⟩
          have hml : (xs.take m).length = m := by rw [List.length_take]; omega
          have hdl : (fl enc (xs.drop j)).length = (xs.length - j) * i0.size := by rw [hnl, List.length_drop]
          have hcl : xs.length * i0.size ≤ cur.toList.length := by rw [Array.length_toList]; exact Nat.le_trans (Nat.mul_le_mul_right _ h1) h3
          have q2 : m * i0.size + (xs.length - j) * i0.size = (xs.length - (j - m)) * i0.size := by rw [← Nat.add_mul]; congr 1; omega
          have q3 : (xs.length - (j - m)) * i0.size ≤ xs.length * i0.size := Nat.mul_le_mul_right _ (by omega)
          rw [e2, hml, hdl, q2, cut_lists (by rw [hdl, q2]) q3 hcl, ← i4, ← i4, jR hE, fl_drop hE xs (xs.length - (j - m)), ← h4])
    k
theorem y_slice2 {y i1 i2 : Operand} {A : Option Addr} {n c m k sz bytes : Nat} {a1 a2 : Int} {k1 k2 : IntKind} {t e : TypeId} {agg : Bool} {z : Value} (h0 : x.P.underlying t = some (.slice e)) (he : TyI x.P e agg sz bytes z) (hy : ev l y = some (.slice A n c)) (hi1 : ev l i1 = some (.int k1 a1)) (hi2 : ev l i2 = some (.int k2 a2)) (e1 : a1 = (m : Int)) (e2 : a2 = (k : Int)) (b1 : m ≤ k) (hq : ∀ w, Hp x.ok0 x.w0 L S w → k ≤ c) :
    Yv x l L S ⟨some d, .slice t y (some i1) (some i2) none, ty, pos, af, gd⟩ (.slice (sA A m c sz) (k - m) (c - m)) := fun a w ha hw => by
  have h1 : x.P.underlying t = some (.slice (x.P.elem t)) := by rw [gC h0]; exact h0
  have h2 := gC h0
  subst e1 e2
  have hc := hq w hw
  have e1 := run_slice_lh (P := x.P) w t A n c h1 k1 k2 (m : Int) (k : Int) (by omega) (by omega) (by omega)
  simp [execOp, ha.ev hy, ha.ev hi1, ha.ev hi2, run_sliceAt_slice (P := x.P) w t _ _ _ _ h1, e1, sA, sliced, Result.andThen, h2, he.size w]
theorem zero_cells_mem {zs : Array Value} {n : Nat} {v : Value} (h : v ∈ (Builtin.zeroCells zs n).toList) : v ∈ zs.toList := by
  simp only [Builtin.zeroCells, Array.toList_map, List.mem_map, Array.mem_toList_iff, Array.mem_range] at h
  obtain ⟨i, hi, rfl⟩ := h
  have h0 : 0 < zs.size := by
    rcases Nat.eq_zero_or_pos zs.size with q | q
    · rw [q] at hi; omega
    · exact q
  have h1 : i % zs.size < zs.size := Nat.mod_lt _ h0
  rw [getElem!_pos zs (i % zs.size) h1]
  simp
/-- The rest of a row is cleared, and forgotten. -/
theorem o_clr {α : Type} {enc : α → List Value} {y : Operand} {t e : TypeId} {agg : Bool} {sz bytes c m n i : Nat} {z : Value} {A : Option Addr} {xs : List α} {L' : List Ch} (hE : Enc enc sz) (ht : x.P.underlying t = some (.slice e)) (he : TyI x.P e agg sz bytes z) (hz : Nat.beq z.cells.size sz = true) (hz1 : z.cells.toList.all (·.oneCell') = true)
    (hy : ev l y = some (.slice (sA A m c sz) n (c - m))) (hm : m ≤ xs.length) (hn : n = xs.length - m) (hi : SetAt L i (Ch.ls A c e sz enc xs) (Ch.ls A c e sz enc (xs.take m)) L')
    (k : WL x l L' S ops rest Q) : WL x l L S ops (⟨none, .call { callee := .builtin .clear, args := #[y], argTypes := #[t] }, ty, pos, af, none⟩ :: rest) Q :=
  iX rfl (fun _ => nofun) fun a w ha hw => by
    have main : ∃ w', (execOp a.eval ⟨none, .call { callee := .builtin .clear, args := #[y], argTypes := #[t] }, ty, pos, af, none⟩).run x.P w = .ok (.value (.tuple #[])) w' ∧ Hp x.ok0 x.w0 L' S w' := by
      subst hn
      have hP : SlP A xs.length c e sz (fl enc xs) w := hw.own _ hi.mem
      have hl9 : (xs.take m).length = m := by simp; omega
      by_cases hnz : xs.length - m = 0
      · have hml : m = xs.length := by omega
        refine ⟨w, ?_, hw.upd hi (Upd.refl _ _) (by rw [hml, List.take_length]; exact hP) (fun b hb => .inl hb)⟩
        rw [hnz] at hy
        have : (Builtin.clear_ #[t] ty #[.slice (sA A m c sz) 0 (c - m)]).run x.P w = .ok (.tuple #[]) w := by
          cases sA A m c sz <;> simp [Builtin.clear_, run_underlying ht]
        simp only [execOp, resolve, invoke, builtin]
        simp [ha.ev hy, this]
      · rcases hP.at_ with ⟨rfl, h0, rfl⟩ | ⟨g, cur, fz, rfl, hg, h1, h2, h3, h4, h5⟩
        · omega
        · have hcm : ¬ c = m := by omega
          have hsA : sA (some ⟨g, 0, none⟩) m c sz = some ⟨g, m * sz, none⟩ := by
            rw [sA, if_neg hcm, Option.map_some, Addr.add_lit, Nat.zero_add]
          have hzs : z.cells.size = sz := Nat.eq_of_beq_eq_true hz
          have hlen : (Builtin.zeroCells z.cells (xs.length - m)).toList.length = (xs.length - m) * sz := by rw [Array.length_toList, size_zeroCells, hzs]
          have hle : m * sz + (xs.length - m) * sz ≤ cur.size := by
            rw [← Nat.add_mul]
            exact Nat.le_trans (Nat.mul_le_mul_right _ (by omega)) h3
          have hst := run_storeCells_cells (P := x.P) g (m * sz) (Builtin.zeroCells z.cells (xs.length - m)).toList 0 w (fun j hj => by simp [World.cell?, hg]; omega) (fun j hj => iU hg h5 (by omega)) (fun v hv => List.all_eq_true.1 hz1 v (zero_cells_mem hv))
          simp only [Nat.add_zero] at hst
          obtain ⟨q, hq⟩ : ∃ q, xs.length - m = q + 1 := ⟨xs.length - m - 1, by omega⟩
          have hr : (Builtin.clear_ #[t] ty #[.slice (some ⟨g, m * sz, none⟩) (xs.length - m) (c - m)]).run x.P w = .ok (.tuple #[]) (w.setCells g (m * sz) (Builtin.zeroCells z.cells (xs.length - m)).toList) := by
            rw [hq] at hst ⊢
            simp [Builtin.clear_, run_underlying ht, he.zero, hst]
          obtain ⟨cur', e1, e2, e3⟩ := eR (Builtin.zeroCells z.cells (xs.length - m)).toList (m * sz) w cur hg (by omega)
          have hsz : cur'.size = cur.size := by
            have := congrArg List.length e2
            simp only [Array.length_toList, List.length_append, List.length_take, List.length_drop] at this hlen ⊢
            omega
          rw [hsA] at hy
          refine ⟨_, ?_, hw.upd hi (e3.mono (fun q _ hq => by rw [hq]; rfl)) ?_ (fun b hb => .inl hb)⟩
          · simp only [execOp, resolve, invoke, builtin]
            simp [ha.ev hy, hr]
          · show SlP _ (xs.take m).length c e sz (fl enc (xs.take m)) _
            rw [hl9]
            refine ⟨by rw [eD hE.len, hl9], fun v hv => hE.ones _ v hv, .inr ⟨g, cur', fz, rfl, e1, by omega, h2, by omega, ?_, fun o ho => h5 o (by omega)⟩⟩
            have q1 : m * sz ≤ xs.length * sz := Nat.mul_le_mul_right _ hm
            rw [e2, jR hE, ← h4, List.append_assoc, List.take_append_of_le_length (by simp; omega), List.take_take, List.take_take, Nat.min_self, Nat.min_eq_left q1]
    obtain ⟨w', e1, e2⟩ := main
    rw [e1]
    exact k _ _ (ha.skip _) e2
end
end Go.Proofs.YtnpdgmoeoidppaaGreat
