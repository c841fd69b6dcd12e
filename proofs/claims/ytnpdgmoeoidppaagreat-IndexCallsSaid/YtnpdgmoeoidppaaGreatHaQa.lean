import Derived.Test.YtnpdgmoeoidppaaGreatLoQa
import Derived.OrdersIn
import Derived.Test.YtnpdgmoeoidppaaGreatIeQa
/- Regions with open order, inside rounds too, calls of yield in them; scopes; parts of slices. -/
namespace Go.Proofs.YtnpdgmoeoidppaaGreat
open Go.RowKit Go.Shelf
set_option linter.unusedVariables false
set_option linter.unusedSimpArgs false

/-! A scope through which nothing jumps. -/
section
variable {x : Cx} {l : Fr} {L S : List Ch} {Q : Exit → Act → World → Prop}
theorem f9 {x : Cx} {Bk : List Ch} {σ : Type} {It : σ → Prop} {Ij : Code → σ → Prop} {Lf : σ → List Ch} {S : List Ch} : jK (Qr x Bk It Ij Lf S) := fun _ _ _ _ _ h => h.elim
end

/-! Regions with open order. -/
def noDefer (ops : Array Oper) : Bool := ops.all fun o => match o.op with
  | .defer _ => false
  | _ => true
theorem jv {ops : Array Oper} (h : noDefer ops = true) {j : Nat} {o : Oper} (ho : ops[j]? = some o) : ∀ c, o.op ≠ .defer c := fun c e => by
  have h1 := Array.all_eq_true'.1 h o (Array.mem_of_getElem? ho)
  rw [e] at h1
  cases h1
theorem wpOpIn_putIf {ro : Option Nat} {P : Program} {ops : Array Oper} {Q : Exit → Act → World → Prop} {C : World → Prop} {j : Nat} {oi oj : Oper} {v : Value} (hj : ops[j]? = some oj) (hap : oi.apart ops oj = true)
    (hsi : ∀ cs b, oi.op ≠ .select cs b) (hsj : ∀ cs b, oj.op ≠ .select cs b) (hdj : ∀ c, oj.op ≠ .defer c)
    (hQ : ∀ c a w, Q (.panic c) (a.put oi.dst v) w → Q (.panic c) a w) {K : Act → World → Prop} {a : Act} {w : World}
    (hy : YieldsIf P ops C oi v a) (h : wpOpIn (fw ro) 0 P ops Q j K (a.put oi.dst v) w) :
    wpOpIn (fw ro) 0 P ops Q j (fun a' w' => YieldsIf P ops C oi v a' ∧ K (a'.put oi.dst v) w') a w := by
  obtain ⟨h1, h2, h3⟩ := Oper.apart_spec hap
  have fQ : ∀ (a : Act), YieldsIf P ops C oi v a → ∀ u, YieldsIf P ops C oi v (a.put oj.dst u) := fun a hy u =>
    hy.of_same (execOp_put oi hsi a oj.dst u h3) (wanted_put oi a oj.dst u h3)
  have keepD : ∀ d, YieldsIf P ops C oi v { a with defers := d :: a.defers } := fun d => hy.of_same rfl rfl
  unfold wpOpIn at *
  simp only [hj] at *
  rw [wanted_put oj a oi.dst v h1] at h
  split
  · rename_i hw
    simp only [hw, if_true] at h
    unfold Oper.wpIn at *
    refine ⟨fun _ _ => trivial, ?_⟩
    have h := h.2
    rw [Oper.semAt_eq _ _ _ hdj, execOp_put oj hsj a oi.dst v h1] at h
    rw [Oper.semAt_eq _ _ _ hdj]
    generalize (execOp a.eval oj).run P w = r at *
    cases r with
    | ok n w' =>
      cases n <;> simp only [Oper.uponIn] at h ⊢
      case value u => exact ⟨fQ a hy u, by rw [← Act.put_comm a v u h2]; exact h⟩
      case skip => exact ⟨fQ a hy _, by rw [← Act.put_comm a v undef h2]; exact h⟩
      case defer d =>
        refine ⟨fQ _ (keepD d) _, ?_⟩
        rw [← Act.put_comm _ v undef h2, ← Act.put_defers]
        exact h
      case enter f args =>
        refine ⟨h.1, CallsIn.mono h.2 fun e w'' he => ?_⟩
        cases e with
        | returned u => exact ⟨fQ a hy u, by rw [← Act.put_comm a v u h2]; exact he⟩
        | panicked c => exact hQ _ _ _ he
        | outgrown => exact he
      case row row args => exact ⟨h.1, RowsIn.mono h.2 fun u w'' he => ⟨fQ a hy u, by rw [← Act.put_comm a v u h2]; exact he⟩⟩
      case round l f tmps assign body =>
        refine ⟨h.1, RoundIn.mono h.2 fun e w'' he => ?_⟩
        cases e with
        | returned u => exact ⟨fQ a hy u, by rw [← Act.put_comm a v u h2]; exact he⟩
        | panicked c => exact hQ _ _ _ he
        | outgrown => exact he
    | halt x w' =>
      cases x <;> simp only [Oper.uponIn] at h ⊢
      case panic u => exact hQ _ _ _ h
  · rename_i hw
    simp only [hw] at h
    exact ⟨fun _ _ => trivial, fQ a hy _, by rw [← Act.put_comm a v undef h2]; exact h.2⟩
theorem ik {ro : Option Nat} {P : Program} {ops : Array Oper} {Q : Exit → Act → World → Prop} {C : World → Prop} {i : Nat} {o : Oper} {v : Value} {a : Act} (hi : ops[i]? = some o) (hd : ∀ c, o.op ≠ .defer c) (hy : YieldsIf P ops C o v a)
    {K : Act → World → Prop} {w : World} (hS : C w) (h : K (a.put o.dst v) w) : wpOpIn (fw ro) 0 P ops Q i K a w := by
  unfold Go.wpOpIn
  simp only [hi]
  rcases hy with ⟨hw, hv⟩ | ⟨hw, rfl⟩
  · simp only [hw, if_true, Oper.wpIn, Oper.semAt_eq _ _ _ hd, hv w hS, Oper.uponIn]; exact ⟨fun _ _ => trivial, h⟩
  · simp only [hw, Bool.false_eq_true, if_false]; exact ⟨fun _ _ => trivial, h⟩
def jd (ro : Option Nat) (P : Program) (ops : Array Oper) (Q : Exit → Act → World → Prop) (C : World → Prop) (m : Nat) : Nat → Array Bool → Act → World → Prop
  | 0, listed, a, _w => Region.ready .any ops listed = [] ∧ Q .normal a _w
  | fuel + 1, listed, a, w =>
    (Region.ready .any ops listed = [] → Q .normal a w) ∧
    ∀ i ∈ Region.ready .any ops listed, wpOpIn (fw ro) 0 P ops Q i (fun a' w' => (ej m (listed.setIfInBounds i true) = true → C w') ∧ jd ro P ops Q C m fuel (listed.setIfInBounds i true) a' w') a w
theorem jf {ro : Option Nat} {P : Program} {ops : Array Oper} {Q : Exit → Act → World → Prop} {C : World → Prop} {m : Nat} : ∀ (fuel : Nat) (listed : Array Bool) (a : Act) (w : World), jd ro P ops Q C m fuel listed a w → wpAnyIn (fw ro) 0 P .any ops Q fuel listed a w
  | 0, _, _, _, h => h
  | fuel + 1, _, _, _, h => ⟨h.1, fun i hi => wpOpIn_mono (fun a' w' h' => jf fuel _ a' w' h'.2) (h.2 i hi)⟩
theorem jw {ro : Option Nat} {P : Program} {ops : Array Oper} {Q : Exit → Act → World → Prop} {C : World → Prop} {m i : Nat} {oi : Oper} {v : Value} (hi : ops[i]? = some oi) (hsel : ∀ (j : Nat) (o : Oper) cs b, ops[j]? = some o → o.op ≠ .select cs b) (hdef : ∀ (j : Nat) (o : Oper), ops[j]? = some o → ∀ c, o.op ≠ .defer c)
    (hQ : ∀ c a w, Q (.panic c) (a.put oi.dst v) w → Q (.panic c) a w) (hm : iB ops m i = true) (him : i < m) :
    ∀ (fuel : Nat) (listed : Array Bool) (a : Act) (w : World), ej m listed = true → iE ops listed →
      (∀ j oj, ops[j]? = some oj → j ≠ i → listed.getD j true = false → (∀ e ∈ oj.after, Region.binds .any e = true → e.on ≠ i) → oi.apart ops oj = true) →
      i ∈ Region.ready .any ops listed → YieldsIf P ops C oi v a → C w →
      jd ro P ops Q C m fuel (listed.setIfInBounds i true) (a.put oi.dst v) w → jd ro P ops Q C m (fuel + 1) listed a w := by
  intro fuel
  induction fuel with
  | zero =>
    intro listed a w hnt hcl _ hr hy hS H
    refine ⟨fun h => (by rw [h] at hr; cases hr), fun j hj => ?_⟩
    by_cases hji : j = i
    · subst hji; exact ik hi (hdef _ _ hi) hy hS ⟨fun _ => hS, H⟩
    · have := ready_mono hj hji
      rw [H.1] at this
      cases this
  | succ fuel ih =>
    intro listed a w hnt hcl hfree hr hy hS H
    refine ⟨fun h => (by rw [h] at hr; cases hr), fun j hj => ?_⟩
    by_cases hji : j = i
    · subst hji; exact ik hi (hdef _ _ hi) hy hS ⟨fun _ => hS, H⟩
    · have h1 := H.2 j (ready_mono hj hji)
      obtain ⟨hjun, oj, hoj, hall⟩ := mem_ready.1 hj
      have hun : listed.getD i false = false := by
        have h0 := (mem_ready.1 hr).1
        rcases Nat.lt_or_ge i listed.size with h' | h'
        · simpa [h'] using h0
        · simp [Array.getElem?_eq_none h']
      have hnot : ∀ e ∈ oj.after, Region.binds .any e = true → e.on ≠ i := fun e he hb heq => by
        have h1 := hall e he hb
        rw [heq, hun] at h1
        cases h1
      have hjm : j < m := by
        rcases Nat.lt_or_ge j m with h | h
        · exact h
        · simp only [iB, List.all_eq_true, List.mem_range] at hm
          have h1 := hm j (Array.getElem?_eq_some_iff.1 hoj).1
          rw [Bool.or_eq_true] at h1
          rcases h1 with h1 | h1
          · have := Nat.le_of_ble_eq_true h1; omega
          · rw [gV hcl _ j oj hoj hall h1] at hun; cases hun
      have h2 := wpOpIn_putIf hoj (hfree j oj hoj hji hjun hnot) (fun cs b => hsel i oi cs b hi) (fun cs b => hsel j oj cs b hoj) (hdef j oj hoj) hQ hy h1
      have hfree' : ∀ k ok, ops[k]? = some ok → k ≠ i → (listed.setIfInBounds j true).getD k true = false →
          (∀ e ∈ ok.after, Region.binds .any e = true → e.on ≠ i) → oi.apart ops ok = true := fun k ok hk hki hun' hno => by
        refine hfree k ok hk hki ?_ hno
        by_cases hjk : j = k
        · subst hjk; exact hjun
        · rw [getD_set_ne true hjk] at hun'; exact hun'
      have hC := fu (fu hnt him) hjm
      refine wpOpIn_mono (fun a' w' h3 => ⟨fun _ => h3.2.1 hC, ih (listed.setIfInBounds j true) a' w' (fu hnt hjm) (closed_set hcl hoj hall) hfree' (ready_mono hr (Ne.symm hji)) h3.1 (h3.2.1 hC) ?_⟩) h2
      rw [Array.setIfInBounds_comm _ _ hji]
      exact h3.2.2
def WV (x : Cx) (C : World → Prop) (m : Nat) (ops : Array Oper) (fuel : Nat) (listed : Array Bool) (l : Fr) (L S : List Ch) (Q : Exit → Act → World → Prop) : Prop :=
  ∀ a w, Kn x.N x.ds l a → Hp x.ok0 x.w0 L S w → jd x.ro x.P ops Q C m fuel listed a w
def QnV (x : Cx) (C : World → Prop) (m : Nat) (ops : Array Oper) (fuel : Nat) (listed : Array Bool) (Q : Exit → Act → World → Prop) : Exit → Act → World → Prop := Exit.then (fun a w => (ej m listed = true → C w) ∧ jd x.ro x.P ops Q C m fuel listed a w) Q
def WRV (x : Cx) (C : World → Prop) (m : Nat) (ops : Array Oper) (fuel : Nat) (listed : Array Bool) (js : List Nat) (l : Fr) (L S : List Ch) (Q : Exit → Act → World → Prop) : Prop :=
  ∀ i ∈ js, ∀ a w, Kn x.N x.ds l a → Hp x.ok0 x.w0 L S w → wpOpIn (fw x.ro) 0 x.P ops Q i (fun a' w' => (ej m (listed.setIfInBounds i true) = true → C w') ∧ jd x.ro x.P ops Q C m fuel (listed.setIfInBounds i true) a' w') a w
section
variable {x : Cx} {C : World → Prop} {l : Fr} {L S : List Ch} {Q : Exit → Act → World → Prop} {ops : Array Oper} {fuel m : Nat} {listed : Array Bool}
theorem gp {id : Nat} {ol : List Oper} (m : Nat) (hm : x.P.follows .mixedOrders = true) (h : WV x (Hp x.ok0 x.w0 L S) m ol.toArray ol.length (Array.replicate ol.length false) l L S Q) : W x l L S (.region id ol.toArray true) Q := fun a w ha hw => by
  refine wpIn_region_any hm (jf (C := Hp x.ok0 x.w0 L S) (m := m) _ _ _ _ ?_)
  have := h a { w with drawn := w.drawn + 1 } ha hw.drew
  simpa using this
theorem aL {i d : Nat} {op : Op} {ty : TypeId} {pos : String} {af : Array Edge} {gd : Option (Nat × Bool)} {v : Value} {listed' : Array Bool} {L0 S0 : List Ch} (hi : ops[i]? = some ⟨some d, op, ty, pos, af, gd⟩) (hw : ∀ a, Kn x.N x.ds l a → Region.wanted ⟨some d, op, ty, pos, af, gd⟩ (yielded ops a.tmps) = true)
    (hy : Yv x l L0 S0 ⟨some d, op, ty, pos, af, gd⟩ v) (hC : ∀ w, Hp x.ok0 x.w0 L S w → C w) (hC0 : ∀ w, C w → Hp x.ok0 x.w0 L0 S0 w) (hN : Nat.blt d x.N = true) (hpk : jK Q)
    (hs : (Region.noSelect ops && noDefer ops && Region.free .any ops listed i && (Region.ready .any ops listed).contains i && iB ops m i && Nat.blt i m && ej m listed && iC ops listed) = true) (hl : listed.setIfInBounds i true = listed')
    (k : WV x C m ops fuel listed' ((d, v) :: l) L S Q) : WV x C m ops (fuel + 1) listed l L S Q := fun a w ha hh => by
  simp only [Bool.and_eq_true] at hs
  obtain ⟨⟨⟨⟨⟨⟨⟨h1, h0⟩, h2⟩, h3⟩, h4⟩, h5⟩, h6⟩, h7⟩ := hs
  exact jw hi (Region.noSelect_spec h1) (fun _ _ ho => jv h0 ho) (fun c a w h => hpk c a w _ _ h) h4 (Nat.le_of_ble_eq_true h5) fuel listed a w h6 (iL h7) (Region.free_spec hi h2) (by simpa using h3) (.inl ⟨hw a ha, fun w' hw' => hy a w' ha (hC0 w' hw')⟩) (hC w hh) (by rw [hl]; exact k _ w (ha.put (Nat.le_of_ble_eq_true hN) v) hh)
/-- .. one whose guard says no. -/
theorem aH {i d : Nat} {op : Op} {ty : TypeId} {pos : String} {af : Array Edge} {gd : Option (Nat × Bool)} {listed' : Array Bool} (hi : ops[i]? = some ⟨some d, op, ty, pos, af, gd⟩) (hw : ∀ a, Kn x.N x.ds l a → Region.wanted ⟨some d, op, ty, pos, af, gd⟩ (yielded ops a.tmps) = false)
    (hC : ∀ w, Hp x.ok0 x.w0 L S w → C w) (hN : Nat.blt d x.N = true) (hpk : jK Q)
    (hs : (Region.noSelect ops && noDefer ops && Region.free .any ops listed i && (Region.ready .any ops listed).contains i && iB ops m i && Nat.blt i m && ej m listed && iC ops listed) = true) (hl : listed.setIfInBounds i true = listed')
    (k : WV x C m ops fuel listed' ((d, undef) :: l) L S Q) : WV x C m ops (fuel + 1) listed l L S Q := fun a w ha hh => by
  simp only [Bool.and_eq_true] at hs
  obtain ⟨⟨⟨⟨⟨⟨⟨h1, h0⟩, h2⟩, h3⟩, h4⟩, h5⟩, h6⟩, h7⟩ := hs
  exact jw hi (Region.noSelect_spec h1) (fun _ _ ho => jv h0 ho) (fun c a w h => hpk c a w _ _ h) h4 (Nat.le_of_ble_eq_true h5) fuel listed a w h6 (iL h7) (Region.free_spec hi h2) (by simpa using h3) (.inr ⟨hw a ha, rfl⟩) (hC w hh) (by rw [hl]; exact k _ w (ha.put (Nat.le_of_ble_eq_true hN) undef) hh)
theorem bR {C : World → Prop} {l : Fr} {L S : List Ch} (hC : ∀ w, Hp x.ok0 x.w0 L S w → C w) (h : WV x C m ops fuel listed l L S Q) : E x l L S .normal (QnV x C m ops fuel listed Q) := fun a w ha hw => ⟨fun _ => hC w hw, h a w ha hw⟩
theorem bY {C : World → Prop} {l : Fr} {L S : List Ch} (hi : ej m listed = false) (h : WV x C m ops fuel listed l L S Q) : E x l L S .normal (QnV x C m ops fuel listed Q) := fun a w ha hw => ⟨fun h' => absurd (hi.symm.trans h') (by decide), h a w ha hw⟩
theorem f6 {js : List Nat} (hr : Region.ready .any ops listed = js) (hne : js.isEmpty = false) (h : WRV x C m ops fuel listed js l L S Q) : WV x C m ops (fuel + 1) listed l L S Q := fun a w ha hh =>
  ⟨fun h0 => by rw [hr] at h0; subst h0; simp at hne, fun j hj => h j (hr ▸ hj) a w ha hh⟩
theorem ff : WRV x C m ops fuel listed [] l L S Q := fun i hi => by cases hi
theorem cV {js : List Nat} {o : Oper} {i : Nat} {listed' : Array Bool} (hi : ops[i]? = some o) (hl : listed.setIfInBounds i true = listed')
    (h : WL x l L S ops [o] (QnV x C m ops fuel listed' Q)) (k : WRV x C m ops fuel listed js l L S Q) : WRV x C m ops fuel listed (i :: js) l L S Q := fun j hj => by
  rcases List.mem_cons.1 hj with rfl | hj
  · intro a w ha hh
    rw [hl]
    have h1 := h a w ha hh
    unfold wpListIn at h1
    unfold wpOpIn
    simp only [hi]
    split
    · rename_i hw
      rw [if_pos hw] at h1
      obtain ⟨_, h1⟩ := h1
      refine ⟨fun _ _ => trivial, ?_⟩
      generalize (Oper.semAt (fw x.ro).round a.eval o).run x.P w = r at *
      cases r with
      | halt hh w' => cases hh <;> exact h1
      | ok n w' =>
        cases n with
        | enter f args => exact ⟨h1.1, CallsIn.mono h1.2 fun e w'' hR => by cases e <;> exact hR⟩
        | row r args => exact ⟨h1.1, RowsIn.mono h1.2 fun _ _ hR => hR⟩
        | round l2 f tmps asg body => exact ⟨h1.1, RoundIn.mono h1.2 fun e w'' hR => by cases e <;> exact hR⟩
        | _ => exact h1
    · rename_i hw
      rw [if_neg hw] at h1
      exact ⟨fun _ _ => trivial, h1.2⟩
  · exact k j hj
theorem bQ {o : Oper} {i : Nat} {listed' : Array Bool} (hi : ops[i]? = some o) (hr : Region.ready .any ops listed = [i]) (hl : listed.setIfInBounds i true = listed')
    (h : WL x l L S ops [o] (QnV x C m ops fuel listed' Q)) : WV x C m ops (fuel + 1) listed l L S Q := f6 hr rfl (cV hi hl h ff)
theorem wv_as {t : Nat} {v : Value} (v' : Value) (h : look l t = some v) (e : v = v') (k : WV x C m ops fuel listed ((t, v') :: l) L S Q) : WV x C m ops fuel listed l L S Q := fun a w ha hw => k a w (ha.mono fun t' u h' => by
    simp only [look] at h'
    cases e2 : Nat.beq t t' with
    | true => rw [e2] at h'; cases h'; rw [← Nat.eq_of_beq_eq_true e2, h, e]
    | false => rw [e2] at h'; exact h') hw
theorem wv_at {t : Nat} {p : Prop} [Decidable p] (h : look l t = some (.bool (decide p))) (hp : p) (k : WV x C m ops fuel listed ((t, .bool true) :: l) L S Q) : WV x C m ops fuel listed l L S Q := wv_as (.bool true) h (by rw [decide_eq_true hp]) k
theorem wv_af {t : Nat} {p : Prop} [Decidable p] (h : look l t = some (.bool (decide p))) (hp : ¬ p) (k : WV x C m ops fuel listed ((t, .bool false) :: l) L S Q) : WV x C m ops fuel listed l L S Q := wv_as (.bool false) h (by rw [decide_eq_false hp]) k
theorem ew {t : Nat} {b : Bool} (h : look l t = some (.bool b)) (ht : b = true → WV x C m ops fuel listed ((t, .bool true) :: l) L S Q) (hf : b = false → WV x C m ops fuel listed ((t, .bool false) :: l) L S Q) : WV x C m ops fuel listed l L S Q := by
  cases hb : b with
  | true => exact wv_as (.bool true) h (by rw [hb]) (ht hb)
  | false => exact wv_as (.bool false) h (by rw [hb]) (hf hb)
theorem eu {t : Nat} {p : Prop} [Decidable p] (h : look l t = some (.bool (decide p))) (ht : p → WV x C m ops fuel listed ((t, .bool true) :: l) L S Q) (hf : ¬ p → WV x C m ops fuel listed ((t, .bool false) :: l) L S Q) : WV x C m ops fuel listed l L S Q := by
  by_cases hp : p
  · exact wv_at h hp (ht hp)
  · exact wv_af h hp (hf hp)
theorem cr {fuel : Nat} (hr : Region.ready .any ops listed = []) (h : E x l L S .normal Q) : WV x C m ops fuel listed l L S Q := fun a w ha hh => by
  cases fuel with
  | zero => exact ⟨hr, h a w ha hh⟩
  | succ n => exact ⟨fun _ => h a w ha hh, by rw [hr]; simp⟩
end

/-! Parts of slices. -/
section
variable {x : Cx} {l : Fr} {L S : List Ch}
variable {d : Nat} {ty : TypeId} {pos : String} {af : Array Edge} {gd : Option (Nat × Bool)}
end
end Go.Proofs.YtnpdgmoeoidppaaGreat

/- Chains: plain laws. -/
namespace Go.Proofs.YtnpdgmoeoidppaaGreat
open Go.RowKit Go.Shelf
set_option linter.unusedVariables false
set_option linter.unusedSimpArgs false

section
variable {G : bf → Option bf}
end
/-- Neighbours. -/
def pairs : List bf → List (bf × bf)
  | a :: b :: r => (a, b) :: pairs (b :: r)
  | _ => []
end Go.Proofs.YtnpdgmoeoidppaaGreat

/- chains: followed; hops -/
namespace Go.Proofs.YtnpdgmoeoidppaaGreat
open Go.RowKit Go.Shelf
set_option linter.unusedVariables false
set_option linter.unusedSimpArgs false

end Go.Proofs.YtnpdgmoeoidppaaGreat
