import Derived.Test.YtnpdgmoeoidppaaGreatIbQt
import Derived.OrdersIn
import Derived.Laws.Externs
/- Regions with open order, inside rounds too, calls of yield in them; scopes; parts of slices. -/
namespace Go.Proofs.YtnpdgmoeoidppaaGreat
open Go.RowKit Go.Shelf
set_option linter.unusedVariables false
set_option linter.unusedSimpArgs false

/-! A scope through which nothing jumps. -/
section
variable {x : Cx} {l : Fr} {L S : List Ch} {Q : Exit → Act → World → Prop}
theorem cR {x : Cx} {Bk : List Ch} {σ : Type} {It : σ → Prop} {Ij : Code → σ → Prop} {Lf : σ → List Ch} {S : List Ch} : PkOk (Qr x Bk It Ij Lf S) := fun _ _ _ _ _ h => h.elim
end

/-! Regions with open order. -/
def noDefer (ops : Array Oper) : Bool := ops.all fun o => match o.op with
  | .defer _ => false
  | _ => true
theorem noDefer_spec {ops : Array Oper} (h : noDefer ops = true) {j : Nat} {o : Oper} (ho : ops[j]? = some o) : ∀ c, o.op ≠ .defer c := fun c e => by
  have h1 := Array.all_eq_true'.1 h o (Array.mem_of_getElem? ho)
  rw [e] at h1
  cases h1
theorem wpOpIn_putIf {ro : Option Nat} {P : Program} {ops : Array Oper} {Q : Exit → Act → World → Prop} {C : World → Prop} {j : Nat} {oi oj : Oper} {v : Value} (hj : ops[j]? = some oj) (hap : oi.apart ops oj = true)
    (hsi : ∀ cs b, oi.op ≠ .select cs b) (hsj : ∀ cs b, oj.op ≠ .select cs b) (hdj : ∀ c, oj.op ≠ .defer c)
    (hQ : ∀ c a w, Q (.panic c) (a.put oi.dst v) w → Q (.panic c) a w) {K : Act → World → Prop} {a : Act} {w : World}
    (hy : YieldsIf P ops C oi v a) (h : wpOpIn (fw ro) 0 P ops Q j K (a.put oi.dst v) w) :
    wpOpIn (fw ro) 0 P ops Q j (fun a' w' => YieldsIf P ops C oi v a' ∧ K (a'.put oi.dst v) w') a w := by
  obtain ⟨h1, h2, h3⟩ := Oper.apart_spec hap
  have keep : ∀ (a : Act), YieldsIf P ops C oi v a → ∀ u, YieldsIf P ops C oi v (a.put oj.dst u) := fun a hy u =>
    hy.of_same (execOp_put oi hsi a oj.dst u h3) (wanted_put oi a oj.dst u h3)
  have keepD : ∀ d, YieldsIf P ops C oi v { a with defers := d :: a.defers } := fun d => hy.of_same rfl rfl
  unfold wpOpIn at *
  simp only [hj] at *
  rw [wanted_put oj a oi.dst v h1] at h
  split
  · rename_i hw
    simp only [hw, if_true] at h
    unfold Oper.wpIn at *
    refine ⟨fun _ _ => trivial, ?_⟩
    have h := h.2
    rw [Oper.semAt_eq _ _ _ hdj, execOp_put oj hsj a oi.dst v h1] at h
    rw [Oper.semAt_eq _ _ _ hdj]
    generalize (execOp a.eval oj).run P w = r at *
    cases r with
    | ok n w' =>
      cases n <;> simp only [Oper.uponIn] at h ⊢
      case value u => exact ⟨keep a hy u, by rw [← Act.put_comm a v u h2]; exact h⟩
      case skip => exact ⟨keep a hy _, by rw [← Act.put_comm a v undef h2]; exact h⟩
      case defer d =>
        refine ⟨keep _ (keepD d) _, ?_⟩
        rw [← Act.put_comm _ v undef h2, ← Act.put_defers]
        exact h
      case enter f args =>
        refine ⟨h.1, CallsIn.mono h.2 fun e w'' he => ?_⟩
        cases e with
        | returned u => exact ⟨keep a hy u, by rw [← Act.put_comm a v u h2]; exact he⟩
        | panicked c => exact hQ _ _ _ he
        | outgrown => exact he
      case row row args => exact ⟨h.1, RowsIn.mono h.2 fun u w'' he => ⟨keep a hy u, by rw [← Act.put_comm a v u h2]; exact he⟩⟩
      case round l f tmps assign body =>
        refine ⟨h.1, RoundIn.mono h.2 fun e w'' he => ?_⟩
        cases e with
        | returned u => exact ⟨keep a hy u, by rw [← Act.put_comm a v u h2]; exact he⟩
        | panicked c => exact hQ _ _ _ he
        | outgrown => exact he
    | halt x w' =>
      cases x <;> simp only [Oper.uponIn] at h ⊢
      case panic u => exact hQ _ _ _ h
  · rename_i hw
    simp only [hw] at h
    exact ⟨fun _ _ => trivial, keep a hy _, by rw [← Act.put_comm a v undef h2]; exact h.2⟩
theorem gC {ro : Option Nat} {P : Program} {ops : Array Oper} {Q : Exit → Act → World → Prop} {C : World → Prop} {i : Nat} {o : Oper} {v : Value} {a : Act} (hi : ops[i]? = some o) (hd : ∀ c, o.op ≠ .defer c) (hy : YieldsIf P ops C o v a)
    {K : Act → World → Prop} {w : World} (hS : C w) (h : K (a.put o.dst v) w) : wpOpIn (fw ro) 0 P ops Q i K a w := by
  unfold Go.wpOpIn
  simp only [hi]
  rcases hy with ⟨hw, hv⟩ | ⟨hw, rfl⟩
  · simp only [hw, if_true, Oper.wpIn, Oper.semAt_eq _ _ _ hd, hv w hS, Oper.uponIn]; exact ⟨fun _ _ => trivial, h⟩
  · simp only [hw, Bool.false_eq_true, if_false]; exact ⟨fun _ _ => trivial, h⟩
def io (ro : Option Nat) (P : Program) (ops : Array Oper) (Q : Exit → Act → World → Prop) (C : World → Prop) (m : Nat) : Nat → Array Bool → Act → World → Prop
  | 0, listed, a, _w => Region.ready .any ops listed = [] ∧ Q .normal a _w
  | fuel + 1, listed, a, w =>
    (Region.ready .any ops listed = [] → Q .normal a w) ∧
    ∀ i ∈ Region.ready .any ops listed, wpOpIn (fw ro) 0 P ops Q i (fun a' w' => (ef m (listed.setIfInBounds i true) = true → C w') ∧ io ro P ops Q C m fuel (listed.setIfInBounds i true) a' w') a w
theorem im {ro : Option Nat} {P : Program} {ops : Array Oper} {Q : Exit → Act → World → Prop} {C : World → Prop} {m : Nat} : ∀ (fuel : Nat) (listed : Array Bool) (a : Act) (w : World), io ro P ops Q C m fuel listed a w → wpAnyIn (fw ro) 0 P .any ops Q fuel listed a w
  | 0, _, _, _, h => h
  | fuel + 1, _, _, _, h => ⟨h.1, fun i hi => wpOpIn_mono (fun a' w' h' => im fuel _ a' w' h'.2) (h.2 i hi)⟩
theorem wpAnyV_first {ro : Option Nat} {P : Program} {ops : Array Oper} {Q : Exit → Act → World → Prop} {C : World → Prop} {m i : Nat} {oi : Oper} {v : Value} (hi : ops[i]? = some oi) (hsel : ∀ (j : Nat) (o : Oper) cs b, ops[j]? = some o → o.op ≠ .select cs b) (hdef : ∀ (j : Nat) (o : Oper), ops[j]? = some o → ∀ c, o.op ≠ .defer c)
    (hQ : ∀ c a w, Q (.panic c) (a.put oi.dst v) w → Q (.panic c) a w) (hm : iu ops m i = true) (him : i < m) :
    ∀ (fuel : Nat) (listed : Array Bool) (a : Act) (w : World), ef m listed = true → g7 ops listed →
      (∀ j oj, ops[j]? = some oj → j ≠ i → listed.getD j true = false → (∀ e ∈ oj.after, Region.binds .any e = true → e.on ≠ i) → oi.apart ops oj = true) →
      i ∈ Region.ready .any ops listed → YieldsIf P ops C oi v a → C w →
      io ro P ops Q C m fuel (listed.setIfInBounds i true) (a.put oi.dst v) w → io ro P ops Q C m (fuel + 1) listed a w := by
  intro fuel
  induction fuel with
  | zero =>
    intro listed a w hnt hcl _ hr hy hS H
    refine ⟨fun h => (by rw [h] at hr; cases hr), fun j hj => ?_⟩
    by_cases hji : j = i
    · subst hji; exact gC hi (hdef _ _ hi) hy hS ⟨fun _ => hS, H⟩
    · have := ready_mono hj hji
      rw [H.1] at this
      cases this
  | succ fuel ih =>
    intro listed a w hnt hcl hfree hr hy hS H
    refine ⟨fun h => (by rw [h] at hr; cases hr), fun j hj => ?_⟩
    by_cases hji : j = i
    · subst hji; exact gC hi (hdef _ _ hi) hy hS ⟨fun _ => hS, H⟩
    · have h1 := H.2 j (ready_mono hj hji)
      obtain ⟨hjun, oj, hoj, hall⟩ := mem_ready.1 hj
      have hun : listed.getD i false = false := by
        have h0 := (mem_ready.1 hr).1
        rcases Nat.lt_or_ge i listed.size with h' | h'
        · simpa [h'] using h0
        · simp [Array.getElem?_eq_none h']
      have hnot : ∀ e ∈ oj.after, Region.binds .any e = true → e.on ≠ i := fun e he hb heq => by
        have h1 := hall e he hb
        rw [heq, hun] at h1
        cases h1
      have hjm : j < m := by
        rcases Nat.lt_or_ge j m with h | h
        · exact h
        · simp only [iu, List.all_eq_true, List.mem_range] at hm
          have h1 := hm j (Array.getElem?_eq_some_iff.1 hoj).1
          rw [Bool.or_eq_true] at h1
          rcases h1 with h1 | h1
          · have := Nat.le_of_ble_eq_true h1; omega
          · rw [gA hcl _ j oj hoj hall h1] at hun; cases hun
      have h2 := wpOpIn_putIf hoj (hfree j oj hoj hji hjun hnot) (fun cs b => hsel i oi cs b hi) (fun cs b => hsel j oj cs b hoj) (hdef j oj hoj) hQ hy h1
      have hfree' : ∀ k ok, ops[k]? = some ok → k ≠ i → (listed.setIfInBounds j true).getD k true = false →
          (∀ e ∈ ok.after, Region.binds .any e = true → e.on ≠ i) → oi.apart ops ok = true := fun k ok hk hki hun' hno => by
        refine hfree k ok hk hki ?_ hno
        by_cases hjk : j = k
        · subst hjk; exact hjun
        · rw [getD_set_ne true hjk] at hun'; exact hun'
      have hC := eJ (eJ hnt him) hjm
      refine wpOpIn_mono (fun a' w' h3 => ⟨fun _ => h3.2.1 hC, ih (listed.setIfInBounds j true) a' w' (eJ hnt hjm) (closed_set hcl hoj hall) hfree' (ready_mono hr (Ne.symm hji)) h3.1 (h3.2.1 hC) ?_⟩) h2
      rw [Array.setIfInBounds_comm _ _ hji]
      exact h3.2.2
def WV (x : Cx) (C : World → Prop) (m : Nat) (ops : Array Oper) (fuel : Nat) (listed : Array Bool) (l : Fr) (L S : List Ch) (Q : Exit → Act → World → Prop) : Prop :=
  ∀ a w, Kn x.N x.ds l a → Hp x.ok0 x.w0 L S w → io x.ro x.P ops Q C m fuel listed a w
def QnV (x : Cx) (C : World → Prop) (m : Nat) (ops : Array Oper) (fuel : Nat) (listed : Array Bool) (Q : Exit → Act → World → Prop) : Exit → Act → World → Prop := Exit.then (fun a w => (ef m listed = true → C w) ∧ io x.ro x.P ops Q C m fuel listed a w) Q
def WRV (x : Cx) (C : World → Prop) (m : Nat) (ops : Array Oper) (fuel : Nat) (listed : Array Bool) (js : List Nat) (l : Fr) (L S : List Ch) (Q : Exit → Act → World → Prop) : Prop :=
  ∀ i ∈ js, ∀ a w, Kn x.N x.ds l a → Hp x.ok0 x.w0 L S w → wpOpIn (fw x.ro) 0 x.P ops Q i (fun a' w' => (ef m (listed.setIfInBounds i true) = true → C w') ∧ io x.ro x.P ops Q C m fuel (listed.setIfInBounds i true) a' w') a w
section
variable {x : Cx} {C : World → Prop} {l : Fr} {L S : List Ch} {Q : Exit → Act → World → Prop} {ops : Array Oper} {fuel m : Nat} {listed : Array Bool}
theorem w_drawV {id : Nat} {ol : List Oper} (m : Nat) (hm : x.P.follows .mixedOrders = true) (h : WV x (Hp x.ok0 x.w0 L S) m ol.toArray ol.length (Array.replicate ol.length false) l L S Q) : W x l L S (.region id ol.toArray true) Q := fun a w ha hw => by
  refine wpIn_region_any hm (im (C := Hp x.ok0 x.w0 L S) (m := m) _ _ _ _ ?_)
  have := h a { w with drawn := w.drawn + 1 } ha hw.drew
  simpa using this
theorem bx {i d : Nat} {op : Op} {ty : TypeId} {pos : String} {af : Array Edge} {gd : Option (Nat × Bool)} {v : Value} {listed' : Array Bool} {L0 S0 : List Ch} (hi : ops[i]? = some ⟨some d, op, ty, pos, af, gd⟩) (hw : ∀ a, Kn x.N x.ds l a → Region.wanted ⟨some d, op, ty, pos, af, gd⟩ (yielded ops a.tmps) = true)
    (hy : Yv x l L0 S0 ⟨some d, op, ty, pos, af, gd⟩ v) (hC : ∀ w, Hp x.ok0 x.w0 L S w → C w) (hC0 : ∀ w, C w → Hp x.ok0 x.w0 L0 S0 w) (hN : Nat.blt d x.N = true) (hpk : PkOk Q)
    (hs : (Region.noSelect ops && noDefer ops && Region.free .any ops listed i && (Region.ready .any ops listed).contains i && iu ops m i && Nat.blt i m && ef m listed && iI ops listed) = true) (hl : listed.setIfInBounds i true = listed')
    (k : WV x C m ops fuel listed' ((d, v) :: l) L S Q) : WV x C m ops (fuel + 1) listed l L S Q := fun a w ha hh => by
  simp only [Bool.and_eq_true] at hs
  obtain ⟨⟨⟨⟨⟨⟨⟨h1, h0⟩, h2⟩, h3⟩, h4⟩, h5⟩, h6⟩, h7⟩ := hs
  exact wpAnyV_first hi (Region.noSelect_spec h1) (fun _ _ ho => noDefer_spec h0 ho) (fun c a w h => hpk c a w _ _ h) h4 (Nat.le_of_ble_eq_true h5) fuel listed a w h6 (closed_of h7) (Region.free_spec hi h2) (by simpa using h3) (.inl ⟨hw a ha, fun w' hw' => hy a w' ha (hC0 w' hw')⟩) (hC w hh) (by rw [hl]; exact k _ w (ha.put (Nat.le_of_ble_eq_true hN) v) hh)
theorem dg {C : World → Prop} {l : Fr} {L S : List Ch} (hC : ∀ w, Hp x.ok0 x.w0 L S w → C w) (h : WV x C m ops fuel listed l L S Q) : E x l L S .normal (QnV x C m ops fuel listed Q) := fun a w ha hw => ⟨fun _ => hC w hw, h a w ha hw⟩
theorem v_many {js : List Nat} (hr : Region.ready .any ops listed = js) (hne : js.isEmpty = false) (h : WRV x C m ops fuel listed js l L S Q) : WV x C m ops (fuel + 1) listed l L S Q := fun a w ha hh =>
  ⟨fun h0 => by rw [hr] at h0; subst h0; simp at hne, fun j hj => h j (hr ▸ hj) a w ha hh⟩
theorem wrv_nil : WRV x C m ops fuel listed [] l L S Q := fun i hi => by cases hi
theorem wrv_cons {js : List Nat} {o : Oper} {i : Nat} {listed' : Array Bool} (hi : ops[i]? = some o) (hl : listed.setIfInBounds i true = listed')
    (h : WL x l L S ops [o] (QnV x C m ops fuel listed' Q)) (k : WRV x C m ops fuel listed js l L S Q) : WRV x C m ops fuel listed (i :: js) l L S Q := fun j hj => by
  rcases List.mem_cons.1 hj with rfl | hj
  · intro a w ha hh
    rw [hl]
    have h1 := h a w ha hh
    unfold wpListIn at h1
    unfold wpOpIn
    simp only [hi]
    split
    · rename_i hw
      rw [if_pos hw] at h1
      obtain ⟨_, h1⟩ := h1
      refine ⟨fun _ _ => trivial, ?_⟩
      generalize (Oper.semAt (fw x.ro).round a.eval o).run x.P w = r at *
      cases r with
      | halt hh w' => cases hh <;> exact h1
      | ok n w' =>
        cases n with
        | enter f args => exact ⟨h1.1, CallsIn.mono h1.2 fun e w'' hR => by cases e <;> exact hR⟩
        | row r args => exact ⟨h1.1, RowsIn.mono h1.2 fun _ _ hR => hR⟩
        | round l2 f tmps asg body => exact ⟨h1.1, RoundIn.mono h1.2 fun e w'' hR => by cases e <;> exact hR⟩
        | _ => exact h1
    · rename_i hw
      rw [if_neg hw] at h1
      exact ⟨fun _ _ => trivial, h1.2⟩
  · exact k j hj
theorem eB {o : Oper} {i : Nat} {listed' : Array Bool} (hi : ops[i]? = some o) (hr : Region.ready .any ops listed = [i]) (hl : listed.setIfInBounds i true = listed')
    (h : WL x l L S ops [o] (QnV x C m ops fuel listed' Q)) : WV x C m ops (fuel + 1) listed l L S Q := v_many hr rfl (wrv_cons hi hl h wrv_nil)
theorem wv_as {t : Nat} {v : Value} (v' : Value) (h : look l t = some v) (e : v = v') (k : WV x C m ops fuel listed ((t, v') :: l) L S Q) : WV x C m ops fuel listed l L S Q := fun a w ha hw => k a w (ha.mono fun t' u h' => by
    simp only [look] at h'
    cases e2 : Nat.beq t t' with
    | true => rw [e2] at h'; cases h'; rw [← Nat.eq_of_beq_eq_true e2, h, e]
    | false => rw [e2] at h'; exact h') hw
theorem wv_splitb {t : Nat} {b : Bool} (h : look l t = some (.bool b)) (ht : b = true → WV x C m ops fuel listed ((t, .bool true) :: l) L S Q) (hf : b = false → WV x C m ops fuel listed ((t, .bool false) :: l) L S Q) : WV x C m ops fuel listed l L S Q := by
  cases hb : b with
  | true => exact wv_as (.bool true) h (by rw [hb]) (ht hb)
  | false => exact wv_as (.bool false) h (by rw [hb]) (hf hb)
theorem gP {fuel : Nat} (hr : Region.ready .any ops listed = []) (h : E x l L S .normal Q) : WV x C m ops fuel listed l L S Q := fun a w ha hh => by
  cases fuel with
  | zero => exact ⟨hr, h a w ha hh⟩
  | succ n => exact ⟨fun _ => h a w ha hh, by rw [hr]; simp⟩
end

/-! Parts of slices. -/
def sA (A : Option Addr) (m c sz : Nat) : Option Addr := if c = m then A else A.map (·.add (m * sz))
theorem fl_drop {α : Type} {enc : α → List Value} {sz : Nat} (hE : Enc enc sz) : ∀ (xs : List α) (m : Nat), fl enc (xs.drop m) = (fl enc xs).drop (m * sz)
  | [], m => by simp [fl]
  | x :: xs, 0 => by simp
  | x :: xs, m + 1 => by
    rw [List.drop_succ_cons, fl_drop hE xs m]
    have : fl enc (x :: xs) = enc x ++ fl enc xs := rfl
    have h2 : (enc x).drop ((m + 1) * sz) = [] := List.drop_of_length_le (by rw [hE.len x, Nat.succ_mul]; omega)
    rw [this, List.drop_append, hE.len x, h2, List.nil_append]
    congr 1
    rw [Nat.succ_mul]; omega
theorem fl_take {α : Type} {enc : α → List Value} {sz : Nat} (hE : Enc enc sz) : ∀ (xs : List α) (m : Nat), fl enc (xs.take m) = (fl enc xs).take (m * sz)
  | [], m => by simp [fl]
  | x :: xs, 0 => by simp [fl]
  | x :: xs, m + 1 => by
    have e1 : fl enc ((x :: xs).take (m + 1)) = enc x ++ fl enc (xs.take m) := rfl
    have e2 : fl enc (x :: xs) = enc x ++ fl enc xs := rfl
    have h2 : (enc x).take ((m + 1) * sz) = enc x := List.take_of_length_le (by rw [hE.len x, Nat.succ_mul]; omega)
    rw [e1, e2, fl_take hE xs m, List.take_append, hE.len x, h2]
    congr 2
    rw [Nat.succ_mul]; omega
theorem rsP_drop {α : Type} {enc : α → List Value} {sz : Nat} (hE : Enc enc sz) {A : Option Addr} {c m : Nat} {xs : List α} {w : World} (h : RsP A xs.length sz (fl enc xs) w) (hc : xs.length ≤ c) (hm : m ≤ xs.length) : RsP (sA A m c sz) (xs.drop m).length sz (fl enc (xs.drop m)) w := by
  refine ⟨eu hE.len _, fun u hu => h.one u ?_, ?_⟩
  · rw [fl_drop hE] at hu; exact List.mem_of_mem_drop hu
  · by_cases e : (xs.drop m).length = 0
    · exact .inl e
    · rw [List.length_drop] at e
      rcases h.at_ with h0 | ⟨b, off, rfl, hv⟩
      · omega
      · refine .inr ⟨b, off + m * sz, ?_, fun i hi => ?_⟩
        · rw [sA, if_neg (by omega)]
          show some (Addr.add _ _) = _
          unfold Addr.add; split
          · rename_i h0; rw [h0]; rfl
          · rfl
        · rw [fl_drop hE] at hi ⊢
          rw [List.length_drop] at hi
          rw [List.getElem?_drop, Nat.add_assoc]
          exact hv _ (by omega)
theorem rsP_take {α : Type} {enc : α → List Value} {sz : Nat} (hE : Enc enc sz) {A : Option Addr} {m : Nat} {xs : List α} {w : World} (h : RsP A xs.length sz (fl enc xs) w) (hm : m ≤ xs.length) : RsP A (xs.take m).length sz (fl enc (xs.take m)) w := by
  refine ⟨eu hE.len _, fun u hu => h.one u ?_, ?_⟩
  · rw [fl_take hE] at hu; exact List.mem_of_mem_take hu
  · rcases h.at_ with h0 | ⟨b, off, rfl, hv⟩
    · left; simp; omega
    · refine .inr ⟨b, off, rfl, fun i hi => ?_⟩
      rw [fl_take hE] at hi ⊢
      rw [List.length_take] at hi
      rw [List.getElem?_take, if_pos (by omega)]
      exact hv _ (by omega)
section
variable {x : Cx} {l : Fr} {L S : List Ch}
theorem fj {α : Type} {enc : α → List Value} {sz : Nat} (hE : Enc enc sz) {A : Option Addr} {c m : Nat} {e : TypeId} {xs : List α} {w : World} (i : Nat) (h : L[i]? = some (Ch.ls A c e sz enc xs)) (hm : m ≤ xs.length) (hw : Hp x.ok0 x.w0 L S w) : (Ch.rd (sA A m c sz) sz enc (xs.drop m)).P w ∧ ∀ b, (Ch.rd (sA A m c sz) sz enc (xs.drop m)).ok b → b < w.heap.size := by
  have h1 : SlP A xs.length c e sz (fl enc xs) w := hw.own _ (List.mem_of_getElem? h)
  have hc : xs.length ≤ c := by
    rcases h1.at_ with ⟨_, h2, h3⟩ | ⟨g, cur, fz, _, _, h2, _⟩
    · omega
    · exact h2
  refine ⟨rsP_drop hE h1.rs hc hm, fun b hb => ?_⟩
  refine (fb (hw.rdL (List.mem_of_getElem? h))).2 b ⟨?_, ?_⟩
  · have := hb.1; simp at this; omega
  · have := hb.2
    unfold sA at this
    split at this
    · exact this
    · cases A with
      | none => exact this
      | some a =>
        rw [← this]
        show some a.block = some (Addr.add a _).block
        unfold Addr.add; split <;> rfl
theorem fp {α : Type} {enc : α → List Value} {sz : Nat} (hE : Enc enc sz) {A : Option Addr} {c m : Nat} {e : TypeId} {xs : List α} {w : World} (i : Nat) (h : L[i]? = some (Ch.ls A c e sz enc xs)) (hm : m ≤ xs.length) (hw : Hp x.ok0 x.w0 L S w) : (Ch.rd A sz enc (xs.take m)).P w ∧ ∀ b, (Ch.rd A sz enc (xs.take m)).ok b → b < w.heap.size := by
  have h1 : SlP A xs.length c e sz (fl enc xs) w := hw.own _ (List.mem_of_getElem? h)
  refine ⟨rsP_take hE h1.rs hm, fun b hb => ?_⟩
  refine (fb (hw.rdL (List.mem_of_getElem? h))).2 b ⟨?_, hb.2⟩
  have := hb.1; simp at this; omega
variable {d : Nat} {ty : TypeId} {pos : String} {af : Array Edge} {gd : Option (Nat × Bool)}
theorem elem_of {P : Program} {t e : TypeId} (h : P.underlying t = some (.slice e)) : P.elem t = e := by simp [Program.elem, h]
theorem y_drop {α : Type} {y i1 : Operand} {A : Option Addr} {xs : List α} {c m sz bytes : Nat} {i : Int} {k1 : IntKind} {t e : TypeId} {agg : Bool} {z : Value} (h0 : x.P.underlying t = some (.slice e)) (he : TyI x.P e agg sz bytes z) (hy : ev l y = some (.slice A xs.length c)) (hi : ev l i1 = some (.int k1 i)) (hm : i = (m : Int)) (b1 : m ≤ xs.length) :
    Yv x l L S ⟨some d, .slice t y (some i1) none none, ty, pos, af, gd⟩ (.slice (sA A m c sz) (xs.drop m).length (c - m)) := fun a w ha hw => by
  have h1 : x.P.underlying t = some (.slice (x.P.elem t)) := by rw [elem_of h0]; exact h0
  have h2 := elem_of h0
  subst hm
  have e1 := run_slice_l (P := x.P) w t A xs.length c h1 k1 (m : Int) (by omega) (by omega)
  simp [execOp, ha.ev hy, ha.ev hi, run_sliceAt_slice (P := x.P) w t _ _ _ _ h1, e1, sA, sliced, Result.andThen, h2, he.size w]
theorem y_takes {α : Type} {y i1 : Operand} {A : Option Addr} {xs : List α} {c m sz bytes : Nat} {i : Int} {k1 : IntKind} {t e : TypeId} {agg : Bool} {z : Value} (h0 : x.P.underlying t = some (.slice e)) (he : TyI x.P e agg sz bytes z) (hy : ev l y = some (.slice A xs.length c)) (hi : ev l i1 = some (.int k1 i)) (hm : i = (m : Int)) (b1 : m ≤ xs.length) (hc : ∀ w, Hp x.ok0 x.w0 L S w → xs.length ≤ c) :
    Yv x l L S ⟨some d, .slice t y none (some i1) none, ty, pos, af, gd⟩ (.slice A (xs.take m).length c) := fun a w ha hw => by
  have h1 : x.P.underlying t = some (.slice (x.P.elem t)) := by rw [elem_of h0]; exact h0
  have h2 := elem_of h0
  subst hm
  have hc' := hc w hw
  have e1 := run_slice_h (P := x.P) w t A xs.length c h1 k1 (m : Int) (by omega) (by omega)
  have e2 : min m xs.length = m := by omega
  have e3 : A.map (fun a => a.add 0) = A := by cases A <;> rfl
  simp [execOp, ha.ev hy, ha.ev hi, run_sliceAt_slice (P := x.P) w t _ _ _ _ h1, e1, e2, e3, sliced, Result.andThen, h2, he.size w]
theorem cap_L {α : Type} {enc : α → List Value} {A : Option Addr} {c sz : Nat} {e : TypeId} {xs : List α} (i : Nat) (h : L[i]? = some (Ch.ls A c e sz enc xs)) : ∀ w, Hp x.ok0 x.w0 L S w → xs.length ≤ c := fun w hw => by
  have h1 : SlP A xs.length c e sz (fl enc xs) w := hw.own _ (List.mem_of_getElem? h)
  rcases h1.at_ with ⟨_, h2, h3⟩ | ⟨g, cur, fz, _, _, h2, _⟩
  · omega
  · exact h2
end
end Go.Proofs.YtnpdgmoeoidppaaGreat

/- A field of a value. -/
namespace Go.Proofs.YtnpdgmoeoidppaaGreat
open Go.RowKit Go.Shelf
set_option linter.unusedVariables false

section
variable {x : Cx} {l : Fr} {L S : List Ch} {d : Nat} {ty : TypeId} {pos : String} {af : Array Edge} {gd : Option (Nat × Bool)}
theorem y_fieldv {t : TypeId} {y : Operand} {i : Nat} {u v : Value} (hy : ev l y = some u) (hf : ∀ w, (Instr.field t u i).run x.P w = .ok v w) :
    Yv x l L S ⟨some d, .field t y i, ty, pos, af, gd⟩ v := fun a w ha hw => by
  simp [execOp, ha.ev hy, hf w]
end
end Go.Proofs.YtnpdgmoeoidppaaGreat

/- A map that holds whatever. -/
namespace Go.Proofs.YtnpdgmoeoidppaaGreat
open Go.RowKit Go.Shelf
set_option linter.unusedVariables false

def Ch.mpany {α β : Type} (r : Nat) (encK : α → Value) (encV : β → Value) : Ch := ⟨fun k => k = r, fun w => ∃ m, (Ch.mp r encK encV m).P w, fun w w' ⟨m, h⟩ k => ⟨m, (Ch.mp r encK encV m).st w w' h k⟩⟩
theorem Hp.anymp {α β : Type} {encK : α → Value} {encV : β → Value} {ok0 : Nat → Prop} {w0 : World} {L L' S : List Ch} {w : World} {i r : Nat} {m : List (α × β)} (h : Hp ok0 w0 L S w) (hi : SetAt L i (Ch.mp r encK encV m) (Ch.mpany r encK encV) L') : Hp ok0 w0 L' S w :=
  h.turn hi (fun hp => ⟨m, hp⟩) (fun _ h => h)
theorem w_drawVA {x : Cx} {l : Fr} {L S : List Ch} {Q : Exit → Act → World → Prop} {id : Nat} {ol : List Oper} {La Sa : List Ch} (m : Nat) (hm : x.P.follows .mixedOrders = true) (hA : ∀ w, Hp x.ok0 x.w0 L S w → Hp x.ok0 x.w0 La Sa w) (h : WV x (Hp x.ok0 x.w0 La Sa) m ol.toArray ol.length (Array.replicate ol.length false) l L S Q) : W x l L S (.region id ol.toArray true) Q := fun a w ha hw => by
  refine wpIn_region_any hm (im (C := Hp x.ok0 x.w0 La Sa) (m := m) _ _ _ _ ?_)
  have := h a { w with drawn := w.drawn + 1 } ha hw.drew
  simpa using this
end Go.Proofs.YtnpdgmoeoidppaaGreat

/- Parts of slices that are read. -/
namespace Go.Proofs.YtnpdgmoeoidppaaGreat
open Go.RowKit Go.Shelf
set_option linter.unusedVariables false

section
variable {x : Cx} {l : Fr} {L S : List Ch}
end
section
variable {x : Cx} {C : World → Prop} {l : Fr} {L S : List Ch} {Q : Exit → Act → World → Prop} {ops : Array Oper} {fuel m : Nat} {listed : Array Bool}
theorem wu_at {t : Nat} {p : Prop} [Decidable p] (h : look l t = some (.bool (decide p))) (hp : p) (k : WU x C m ops fuel listed ((t, .bool true) :: l) L S Q) : WU x C m ops fuel listed l L S Q := f0 (.bool true) h (by rw [decide_eq_true hp]) k
theorem wu_af {t : Nat} {p : Prop} [Decidable p] (h : look l t = some (.bool (decide p))) (hp : ¬ p) (k : WU x C m ops fuel listed ((t, .bool false) :: l) L S Q) : WU x C m ops fuel listed l L S Q := f0 (.bool false) h (by rw [decide_eq_false hp]) k
theorem gT {t : Nat} {b : Bool} (h : look l t = some (.bool b)) (ht : b = true → WU x C m ops fuel listed ((t, .bool true) :: l) L S Q) (hf : b = false → WU x C m ops fuel listed ((t, .bool false) :: l) L S Q) : WU x C m ops fuel listed l L S Q := by
  cases hb : b with
  | true => exact f0 (.bool true) h (by rw [hb]) (ht hb)
  | false => exact f0 (.bool false) h (by rw [hb]) (hf hb)
theorem g5 {t : Nat} {p : Prop} [Decidable p] (h : look l t = some (.bool (decide p))) (ht : p → WU x C m ops fuel listed ((t, .bool true) :: l) L S Q) (hf : ¬ p → WU x C m ops fuel listed ((t, .bool false) :: l) L S Q) : WU x C m ops fuel listed l L S Q := by
  by_cases hp : p
  · exact wu_at h hp (ht hp)
  · exact wu_af h hp (hf hp)
end
end Go.Proofs.YtnpdgmoeoidppaaGreat

/- Maps: an entry is laid and then stored to, a key is dropped, a map is cloned; the sum with carry. -/
namespace Go.Proofs.YtnpdgmoeoidppaaGreat
open Go.RowKit Go.Shelf
set_option linter.unusedVariables false
section
variable {α β : Type} [DecidableEq α] {encK : α → Value} {encV : β → Value}
/-- A map with one entry more than its pairs, whose value is not laid yet. -/
structure MqP (r : Nat) (encK : α → Value) (encV : β → Value) (m : List (α × β)) (a : α) (z : Value) (st : Nat) (w : World) : Prop where
  at_ : ∃ es : Array MapEntry, w.heap[r]? = some (.map (es.push ⟨encK a, z, st⟩) (st + 1)) ∧ es.toList.map (·.key) = m.map (fun p => encK p.1) ∧ es.toList.map (·.val) = m.map (fun p => encV p.2) ∧ (es.toList.map (·.born)).Nodup ∧ ∀ e ∈ es.toList, e.born < st
def Ch.mq (r : Nat) (encK : α → Value) (encV : β → Value) (m : List (α × β)) (a : α) (z : Value) (st : Nat) : Ch :=
  ⟨fun k => k = r, MqP r encK encV m a z st, fun w w' ⟨es, h1, h2⟩ hk => ⟨es, (hk r rfl).trans h1, h2⟩⟩
theorem fk_new {m : List (α × β)} {a : α} (h : cA m a = none) (es : List MapEntry) (h3 : es.map (·.val) = m.map (fun p => encV p.2)) : fk a (m.map (·.1)) es 0 = none := by
  have := fk_lkp (encV := encV) a m es 0 h3
  rw [h] at this
  cases hf : fk a (m.map (·.1)) es 0 with
  | none => rfl
  | some p => rw [hf] at this; cases this
end
theorem dE {α β : Type} (f : α → β) : ∀ (l : List α) (j : Nat), (l.eraseIdx j).map f = (l.map f).eraseIdx j
  | [], _ => rfl
  | _ :: _, 0 => rfl
  | a :: r, j + 1 => congrArg (f a :: ·) (dE f r j)
section
variable {x : Cx} {l : Fr} {L S : List Ch} {Q : Exit → Act → World → Prop} {ops : Array Oper} {rest : List Oper} {d : Nat} {ty : TypeId} {pos : String} {af : Array Edge} {gd : Option (Nat × Bool)}
variable {α β : Type} {encK : α → Value} {encV : β → Value}
theorem o_entSt {t : TypeId} {y z u : Operand} {r i st : Nat} {m : List (α × β)} {a : α} {v : β} {zv : Value} {L' : List Ch} (hy : ev l y = some (.map (some r))) (hz : ev l z = some (.int .i64 st)) (hu : ev l u = some (encV v)) (hi : SetAt L i (Ch.mq r encK encV m a zv st) (Ch.mp r encK encV (m ++ [(a, v)])) L')
    (k : WL x l L' S ops rest Q) : WL x l L S ops (⟨none, .entryStore t y z u, ty, pos, af, none⟩ :: rest) Q :=
  wl_unit rfl rfl (fun _ => nofun) (fun ac w hac hw => by
    obtain ⟨es, h1, h2, h3, h4, h5⟩ := (show MqP r encK encV m a zv st w from hw.own _ hi.mem).at_
    have hlt : r < w.heap.size := (Array.getElem?_eq_some_iff.1 h1).1
    have hidx : (es.push ⟨encK a, zv, st⟩).findIdx? (fun e => ((e.born : Nat) : Int) == ((st : Nat) : Int)) = some es.size := by
      rw [Array.findIdx?_push]
      have h0 : es.findIdx? (fun e => ((e.born : Nat) : Int) == ((st : Nat) : Int)) = none := by
        rw [Array.findIdx?_eq_none_iff]
        intro e he
        have := h5 e (by simpa using he)
        simp; omega
      rw [h0]; simp
    have hmod : (es.push ⟨encK a, zv, st⟩).modify es.size (fun e => { e with val := encV v }) = es.push ⟨encK a, encV v, st⟩ := by
      apply Array.ext (by simp)
      intro j h6 h7
      rw [Array.getElem_modify]
      by_cases hj : es.size = j
      · subst hj; simp
      · have : j < es.size := by simp at h7; omega
        simp [hj, Array.getElem_push, this]
    refine ⟨w.putObj r (.map (es.push ⟨encK a, encV v, st⟩) (st + 1)), ?_, hw.upd hi ⟨rfl, rfl, rfl, by simp, fun k _ hn => World.putObj_heap_other (fun e => hn e), Nat.le_refl _⟩ ?_ (fun b hb => .inl hb)⟩
    · simp [execOp, hac.ev hy, hac.ev hz, hac.ev hu, Instr.entryStore, getObj, setObj, Sem.run, h1, asInt, asIntOf, hidx, hmod, Result.andThen, World.putObj]
    · refine ⟨_, _, World.putObj_heap_same hlt, by simp [h2], by simp [h3], ?_, ?_⟩
      · simp only [Array.toList_push, List.map_append, List.map_cons, List.map_nil]
        rw [List.nodup_append]
        refine ⟨h4, by simp, ?_⟩
        intro b hb c' hc'
        simp at hc'
        obtain ⟨e, he, rfl⟩ := List.mem_map.1 hb
        have := h5 e he
        omega
      · intro e he
        simp only [Array.toList_push, List.mem_append, List.mem_singleton] at he
        rcases he with he | rfl
        · have := h5 e he; omega
        · simp) k
end
section
variable {x : Cx} {l : Fr} {L S : List Ch} {Q : Exit → Act → World → Prop} {ops : Array Oper} {rest : List Oper} {d : Nat} {ty : TypeId} {pos : String} {af : Array Edge} {gd : Option (Nat × Bool)}
variable {α β : Type} [DecidableEq α] {encK : α → Value} {encV : β → Value}
theorem iJ {t kt et : TypeId} {y z : Operand} {r i : Nat} {m : List (α × β)} {a : α} {agg : Bool} {sz bytes : Nat} {zv : Value} {L' : Nat → List Ch} (ht : x.P.underlying t = some (.map kt et)) (hk : KeyL x.P kt encK) (he : TyI x.P et agg sz bytes zv) (hy : ev l y = some (.map (some r))) (hz : ev l z = some (encK a)) (hn : cA m a = none) (hi : ∀ st, SetAt L i (Ch.mp r encK encV m) (Ch.mq r encK encV m a zv st) (L' st)) (hN : Nat.blt d x.N = true)
    (k : ∀ st : Nat, WL x ((d, .tuple [zv, .int .i64 st].toArray) :: l) (L' st) S ops rest Q) : WL x l L S ops (⟨some d, .mapEntry t y z, ty, pos, af, none⟩ :: rest) Q :=
  eR (fun st : Nat => .tuple [zv, .int .i64 st].toArray) L' (fun _ => S) rfl rfl (fun _ => nofun) hN (fun ac w hac hw => by
    obtain ⟨es, c, h1, h2, h3, h4, h5⟩ := (show MpP r encK encV m w from hw.own _ (hi 0).mem).at_
    have hfind := hk.find a (m.map (·.1)) es.toList w (by rw [h2, List.map_map]; rfl)
    rw [fk_new hn es.toList h3] at hfind
    have hlt : r < w.heap.size := (Array.getElem?_eq_some_iff.1 h1).1
    refine ⟨c, w.putObj r (.map (es.push ⟨encK a, zv, c⟩) (c + 1)), ?_, hw.upd (hi c) ⟨rfl, rfl, rfl, by simp, fun k _ hn => World.putObj_heap_other (fun e => hn e), Nat.le_refl _⟩ ?_ (fun b hb => .inl hb)⟩
    · simp [execOp, hac.ev hy, hac.ev hz, Instr.mapEntry, run_underlying ht, getObj, setObj, Sem.run, h1, hk.chk, hfind, he.zero, Result.andThen, World.putObj, goInt]
    · exact ⟨es, World.putObj_heap_same hlt, h2, h3, h4, h5⟩) k
theorem rmv_none {m : List (α × β)} {a : α} (h : cA m a = none) : rmv m a = m := by
  induction m with
  | nil => rfl
  | cons p r ih =>
    obtain ⟨b, u⟩ := p
    rw [cA] at h
    by_cases e : a = b
    · rw [if_pos e] at h; cases h
    · rw [if_neg e] at h
      rw [rmv, if_neg e, ih h]
theorem o_mapDel {t kt et : TypeId} {y z : Operand} {tz : TypeId} {r i : Nat} {m : List (α × β)} {a : α} {L' : List Ch} (ht : x.P.underlying t = some (.map kt et)) (hk : KeyL x.P kt encK) (hy : ev l y = some (.map (some r))) (hz : ev l z = some (encK a)) (hi : SetAt L i (Ch.mp r encK encV m) (Ch.mp r encK encV (rmv m a)) L')
    (k : WL x l L' S ops rest Q) : WL x l L S ops (⟨none, .call { callee := .builtin .delete, args := #[y, z], argTypes := #[t, tz] }, ty, pos, af, none⟩ :: rest) Q :=
  gr rfl (fun _ => nofun) fun ac w hac hw => by
    have main : ∃ w', (execOp ac.eval ⟨none, .call { callee := .builtin .delete, args := #[y, z], argTypes := #[t, tz] }, ty, pos, af, none⟩).run x.P w = .ok (.value (.tuple #[])) w' ∧ Hp x.ok0 x.w0 L' S w' := by
      obtain ⟨es, c, h1, h2, h3, h4, h5⟩ := (show MpP r encK encV m w from hw.own _ hi.mem).at_
      have hfind := hk.find a (m.map (·.1)) es.toList w (by rw [h2, List.map_map]; rfl)
      have hlt : r < w.heap.size := (Array.getElem?_eq_some_iff.1 h1).1
      have hl : es.toList.length = m.length := by have := congrArg List.length h2; simpa using this
      cases hf : fk a (m.map (·.1)) es.toList 0 with
      | none =>
        rw [hf] at hfind
        have hno : cA m a = none := by
          have := fk_lkp (encV := encV) a m es.toList 0 h3
          rw [hf] at this
          cases hq : cA m a with
          | none => rfl
          | some u => rw [hq] at this; cases this
        refine ⟨w.putObj r (.map es c), ?_, hw.upd hi ⟨rfl, rfl, rfl, by simp, fun k _ hn => World.putObj_heap_other (fun e => hn e), Nat.le_refl _⟩ ?_ (fun b hb => .inl hb)⟩
        · have : (Builtin.delete_ #[t, tz] ty #[.map (some r), encK a]).run x.P w = .ok (.tuple #[]) (w.putObj r (.map es c)) := by
            simp [Builtin.delete_, run_underlying ht, getObj, setObj, Sem.run, h1, hk.chk, hfind, Result.andThen, World.putObj]
          simp only [execOp, resolve, invoke, builtin]
          simp [hac.ev hy, hac.ev hz, this]
        · exact ⟨es, c, World.putObj_heap_same hlt, by rw [rmv_none hno]; exact h2, by rw [rmv_none hno]; exact h3, h4, h5⟩
      | some p =>
        obtain ⟨j, u0⟩ := p
        rw [hf] at hfind
        obtain ⟨_, ⟨e, he⟩, hm, hq⟩ := fk_some (encV := encV) a m es.toList 0 j u0 hl hf
        simp only [Nat.sub_zero] at he hm hq
        have hj : j < es.size := by have := (List.getElem?_eq_some_iff.1 he).1; simpa using this
        have hrm : rmv m a = m.eraseIdx j := by
          cases hq0 : m[j]? with
          | none => rw [List.getElem?_map, hq0] at hm; cases hm
          | some p => exact (hq p.2).2.2
        refine ⟨w.putObj r (.map (es.eraseIdxIfInBounds j) c), ?_, hw.upd hi ⟨rfl, rfl, rfl, by simp, fun k _ hn => World.putObj_heap_other (fun e => hn e), Nat.le_refl _⟩ ?_ (fun b hb => .inl hb)⟩
        · have : (Builtin.delete_ #[t, tz] ty #[.map (some r), encK a]).run x.P w = .ok (.tuple #[]) (w.putObj r (.map (es.eraseIdxIfInBounds j) c)) := by
            simp [Builtin.delete_, run_underlying ht, getObj, setObj, Sem.run, h1, hk.chk, hfind, Result.andThen, World.putObj]
          simp only [execOp, resolve, invoke, builtin]
          simp [hac.ev hy, hac.ev hz, this]
        · have hle : (es.eraseIdxIfInBounds j).toList = es.toList.eraseIdx j := by simp [Array.eraseIdxIfInBounds, hj]
          refine ⟨_, c, World.putObj_heap_same hlt, ?_, ?_, ?_, ?_⟩
          · rw [hle, hrm, dE, dE, h2]
          · rw [hle, hrm, dE, dE, h3]
          · rw [hle, dE]; exact h4.sublist (List.eraseIdx_sublist _ _)
          · rw [hle]; exact fun e he => h5 e ((List.eraseIdx_sublist _ _).subset he)
    obtain ⟨w', h1, h2⟩ := main
    rw [h1]
    show wpListIn _ _ _ _ _ _ (ac.put none _) w'
    exact k _ _ (hac.skip _) h2
theorem y_add64 {g : Nat} {fn : Func} {ya yb yc : Operand} {a b c : Int} {tys : Array TypeId} (hf : x.P.funcs[g]? = some fn) (hname : (fn.name == "runtime.NumGoroutine") = false) (hb : fn.body.isNone = true) (hn : Extern.findNext fn = none) (he : Extern.find fn = some add64Entry) (hya : ev l ya = some (.int .u64 a)) (hyb : ev l yb = some (.int .u64 b)) (hyc : ev l yc = some (.int .u64 c)) (ha0 : 0 ≤ a) (hb0 : 0 ≤ b) (hc0 : 0 ≤ c ∧ c ≤ 1) :
    Yv x l L S ⟨some d, .call { callee := .value (.func g), args := #[ya, yb, yc], argTypes := tys }, ty, pos, af, gd⟩ (.tuple #[.int .u64 ((a + b + c) % 18446744073709551616), .int .u64 ((a + b + c) / 18446744073709551616)]) := fun ac w hac hw => by
  have e := run_callFunc_extern (P := x.P) hf hname hb hn he #[.int .u64 a, .int .u64 b, .int .u64 c] w
  rw [run_add64 a b c ha0 hb0 hc0.1 hc0.2] at e
  simp only [Result.andThen] at e
  have hg : ac.eval (.func g) = .func (.func g) #[] #[] := rfl
  simp [execOp, resolve, hg, Deferred.ofValue, invoke, hac.ev hya, hac.ev hyb, hac.ev hyc, e]
end
end Go.Proofs.YtnpdgmoeoidppaaGreat

/- Regions with open order whose states are met more than once. -/
namespace Go.Proofs.YtnpdgmoeoidppaaGreat
open Go.RowKit Go.Shelf
set_option linter.unusedVariables false
theorem kn2_sub {l' : Fr} : ∀ {seen : List Nat} {l : Fr}, (∀ t v, look l t = some v → seen.elem t = false → look l' t = some v) → Kn2 l' seen l
  | seen, [], _ => by rw [Kn2]; trivial
  | seen, (t, v) :: r, h => by
    rw [Kn2]
    cases hs : seen.elem t with
    | true => exact kn2_sub fun t' v' ht hs' => h t' v' (by
        simp only [look]
        cases e : Nat.beq t t' with
        | true => rw [← Nat.eq_of_beq_eq_true e, hs] at hs'; cases hs'
        | false => exact ht) hs'
    | false =>
      refine ⟨h t v (by simp only [look]; rw [show Nat.beq t t = true from Nat.beq_refl t]) hs, kn2_sub fun t' v' ht hs' => h t' v' ?_ ?_⟩
      · simp only [look]
        cases e : Nat.beq t t' with
        | true => rw [← Nat.eq_of_beq_eq_true e] at hs'; simp at hs'
        | false => exact ht
      · revert hs'; simp only [List.elem_cons]; cases t' == t <;> simp
theorem iB {l : Fr} : Kn2 l [] l := kn2_sub fun _ _ h _ => h
section
variable {x : Cx} {C : World → Prop} {l : Fr} {L S : List Ch} {Q : Exit → Act → World → Prop} {ops : Array Oper} {fuel m : Nat} {listed : Array Bool}
theorem wu_lst {listed' : Array Bool} (hl : listed = listed') (h : WU x C m ops fuel listed' l L S Q) : WU x C m ops fuel listed l L S Q := hl ▸ h
theorem wu_fr {l' : Fr} (h : WU x C m ops fuel listed l L S Q) (hk : Kn2 l' [] l) : WU x C m ops fuel listed l' L S Q := fun a w ha hw => h a w (ha.mono fun t v ht => hk.look t v ht rfl) hw
theorem wu_k0 (lst : Array Bool) (fl : Nat) {lf : Fr} {Lf : List Ch} (k : (∀ (l' : Fr), Kn2 l' [] (lf) → WU x C m ops fl lst l' (Lf) S Q) → WU x C m ops fuel listed l L S Q) (h : WU x C m ops fl lst (lf) (Lf) S Q) : WU x C m ops fuel listed l L S Q := k fun l' hk => wu_fr (h) hk
theorem wu_k1 {α0 : Type} (lst : Array Bool) (fl : Nat) {lf : α0 → Fr} {Lf : α0 → List Ch} (k : (∀ (a0 : α0) (l' : Fr), Kn2 l' [] (lf a0) → WU x C m ops fl lst l' (Lf a0) S Q) → WU x C m ops fuel listed l L S Q) (h : ∀ (a0 : α0) , WU x C m ops fl lst (lf a0) (Lf a0) S Q) : WU x C m ops fuel listed l L S Q := k fun a0 l' hk => wu_fr (h a0) hk
end
end Go.Proofs.YtnpdgmoeoidppaaGreat
