import Derived.Test.YtnpdgmoeoidppaaGreatLbQx
import Derived.OrdersHeld
import Derived.Deep.AppendSrc
/- Calls, a function's beginning and end, loops. -/
namespace Go.Proofs.YtnpdgmoeoidppaaGreat
open Go.RowKit Go.Shelf
set_option linter.unusedVariables false

/-- What the callers are told of a call that hands back plain values and turns nothing. -/
def eC (P : Program) (f : FuncId) (args : Array Value) (v : Value) : Prop := ∀ w, Calls P f args w fun e w' => e = .returned v ∧ Upd no w w'

theorem cN {P : Program} {f : FuncId} {args : Array Value} {w : World} {R R' : Ending → World → Prop} (h : Calls P f args w R) (hr : ∀ e w', R e w' → R' e w') : Calls P f args w R' :=
  fun cs => let ⟨e, w', fr, r, s⟩ := h cs; ⟨e, w', fr, hr _ _ r, s⟩

section calls
variable {x : Cx} {l : Fr} {L S : List Ch} {Q : Exit → Act → World → Prop} {ops : Array Oper} {rest : List Oper} {d : Nat} {ty : TypeId} {pos : String} {af : Array Edge}

theorem iN {P : Program} {ro : Option Nat} {f : FuncId} {args : Array Value} {w : World} {R : Ending → World → Prop} (h : Calls P f args w R) : CallsIn (fw ro) 0 P f args w R := by
  have := (callsIn_wide (n := 0)).2 h
  exact this

/-- A call of a function value that leads to f. -/
theorem o_callx {dst : Option Nat} {g : Operand} {ys : List Operand} {tys : Array TypeId} {f : Nat} {first cap : Array Value} {vs : List Value} {args : Array Value} {α : Type} (V : α → Value) (l' : α → Fr) (L' S' : α → List Ch)
    (hg : ev l g = some (.func (.func f) first cap)) (has : evs l ys = some vs) (hargs : first ++ vs.toArray ++ cap = args) (hen : Enters x.P f) (hl : ∀ o a, Kn x.N x.ds l a → Kn x.N x.ds (l' o) (a.put dst (V o)))
    (hc : ∀ w, Hp x.ok0 x.w0 L S w → Calls x.P f args w fun e w' => ∃ o, e = .returned (V o) ∧ Hp x.ok0 x.w0 (L' o) (S' o) w')
    (k : ∀ o, WL x (l' o) (L' o) (S' o) ops rest Q) : WL x l L S ops (⟨dst, .call { callee := .value g, args := ys.toArray, argTypes := tys }, ty, pos, af, none⟩ :: rest) Q :=
  iX rfl (fun _ => nofun) fun a w ha hw => by
    have e : (execOp a.eval ⟨dst, .call { callee := .value g, args := ys.toArray, argTypes := tys }, ty, pos, af, none⟩).run x.P w = .ok (.enter f args) w := by
      have e1 : (ys.map a.eval) = vs := ha.evs has
      simp [execOp, resolve, ha.ev hg, Deferred.ofValue, e1, invoke]
      rw [← Array.append_assoc, hargs, hen args w]
    rw [e]
    refine ⟨fun h => by simp [fw_dep] at h, iN (cN (hc w hw) ?_)⟩
    rintro e w' ⟨o, rfl, hw'⟩
    exact k o _ _ (hl o a ha) hw'
theorem o_callf {g : Nat} {ys : List Operand} {tys : Array TypeId} {vs : List Value} {α : Type} (V : α → Value) (L' S' : α → List Ch) (has : evs l ys = some vs) (hen : Enters x.P g) (hN : Nat.blt d x.N = true)
    (hc : ∀ w, Hp x.ok0 x.w0 L S w → Calls x.P g vs.toArray w fun e w' => ∃ o, e = .returned (V o) ∧ Hp x.ok0 x.w0 (L' o) (S' o) w')
    (k : ∀ o, WL x ((d, V o) :: l) (L' o) (S' o) ops rest Q) : WL x l L S ops (⟨some d, .call { callee := .value (.func g), args := ys.toArray, argTypes := tys }, ty, pos, af, none⟩ :: rest) Q :=
  o_callx V (fun o => (d, V o) :: l) L' S' rfl has (by simp) hen (fun o a ha => ha.put (Nat.le_of_ble_eq_true hN) _) hc k
theorem bD {g : Nat} {ys : List Operand} {tys : Array TypeId} {vs : List Value} {v : Value} (has : evs l ys = some vs) (hen : Enters x.P g) (hc : eC x.P g vs.toArray v) (hN : Nat.blt d x.N = true)
    (k : WL x ((d, v) :: l) L S ops rest Q) : WL x l L S ops (⟨some d, .call { callee := .value (.func g), args := ys.toArray, argTypes := tys }, ty, pos, af, none⟩ :: rest) Q :=
  o_callf (fun _ : Unit => v) (fun _ => L) (fun _ => S) has hen hN (fun w hw => cN (hc w) fun e w' ⟨he, hu⟩ => ⟨(), he, hw.ext hu⟩) (fun _ => k)
/-- .. of a function value. -/
theorem o_callv {g : Operand} {f : Nat} {first cap : Array Value} {ys : List Operand} {tys : Array TypeId} {vs : List Value} {args : Array Value} {α : Type} (V : α → Value) (L' S' : α → List Ch) (hg : ev l g = some (.func (.func f) first cap)) (has : evs l ys = some vs)
    (hargs : first ++ vs.toArray ++ cap = args) (hen : Enters x.P f) (hN : Nat.blt d x.N = true)
    (hc : ∀ w, Hp x.ok0 x.w0 L S w → Calls x.P f args w fun e w' => ∃ o, e = .returned (V o) ∧ Hp x.ok0 x.w0 (L' o) (S' o) w')
    (k : ∀ o, WL x ((d, V o) :: l) (L' o) (S' o) ops rest Q) : WL x l L S ops (⟨some d, .call { callee := .value g, args := ys.toArray, argTypes := tys }, ty, pos, af, none⟩ :: rest) Q :=
  o_callx V (fun o => (d, V o) :: l) L' S' hg has hargs hen (fun o a ha => ha.put (Nat.le_of_ble_eq_true hN) _) hc k
theorem jT {g : Operand} {f : Nat} {first cap : Array Value} {ys : List Operand} {tys : Array TypeId} {vs : List Value} {args : Array Value} {v : Value} (hg : ev l g = some (.func (.func f) first cap)) (has : evs l ys = some vs)
    (hargs : first ++ vs.toArray ++ cap = args) (hen : Enters x.P f) (hc : eC x.P f args v) (hN : Nat.blt d x.N = true)
    (k : WL x ((d, v) :: l) L S ops rest Q) : WL x l L S ops (⟨some d, .call { callee := .value g, args := ys.toArray, argTypes := tys }, ty, pos, af, none⟩ :: rest) Q :=
  o_callv (fun _ : Unit => v) (fun _ => L) (fun _ => S) hg has hargs hen hN (fun w hw => cN (hc w) fun e w' ⟨he, hu⟩ => ⟨(), he, hw.ext hu⟩) (fun _ => k)
end calls

/-! A function's beginning, its end. -/
/-- No panic. -/
def np (Q : Exit → Act → World → Prop) : Exit → Act → World → Prop
  | .panic _, _, _ => False
  | e, a, w => Q e a w
theorem np_sub {Q : Exit → Act → World → Prop} : ∀ e a w, np Q e a w → Q e a w
  | .panic _, _, _, h => h.elim
  | .normal, _, _, h => h
  | .ret, _, _, h => h
  | .exit _, _, _, h => h
  | .goto _, _, _, h => h
  | .outgrown, _, _, h => h
def frm (i : Nat) : List Value → Fr
  | [] => []
  | v :: r => (i, v) :: frm (i + 1) r
theorem kn_frm (args : Array Value) (n : Nat) (vs : List Value) : ∀ i, (∀ j v, vs[j]? = some v → args[i + j]? = some v) → ∀ t v, look (frm i vs) t = some v → (args ++ Array.replicate n undef)[t]? = some v := by
  induction vs with
  | nil => intro i _ t v h; cases h
  | cons u r ih =>
    intro i h t v ht
    simp only [frm, look] at ht
    cases e : Nat.beq i t with
    | true =>
      rw [e] at ht; cases ht
      have := Nat.eq_of_beq_eq_true e; subst this
      have h0 := h 0 u rfl
      rw [Nat.add_zero] at h0
      rw [Array.getElem?_append_left (Array.getElem?_eq_some_iff.1 h0).1]
      exact h0
    | false =>
      rw [e] at ht
      exact ih (i + 1) (fun j v hj => by have := h (j + 1) v (by simpa using hj); rwa [show i + 1 + j = i + (j + 1) by omega]) t v ht
/-- A function's contract out of its body's walk (no range over a function in it). -/
theorem bT {P : Program} {f : FuncId} {fn : Func} {c : Code} {args : List Value} {w : World} {R : Ending → World → Prop} {ok0 : Nat → Prop} {S : List Ch} (N : Nat) (hf : P.funcs[f]? = some fn) (hb : fn.body = some c) (hn : fn.ntmps = N) (hN : Nat.ble args.length N = true)
    (hS : ∀ s ∈ S, s.P w) (hlt : ∀ s ∈ S, ∀ b, s.ok b → b < w.heap.size)
    (h : W ⟨P, none, N, [], ok0, w⟩ (frm 0 args) [] S c (np (bodyPost P fn R))) : Calls P f args.toArray w R := by
  refine (callsIn_wide (n := 0)).1 (callsIn_of_wp hf hb trivial ?_)
  refine Code.wpIn_mono np_sub (h _ w ⟨?_, rfl, ?_⟩ (Hp.start _ S w hS hlt))
  · have := Nat.le_of_ble_eq_true hN
    simp [hn]; omega
  · exact kn_frm _ _ args 0 (fun j v hj => by simpa using hj)
/-- .. where it holds one. -/
theorem calls_of_WM {P : Program} {f : FuncId} {fn : Func} {c : Code} {args : List Value} {w : World} {R : Ending → World → Prop} {ok0 : Nat → Prop} {S : List Ch} (N : Nat) (hf : P.funcs[f]? = some fn) (hb : fn.body = some c) (hn : fn.ntmps = N) (hN : Nat.ble args.length N = true)
    (hS : ∀ s ∈ S, s.P w) (hlt : ∀ s ∈ S, ∀ b, s.ok b → b < w.heap.size)
    (h : W ⟨P, none, N, [], ok0, w⟩ (frm 0 args) [] S c (np (bodyPostM (fw none) 0 P fn R))) : Calls P f args.toArray w R := by
  refine (callsIn_wide (n := 0)).1 (callsIn_of_wp_marks hf hb trivial ?_)
  refine Code.wpIn_mono np_sub (h _ w ⟨?_, rfl, ?_⟩ (Hp.start _ S w hS hlt))
  · have := Nat.le_of_ble_eq_true hN
    simp [hn]; omega
  · exact kn_frm _ _ args 0 (fun j v hj => by simpa using hj)

def looks (l : Fr) : List Nat → Option (List Value)
  | [] => some []
  | t :: r => match look l t with
    | some v => match looks l r with
      | some vs => some (v :: vs)
      | none => none
    | none => none
theorem Kn.looks {N : Nat} {ds : List Deferred} {l : Fr} {a : Act} (h : Kn N ds l a) : ∀ {ts : List Nat} {vs : List Value}, looks l ts = some vs → ts.map (fun t => a.tmps.getD t undef) = vs
  | [], vs, e => by cases e; rfl
  | t :: r, vs, e => by
    simp only [Go.Proofs.YtnpdgmoeoidppaaGreat.looks] at e
    split at e
    · rename_i v hv
      split at e
      · rename_i us hus
        cases e
        rw [List.map_cons, h.looks hus]
        simp [h.kn t v hv]
      · cases e
    · cases e
/-- Several results (or none), one result. -/
def eW : List Value → Value
  | [v] => v
  | vs => .tuple vs.toArray
theorem run_results {fn : Func} {ts : List Nat} {vs : List Value} {N : Nat} {ds : List Deferred} {l : Fr} {a : Act} (hr : fn.results = (ts.map ResultVar.tmp).toArray) (ha : Kn N ds l a) (hv : looks l ts = some vs) (P : Program) (w : World) :
    (results fn a.tmps).run P w = .ok (eW vs) w := by
  have e := ha.looks hv
  have key : ∀ (f : ResultVar → Sem Value), (∀ t, f (.tmp t) = pure (a.tmps.getD t undef)) → ∀ ts : List Nat, ((ts.map ResultVar.tmp).mapM f).run P w = .ok (ts.map (fun t => a.tmps.getD t undef)) w := by
    intro f hf ts
    induction ts with
    | nil => rfl
    | cons t r ih =>
      rw [List.map_cons, List.mapM_cons, hf]
      simp only [Sem.run_bind, Sem.run_pure, Result.andThen_ok, ih]
      rfl
  unfold results
  rw [hr, Sem.run_bind, List.mapM_toArray, Sem.run_map, key _ (fun _ => rfl) ts, e]
  simp only [Result.andThen_ok, Sem.run_pure]
  congr 1
  match vs with
  | [] => simp [eW]
  | [v] => simp [eW]
  | v :: u :: r => simp [eW]
section ends
variable {x : Cx} {l : Fr} {L S : List Ch}
theorem aR {fn : Func} {R : Ending → World → Prop} {ts : List Nat} {vs : List Value} (hr : fn.results = (ts.map ResultVar.tmp).toArray) (hv : looks l ts = some vs) (hd : x.ds = [])
    (h : ∀ w, Hp x.ok0 x.w0 L S w → R (.returned (eW vs)) w) : E x l L S .ret (np (bodyPost x.P fn R)) := fun _ w ha hw =>
  ⟨ha.df.trans hd, _, run_results hr ha hv x.P w, h w hw⟩
theorem e_end {fn : Func} {R : Ending → World → Prop} {ts : List Nat} {vs : List Value} (hr : fn.results = (ts.map ResultVar.tmp).toArray) (hv : looks l ts = some vs) (hd : x.ds = [])
    (h : ∀ w, Hp x.ok0 x.w0 L S w → R (.returned (eW vs)) w) : E x l L S .normal (np (bodyPost x.P fn R)) := fun _ w ha hw =>
  ⟨ha.df.trans hd, _, run_results hr ha hv x.P w, h w hw⟩
/-! Loops. -/
/-- What is known of the slots but those of 'ts', each once. -/
def fY (ts : List Nat) : Fr → Fr
  | [] => []
  | (k, v) :: r => match ts.elem k with
    | true => fY ts r
    | false => (k, v) :: fY (k :: ts) r
theorem look_keep : ∀ {l : Fr} {ts : List Nat} {t : Nat} {v : Value}, look (fY ts l) t = some v → look l t = some v ∧ ts.elem t = false
  | [], _, _, _, h => by cases h
  | (k, u) :: r, ts, t, v, h => by
    simp only [fY] at h
    simp only [look]
    cases e : ts.elem k with
    | true =>
      rw [e] at h
      have h' := look_keep h
      cases e2 : Nat.beq k t with
      | true => have := Nat.eq_of_beq_eq_true e2; subst this; rw [e] at h'; cases h'.2
      | false => exact h'
    | false =>
      rw [e] at h
      simp only [look] at h
      cases e2 : Nat.beq k t with
      | true => rw [e2] at h; have := Nat.eq_of_beq_eq_true e2; subst this; exact ⟨h, e⟩
      | false =>
        rw [e2] at h
        have h' := look_keep h
        refine ⟨h'.1, ?_⟩
        have := h'.2
        simp only [List.elem] at this
        split at this
        · cases this
        · exact this
theorem look_append {p q : Fr} {t : Nat} {v : Value} : look (p ++ q) t = some v → look p t = some v ∨ (look p t = none ∧ look q t = some v) := by
  induction p with
  | nil => exact fun h => .inr ⟨rfl, h⟩
  | cons c r ih =>
    obtain ⟨k, u⟩ := c
    intro h
    simp only [List.cons_append, look] at h ⊢
    cases e : Nat.beq k t with
    | true => rw [e] at h; exact .inl h
    | false => rw [e] at h; exact ih h
theorem knows_append {l p q : Fr} (hp : Knows l p) (hq : Knows l q) : ∀ t v, look (p ++ q) t = some v → look l t = some v := fun t v h => by
  rcases look_append h with h | ⟨_, h⟩
  · exact hp.look t v h
  · exact hq.look t v h
def Ql (x : Cx) {σ : Type} (I : σ → Prop) (lf : σ → Fr) (Lf Sf : σ → List Ch) (l1 : Fr) (lt : σ → Prop) (Q : Exit → Act → World → Prop) : Exit → Act → World → Prop :=
  Exit.then (fun a w => ∃ g, I g ∧ lt g ∧ Kn x.N x.ds (lf g ++ l1) a ∧ Hp x.ok0 x.w0 (Lf g) (Sf g) w) Q
theorem wpIn_loopG {F : Fence} {n : Nat} {P : Program} {Q : Exit → Act → World → Prop} {a : Act} {w : World} {c : Code} {σ : Type} (I : σ → Act → World → Prop) (μ : σ → Nat) (g0 : σ) (h₀ : I g0 a w)
    (round : ∀ g a w, I g a w → c.wpIn F n P (Exit.then (fun a' w' => ∃ g', μ g' < μ g ∧ I g' a' w') Q) a w) : (Code.loop c).wpIn F n P Q a w := by
  intro b k cs hro hb hr
  have key : ∀ j g a w, μ g = j → I g a w →
      ∃ e a' w', Q e a' w' ∧ ArrivesIn (Machine.fenced P F) P (lone (b.atR a (.code c :: .inLoop c :: k)) cs w) b k cs e a' w' := by
    intro j
    induction j using Nat.strongRecOn with
    | _ j ih =>
      intro g a w hn hI
      obtain ⟨e, a₁, w₁, hq, harr⟩ := round g a w hI b (.inLoop c :: k) cs hro hb hr
      cases e with
      | normal =>
        obtain ⟨g', hlt, hI₁⟩ := hq
        obtain ⟨e₂, a₂, w₂, hq₂, harr₂⟩ := ih (μ g') (hn ▸ hlt) g' a₁ w₁ rfl hI₁
        exact ⟨e₂, a₂, w₂, hq₂, .of_steps (StepsIn.trans harr (.one (fenced_calm hb hr rfl) stepR_inLoop)) harr₂⟩
      | exit id => exact ⟨_, a₁, w₁, hq, .pass (x := .inLoop c) rfl (fun _ _ => .inl (by simp)) harr⟩
      | goto l => exact ⟨_, a₁, w₁, hq, .pass (x := .inLoop c) rfl (fun _ _ => .inl (by simp)) harr⟩
      | ret => exact ⟨_, a₁, w₁, hq, .pass (x := .inLoop c) rfl (fun _ _ => .inl (by simp)) harr⟩
      | panic ch => exact ⟨_, a₁, w₁, hq, .pass (x := .inLoop c) rfl (fun _ _ => .inl (by simp)) harr⟩
      | outgrown => exact ⟨_, a₁, w₁, hq, .pass (x := .inLoop c) rfl (fun _ _ => .inl (by simp)) harr⟩
  obtain ⟨e, a', w', hq, harr⟩ := key _ g0 a w rfl h₀
  exact ⟨e, a', w', hq, .of_steps (.one (fenced_calm hb hr rfl) stepR_loop) harr⟩
theorem w_loop {c : Code} {Q : Exit → Act → World → Prop} {σ : Type} (ts : List Nat) (I : σ → Prop) (μ : σ → Nat) (lf : σ → Fr) (Lf Sf : σ → List Ch) (g0 : σ) (h0 : I g0) (hk : Knows l (lf g0)) (hh : ∀ w, Hp x.ok0 x.w0 L S w → Hp x.ok0 x.w0 (Lf g0) (Sf g0) w)
    (body : ∀ g, I g → W x (lf g ++ fY ts l) (Lf g) (Sf g) c (Ql x I lf Lf Sf (fY ts l) (fun g' => μ g' < μ g) Q)) : W x l L S (.loop c) Q := fun a w ha hw => by
  refine wpIn_loopG (fun g a w => I g ∧ Kn x.N x.ds (lf g ++ fY ts l) a ∧ Hp x.ok0 x.w0 (Lf g) (Sf g) w) μ g0 ⟨h0, ha.mono fun t v h => ?_, hh w hw⟩ ?_
  · rcases look_append h with h | ⟨_, h⟩
    · exact hk.look t v h
    · exact (look_keep h).1
  · rintro g a w ⟨hI, ha, hw⟩
    refine Code.wpIn_mono ?_ (body g hI a w ha hw)
    intro e a' w' h
    cases e with
    | normal => obtain ⟨g', h1, h2, h3, h4⟩ := h; exact ⟨g', h2, h1, h3, h4⟩
    | _ => exact h
/-- The round goes on. -/
theorem bv {Q : Exit → Act → World → Prop} {σ : Type} {I : σ → Prop} {lf : σ → Fr} {Lf Sf : σ → List Ch} {l1 : Fr} {lt : σ → Prop} (g : σ) (h1 : I g) (h2 : lt g) (hk : Knows l (lf g)) (hk1 : Knows l l1) (hh : ∀ w, Hp x.ok0 x.w0 L S w → Hp x.ok0 x.w0 (Lf g) (Sf g) w) :
    E x l L S .normal (Ql x I lf Lf Sf l1 lt Q) := fun _ w ha hw => ⟨g, h1, h2, ha.mono (knows_append hk hk1), hh w hw⟩
theorem aX {Q : Exit → Act → World → Prop} {σ : Type} {I : σ → Prop} {lf : σ → Fr} {Lf Sf : σ → List Ch} {l1 : Fr} {lt : σ → Prop} {id : Nat} (h : E x l L S (.exit id) Q) : E x l L S (.exit id) (Ql x I lf Lf Sf l1 lt Q) := h
theorem bh {Q : Exit → Act → World → Prop} {σ : Type} {I : σ → Prop} {lf : σ → Fr} {Lf Sf : σ → List Ch} {l1 : Fr} {lt : σ → Prop} (h : E x l L S .ret Q) : E x l L S .ret (Ql x I lf Lf Sf l1 lt Q) := h
end ends
end Go.Proofs.YtnpdgmoeoidppaaGreat

/- Regions whose order of evaluation Go leaves open. -/
namespace Go.Proofs.YtnpdgmoeoidppaaGreat
open Go.RowKit Go.Shelf
set_option linter.unusedVariables false

def jS (Q : Exit → Act → World → Prop) : Prop := ∀ c a w d v, Q (.panic c) (Act.put a d v) w → Q (.panic c) a w
theorem aw {Q : Exit → Act → World → Prop} : jS (np Q) := fun _ _ _ _ _ h => h
theorem ah {x : Cx} {y : Code} {Q : Exit → Act → World → Prop} (h : jS Q) : jS (Qs x y Q) := h
theorem ao {id : Nat} {Q : Exit → Act → World → Prop} (h : jS Q) : jS (Qb id Q) := h
theorem av {x : Cx} {Q : Exit → Act → World → Prop} {σ : Type} {I : σ → Prop} {lf : σ → Fr} {Lf Sf : σ → List Ch} {l1 : Fr} {lt : σ → Prop} (h : jS Q) : jS (Ql x I lf Lf Sf l1 lt Q) := h

/-- Whatever order is picked from here on; what stands at or beyond place m need not fY C. -/
def jt (P : Program) (ops : Array Oper) (Q : Exit → Act → World → Prop) (C : World → Prop) (m : Nat) : Nat → Array Bool → Act → World → Prop
  | 0, listed, a, _w => Region.ready .any ops listed = [] ∧ Q .normal a _w
  | fuel + 1, listed, a, w =>
    (Region.ready .any ops listed = [] → Q .normal a w) ∧
    ∀ i ∈ Region.ready .any ops listed, wpOp P ops Q i (fun a' w' => (i < m → C w') ∧ jt P ops Q C m fuel (listed.setIfInBounds i true) a' w') a w
theorem wpAny_of_T {P : Program} {ops : Array Oper} {Q : Exit → Act → World → Prop} {C : World → Prop} {m : Nat} : ∀ (fuel : Nat) (listed : Array Bool) (a : Act) (w : World), jt P ops Q C m fuel listed a w → wpAny P .any ops Q fuel listed a w
  | 0, _, _, _, h => h
  | fuel + 1, _, _, _, h => ⟨h.1, fun i hi => wpOp_mono (fun a' w' h' => wpAny_of_T fuel _ a' w' h'.2) (h.2 i hi)⟩
def gP (ops : Array Oper) (m i : Nat) : Bool := (List.range ops.size).all fun t => Nat.blt t m || match ops[t]? with
  | some o => o.after.any fun e => Region.binds .any e && e.on == i
  | none => true
theorem tailWaits_spec {ops : Array Oper} {m i : Nat} (h : gP ops m i = true) {t : Nat} (ht : m ≤ t) {o : Oper} (ho : ops[t]? = some o) : ∃ e ∈ o.after, Region.binds .any e = true ∧ e.on = i := by
  simp only [gP, List.all_eq_true, List.mem_range] at h
  have h1 := h t (Array.getElem?_eq_some_iff.1 ho).1
  simp only [ho, Bool.or_eq_true] at h1
  rcases h1 with h1 | h1
  · have := Nat.le_of_ble_eq_true h1; omega
  · obtain ⟨e, he, hb⟩ := Array.any_eq_true'.1 h1
    simp only [Bool.and_eq_true, beq_iff_eq] at hb
    exact ⟨e, he, hb.1, hb.2⟩
theorem jU {P : Program} {ops : Array Oper} {Q : Exit → Act → World → Prop} {C : World → Prop} {m i : Nat} {oi : Oper} {v : Value} (hi : ops[i]? = some oi) (hsel : ∀ (j : Nat) (o : Oper) cs b, ops[j]? = some o → o.op ≠ .select cs b)
    (hQ : ∀ c a w, Q (.panic c) (a.put oi.dst v) w → Q (.panic c) a w) (hm : gP ops m i = true) :
    ∀ (fuel : Nat) (listed : Array Bool) (a : Act) (w : World),
      (∀ j oj, ops[j]? = some oj → j ≠ i → listed.getD j true = false → (∀ e ∈ oj.after, Region.binds .any e = true → e.on ≠ i) → oi.apart ops oj = true) →
      i ∈ Region.ready .any ops listed → YieldsIf P ops C oi v a → C w →
      jt P ops Q C m fuel (listed.setIfInBounds i true) (a.put oi.dst v) w → jt P ops Q C m (fuel + 1) listed a w := by
  intro fuel
  induction fuel with
  | zero =>
    intro listed a w _ hr hy hS H
    refine ⟨fun h => (by rw [h] at hr; cases hr), fun j hj => ?_⟩
    by_cases hji : j = i
    · subst hji; exact hy.wpOp hi hS ⟨fun _ => hS, H⟩
    · have := ready_mono hj hji
      rw [H.1] at this
      cases this
  | succ fuel ih =>
    intro listed a w hfree hr hy hS H
    refine ⟨fun h => (by rw [h] at hr; cases hr), fun j hj => ?_⟩
    by_cases hji : j = i
    · subst hji; exact hy.wpOp hi hS ⟨fun _ => hS, H⟩
    · have h1 := H.2 j (ready_mono hj hji)
      obtain ⟨hjun, oj, hoj, hall⟩ := mem_ready.1 hj
      have hun : listed.getD i false = false := by
        have h0 := (mem_ready.1 hr).1
        rcases Nat.lt_or_ge i listed.size with h' | h'
        · simpa [h'] using h0
        · simp [Array.getElem?_eq_none h']
      have hnot : ∀ e ∈ oj.after, Region.binds .any e = true → e.on ≠ i := fun e he hb heq => by
        have h1 := hall e he hb
        rw [heq, hun] at h1
        cases h1
      have hjm : j < m := by
        rcases Nat.lt_or_ge j m with h | h
        · exact h
        · obtain ⟨e, he, hb, hon⟩ := tailWaits_spec hm h hoj
          exact absurd hon (hnot e he hb)
      have h2 := wpOp_putIf hoj (hfree j oj hoj hji hjun hnot) (fun cs b => hsel i oi cs b hi) (fun cs b => hsel j oj cs b hoj) hQ hy h1
      have hfree' : ∀ k ok, ops[k]? = some ok → k ≠ i → (listed.setIfInBounds j true).getD k true = false →
          (∀ e ∈ ok.after, Region.binds .any e = true → e.on ≠ i) → oi.apart ops ok = true := fun k ok hk hki hun' hno => by
        refine hfree k ok hk hki ?_ hno
        by_cases hjk : j = k
        · subst hjk; exact hjun
        · rw [getD_set_ne true hjk] at hun'; exact hun'
      refine wpOp_mono (fun a' w' h3 => ⟨fun _ => h3.2.1 hjm, ih (listed.setIfInBounds j true) a' w' hfree' (ready_mono hr (Ne.symm hji)) h3.1 (h3.2.1 hjm) ?_⟩) h2
      rw [Array.setIfInBounds_comm _ _ hji]
      exact h3.2.2

/-- Whatever order is picked from here on; 'listed': what has come up; C: what holds behind every operation ahead of place m. -/
def WA (x : Cx) (C : World → Prop) (m : Nat) (ops : Array Oper) (fuel : Nat) (listed : Array Bool) (l : Fr) (L S : List Ch) (Q : Exit → Act → World → Prop) : Prop :=
  ∀ a w, Kn x.N x.ds l a → Hp x.ok0 x.w0 L S w → jt x.P ops Q C m fuel listed a w
section
variable {x : Cx} {C : World → Prop} {l : Fr} {L S : List Ch} {Q : Exit → Act → World → Prop} {ops : Array Oper} {fuel m : Nat} {listed : Array Bool}
theorem dQ {id : Nat} {ol : List Oper} (m : Nat) (hro : x.ro = none) (hm : x.P.follows .mixedOrders = true) (h : WA x (Hp x.ok0 x.w0 L S) m ol.toArray ol.length (Array.replicate ol.length false) l L S Q) : W x l L S (.region id ol.toArray true) Q := fun a w ha hw => by
  rw [hro]
  refine (wpIn_wide (n := 0)).2 (wp_region_any hm (wpAny_of_T (C := Hp x.ok0 x.w0 L S) (m := m) _ _ _ _ ?_))
  have := h a { w with drawn := w.drawn + 1 } ha hw.drew
  simpa using this
/-- A row of whatever cells. -/
def Ch.any (b n : Nat) (T : TypeId) : Ch := ⟨fun k => k = b, fun w => ∃ cs : List Value, cs.length = n ∧ w.heap[b]? = some (.cells cs.toArray T (0, 0)), fun _ _ ⟨cs, h1, h2⟩ k => ⟨cs, h1, (k b rfl).trans h2⟩⟩
theorem Hp.any {ok0 : Nat → Prop} {w0 : World} {L L' S : List Ch} {w : World} {i b n : Nat} {cs : List Value} {T : TypeId} (h : Hp ok0 w0 L S w) (hi : SetAt L i (Ch.row b cs T) (Ch.any b n T) L') (hn : cs.length = n) : Hp ok0 w0 L' S w :=
  h.turn hi (fun hp => ⟨cs, hn, hp⟩) (fun _ h => h)
/-- A quiet operation is taken first. -/
theorem aK {i d : Nat} {op : Op} {ty : TypeId} {pos : String} {af : Array Edge} {gd : Option (Nat × Bool)} {v : Value} {listed' : Array Bool} {L0 S0 : List Ch} (hi : ops[i]? = some ⟨some d, op, ty, pos, af, gd⟩) (hw : ∀ a, Kn x.N x.ds l a → Region.wanted ⟨some d, op, ty, pos, af, gd⟩ (yielded ops a.tmps) = true)
    (hy : Yv x l L0 S0 ⟨some d, op, ty, pos, af, gd⟩ v) (hC : ∀ w, Hp x.ok0 x.w0 L S w → C w) (hC0 : ∀ w, C w → Hp x.ok0 x.w0 L0 S0 w) (hN : Nat.blt d x.N = true) (hpk : jS Q)
    (hs : (Region.noSelect ops && Region.free .any ops listed i && (Region.ready .any ops listed).contains i && gP ops m i) = true) (hl : listed.setIfInBounds i true = listed')
    (k : WA x C m ops fuel listed' ((d, v) :: l) L S Q) : WA x C m ops (fuel + 1) listed l L S Q := fun a w ha hh => by
  simp only [Bool.and_eq_true] at hs
  obtain ⟨⟨⟨h1, h2⟩, h3⟩, h4⟩ := hs
  exact jU hi (Region.noSelect_spec h1) (fun c a w h => hpk c a w _ _ h) h4 fuel listed a w (Region.free_spec hi h2) (by simpa using h3) (.inl ⟨hw a ha, fun w' hw' => hy a w' ha (hC0 w' hw')⟩) (hC w hh) (by rw [hl]; exact k _ w (ha.put (Nat.le_of_ble_eq_true hN) v) hh)
/-- .. one whose guard says no. -/
theorem cj {i d : Nat} {op : Op} {ty : TypeId} {pos : String} {af : Array Edge} {gd : Option (Nat × Bool)} {listed' : Array Bool} (hi : ops[i]? = some ⟨some d, op, ty, pos, af, gd⟩) (hw : ∀ a, Kn x.N x.ds l a → Region.wanted ⟨some d, op, ty, pos, af, gd⟩ (yielded ops a.tmps) = false)
    (hC : ∀ w, Hp x.ok0 x.w0 L S w → C w) (hN : Nat.blt d x.N = true) (hpk : jS Q)
    (hs : (Region.noSelect ops && Region.free .any ops listed i && (Region.ready .any ops listed).contains i && gP ops m i) = true) (hl : listed.setIfInBounds i true = listed')
    (k : WA x C m ops fuel listed' ((d, undef) :: l) L S Q) : WA x C m ops (fuel + 1) listed l L S Q := fun a w ha hh => by
  simp only [Bool.and_eq_true] at hs
  obtain ⟨⟨⟨h1, h2⟩, h3⟩, h4⟩ := hs
  exact jU hi (Region.noSelect_spec h1) (fun c a w h => hpk c a w _ _ h) h4 fuel listed a w (Region.free_spec hi h2) (by simpa using h3) (.inr ⟨hw a ha, rfl⟩) (hC w hh) (by rw [hl]; exact k _ w (ha.put (Nat.le_of_ble_eq_true hN) undef) hh)
theorem ak {ops : Array Oper} {dst : Option Nat} {op : Op} {ty : TypeId} {pos : String} {af : Array Edge} : ∀ a, Kn x.N x.ds l a → Region.wanted ⟨dst, op, ty, pos, af, none⟩ (yielded ops a.tmps) = true := fun _ _ => rfl
theorem aL {ops : Array Oper} {dst : Option Nat} {op : Op} {ty : TypeId} {pos : String} {af : Array Edge} {j t : Nat} {want : Bool} (hj : (ops[j]?).bind (·.dst) = some t) (ht : look l t = some (.bool want)) :
    ∀ a, Kn x.N x.ds l a → Region.wanted ⟨dst, op, ty, pos, af, some (j, want)⟩ (yielded ops a.tmps) = true := fun a ha => by
  have hy : yielded ops a.tmps j = some want := by simp [yielded, hj, ha.kn t _ ht]
  simp [Region.wanted, hy]
theorem bC {ops : Array Oper} {dst : Option Nat} {op : Op} {ty : TypeId} {pos : String} {af : Array Edge} {j t : Nat} {want b : Bool} (hj : (ops[j]?).bind (·.dst) = some t) (ht : look l t = some (.bool b)) (hb : b = !want) :
    ∀ a, Kn x.N x.ds l a → Region.wanted ⟨dst, op, ty, pos, af, some (j, want)⟩ (yielded ops a.tmps) = false := fun a ha => by
  have hy : yielded ops a.tmps j = some b := by simp [yielded, hj, ha.kn t _ ht]
  simp [Region.wanted, hy, hb]
theorem cn {ops : Array Oper} {dst : Option Nat} {op : Op} {ty : TypeId} {pos : String} {af : Array Edge} {j t : Nat} {want : Bool} (hj : (ops[j]?).bind (·.dst) = some t) (ht : look l t = some undef) :
    ∀ a, Kn x.N x.ds l a → Region.wanted ⟨dst, op, ty, pos, af, some (j, want)⟩ (yielded ops a.tmps) = false := fun a ha => by
  have hy : yielded ops a.tmps j = none := by simp [yielded, hj, ha.kn t _ ht, undef]
  simp [Region.wanted, hy]
/-- The one operation that may come up: by the rules of the ordered walk. -/
def Qn (x : Cx) (C : World → Prop) (m i : Nat) (ops : Array Oper) (fuel : Nat) (listed : Array Bool) (Q : Exit → Act → World → Prop) : Exit → Act → World → Prop := Exit.then (fun a w => (i < m → C w) ∧ jt x.P ops Q C m fuel listed a w) Q
theorem eO {C : World → Prop} {l : Fr} {L S : List Ch} {i : Nat} (hC : ∀ w, Hp x.ok0 x.w0 L S w → C w) (h : WA x C m ops fuel listed l L S Q) : E x l L S .normal (Qn x C m i ops fuel listed Q) := fun a w ha hw => ⟨fun _ => hC w hw, h a w ha hw⟩
theorem eM {C : World → Prop} {l : Fr} {L S : List Ch} {i : Nat} (hi : Nat.ble m i = true) (h : WA x C m ops fuel listed l L S Q) : E x l L S .normal (Qn x C m i ops fuel listed Q) := fun a w ha hw => ⟨fun h' => by have := Nat.le_of_ble_eq_true hi; omega, h a w ha hw⟩
theorem g4 {o : Oper} {i : Nat} {a : Act} {w : World} {K : Act → World → Prop} (hi : ops[i]? = some o) (h : wpList x.P ops (Exit.then K Q) [o] a w) : wpOp x.P ops Q i K a w := by
  unfold wpOp
  simp only [hi]
  unfold wpList at h
  split
  · rename_i hw
    rw [if_pos hw] at h
    rcases h with h | h
    · refine .inl ?_
      unfold Oper.wp at h ⊢
      cases hx : (execOp a.eval o).run x.P w with
      | halt hh w' => rw [hx] at h; cases hh <;> exact h
      | ok n w' =>
        rw [hx] at h
        cases n with
        | enter f args => exact cN h fun e w'' hR => by cases e <;> exact hR
        | _ => exact h
    · exact .inr h
  · rename_i hw
    rw [if_neg hw] at h
    exact h
/-- An operation that yields a value, nothing, or enters a function. -/
def Tame : Result Next → Prop
  | .ok (.value _) _ => True
  | .ok .skip _ => True
  | .ok (.enter _ _) _ => True
  | .ok _ _ => False
  | .halt _ _ => True
theorem eI {P : Program} {s : Sem Value} {w : World} : Tame ((do pure (Next.value (← s)) : Sem Next).run P w) := by
  rw [Sem.run_bind]
  cases s.run P w with
  | ok v w' => trivial
  | halt h w' => trivial
theorem tame_u {P : Program} {s : Sem Unit} {w : World} : Tame ((do s; pure Next.skip : Sem Next).run P w) := by
  rw [Sem.run_bind]
  cases s.run P w with
  | ok v w' => trivial
  | halt h w' => trivial
def tameOp : Op → Bool
  | .alloc _ | .box .. | .build .. | .buildSlice .. | .load .. | .store .. | .makeMap .. | .makeSlice .. | .lookup .. | .mapUpdate .. | .insert .. | .mapEntry .. | .entryStore .. | .slice .. | .convert .. | .move .. | .assign .. | .fieldAddr .. | .indexAddr .. | .index .. | .field .. | .extract .. => true
  | .call { callee := .builtin .append, .. } | .call { callee := .builtin .copy, .. } | .call { callee := .builtin .delete, .. } | .call { callee := .builtin .unsafeSliceData, .. } | .call { callee := .builtin .unsafeString, .. } => true
  | _ => false
theorem aM {P : Program} {ρ : Operand → Value} {o : Oper} {w : World} (h : tameOp o.op = true) : Tame ((execOp ρ o).run P w) := by
  obtain ⟨dst, op, ty, pos, af, gd⟩ := o
  cases op with
  | call c =>
    obtain ⟨cal, ys, tys⟩ := c
    cases cal with
    | builtin b => cases b <;> first | (simp [tameOp] at h; done) | exact eI
    | _ => simp [tameOp] at h
  | alloc e => exact eI
  | box e y => exact eI
  | build t ps => exact eI
  | buildSlice t n ps => exact eI
  | load t y => exact eI
  | store t y u => exact tame_u
  | makeMap t r => exact eI
  | makeSlice t a b => exact eI
  | lookup t a b c => exact eI
  | mapUpdate t a b c => exact tame_u
  | insert t a b c => exact tame_u
  | mapEntry t a b => exact eI
  | entryStore t a b c => exact tame_u
  | slice t a b c d => exact eI
  | convert t u a => exact eI
  | move a => trivial
  | fieldAddr t a b => exact eI
  | indexAddr t a b => exact eI
  | index t a b => exact eI
  | field t a b => exact eI
  | extract a b => exact eI
  | assign a => trivial
  | _ => simp [tameOp] at h
theorem bf {g : Operand} {dst : Option Nat} {ty : TypeId} {pos : String} {af : Array Edge} {gd : Option (Nat × Bool)} {ys : List Operand} {tys : Array TypeId} {f : Nat} {first cap : Array Value} (hg : ev l g = some (.func (.func f) first cap)) (hen : Enters x.P f) :
    ∀ a w, Kn x.N x.ds l a → Tame ((execOp a.eval ⟨dst, .call { callee := .value g, args := ys.toArray, argTypes := tys }, ty, pos, af, gd⟩).run x.P w) := fun a w ha => by
  have : (execOp a.eval ⟨dst, .call { callee := .value g, args := ys.toArray, argTypes := tys }, ty, pos, af, gd⟩).run x.P w = .ok (.enter f (first ++ (ys.map a.eval).toArray ++ cap)) w := by
    simp only [execOp, resolve, ha.ev hg, Deferred.ofValue]
    simp [invoke]
    rw [← Array.append_assoc, hen]
  rw [this]
  trivial
theorem dG {o : Oper} {i : Nat} {listed' : Array Bool} (hro : x.ro = none) (hi : ops[i]? = some o) (hnd : Op.isDefer o.op = false) (ht : ∀ a w, Kn x.N x.ds l a → Tame ((execOp a.eval o).run x.P w)) (hr : Region.ready .any ops listed = [i]) (hl : listed.setIfInBounds i true = listed')
    (h : WL x l L S ops [o] (Qn x C m i ops fuel listed' Q)) : WA x C m ops (fuel + 1) listed l L S Q := fun a w ha hh => by
  refine ⟨fun h0 => absurd (hr ▸ h0) (by simp), fun j hj => ?_⟩
  rw [hr] at hj
  obtain rfl : j = i := by simpa using hj
  rw [hl]
  refine g4 hi ?_
  have h1 := h a w ha hh
  rw [hro] at h1
  unfold wpListIn at h1
  unfold wpList
  split
  · rename_i hw
    rw [if_pos hw] at h1
    obtain ⟨_, h1⟩ := h1
    have e : Oper.semAt (fw none).round a.eval o = execOp a.eval o := rfl
    rw [e] at h1
    refine .inl ?_
    unfold Oper.wp
    have ht' := ht a w ha
    cases hx : (execOp a.eval o).run x.P w with
    | halt hh w' => rw [hx] at h1; cases hh <;> exact h1
    | ok n w' =>
      rw [hx] at h1 ht'
      cases n with
      | value v => exact h1
      | skip => exact h1
      | enter f args =>
        have := (callsIn_wide (n := 0 - 1)).1 (show CallsIn Fence.wide (0 - 1) x.P f args w' _ from h1.2)
        exact cN this fun e w'' hR => by cases e <;> exact hR
      | _ => exact ht'.elim
  · rename_i hw
    rw [if_neg hw] at h1
    exact h1.2
theorem wa_mono {l' : Fr} (hs : ∀ a, Kn x.N x.ds l a → Kn x.N x.ds l' a) (k : WA x C m ops fuel listed l' L S Q) : WA x C m ops fuel listed l L S Q := fun a w ha hw => k a w (hs a ha) hw
theorem gQ {t : Nat} {v : Value} (v' : Value) (h : look l t = some v) (e : v = v') (k : WA x C m ops fuel listed ((t, v') :: l) L S Q) : WA x C m ops fuel listed l L S Q := wa_mono (fun a ha => ha.mono fun t' u h' => by
    simp only [look] at h'
    cases e2 : Nat.beq t t' with
    | true => rw [e2] at h'; cases h'; rw [← Nat.eq_of_beq_eq_true e2, h, e]
    | false => rw [e2] at h'; exact h') k
theorem wa_at {t : Nat} {p : Prop} [Decidable p] (h : look l t = some (.bool (decide p))) (hp : p) (k : WA x C m ops fuel listed ((t, .bool true) :: l) L S Q) : WA x C m ops fuel listed l L S Q := gQ (.bool true) h (by rw [decide_eq_true hp]) k
theorem wa_af {t : Nat} {p : Prop} [Decidable p] (h : look l t = some (.bool (decide p))) (hp : ¬ p) (k : WA x C m ops fuel listed ((t, .bool false) :: l) L S Q) : WA x C m ops fuel listed l L S Q := gQ (.bool false) h (by rw [decide_eq_false hp]) k
theorem wa_splitb {t : Nat} {b : Bool} (h : look l t = some (.bool b)) (ht : b = true → WA x C m ops fuel listed ((t, .bool true) :: l) L S Q) (hf : b = false → WA x C m ops fuel listed ((t, .bool false) :: l) L S Q) : WA x C m ops fuel listed l L S Q := by
  cases hb : b with
  | true => exact gQ (.bool true) h (by rw [hb]) (ht hb)
  | false => exact gQ (.bool false) h (by rw [hb]) (hf hb)
theorem dN {t : Nat} {p : Prop} [Decidable p] (h : look l t = some (.bool (decide p))) (ht : p → WA x C m ops fuel listed ((t, .bool true) :: l) L S Q) (hf : ¬ p → WA x C m ops fuel listed ((t, .bool false) :: l) L S Q) : WA x C m ops fuel listed l L S Q := by
  by_cases hp : p
  · exact wa_at h hp (ht hp)
  · exact wa_af h hp (hf hp)
theorem cF {fuel : Nat} (hr : Region.ready .any ops listed = []) (h : E x l L S .normal Q) : WA x C m ops fuel listed l L S Q := fun a w ha hh => by
  cases fuel with
  | zero => exact ⟨hr, h a w ha hh⟩
  | succ n => exact ⟨fun _ => h a w ha hh, by rw [hr]; simp⟩
end
end Go.Proofs.YtnpdgmoeoidppaaGreat

/- Slices: one's own (they may grow), and such as are read alone. -/
namespace Go.Proofs.YtnpdgmoeoidppaaGreat
open Go.RowKit Go.Shelf
set_option linter.unusedVariables false
set_option linter.unusedSimpArgs false

def Ab : Option Addr → Nat
  | some a => a.block
  | none => 0
def Ao : Option Addr → Nat
  | some a => a.off
  | none => 0
/-- A row of a slice's own: n elements of sz cells each, room for c. -/
structure SlP (A : Option Addr) (n c : Nat) (e : TypeId) (sz : Nat) (cs : List Value) (w : World) : Prop where
  len : cs.length = n * sz
  one : ∀ u ∈ cs, u.oneCell' = true
  at_ : (A = none ∧ n = 0 ∧ c = 0) ∨ ∃ g cur fz, A = some ⟨g, 0, none⟩ ∧ w.heap[g]? = some (.cells cur e fz) ∧ n ≤ c ∧ c ≤ maxLen ∧ c * sz ≤ cur.size ∧ cur.toList.take (n * sz) = cs ∧ ∀ o, o < cur.size → ¬ (fz.1 ≤ o ∧ o < fz.2)
def Ch.sl (A : Option Addr) (n c : Nat) (e : TypeId) (sz : Nat) (cs : List Value) : Ch :=
  ⟨fun k => A.map (·.block) = some k, SlP A n c e sz cs, fun w w' h hk => ⟨h.len, h.one, h.at_.imp id fun ⟨g, cur, fz, hA, hg, r⟩ => ⟨g, cur, fz, hA, (hk g (by rw [hA]; rfl)).trans hg, r⟩⟩⟩
/-- A slice that is read alone. -/
structure RsP (A : Option Addr) (n sz : Nat) (cs : List Value) (w : World) : Prop where
  len : cs.length = n * sz
  one : ∀ u ∈ cs, u.oneCell' = true
  at_ : n = 0 ∨ ∃ b off, A = some ⟨b, off, none⟩ ∧ ∀ i, i < cs.length → w.cell? ⟨b, off + i, none⟩ = cs[i]?
def Ch.rs (A : Option Addr) (n sz : Nat) (cs : List Value) : Ch :=
  ⟨fun k => 0 < n ∧ A.map (·.block) = some k, RsP A n sz cs, fun w w' h hk => ⟨h.len, h.one, by
    rcases Nat.eq_zero_or_pos n with h0 | h0
    · exact .inl h0
    · refine h.at_.imp id fun ⟨b, off, hA, hc⟩ => ⟨b, off, hA, fun i hi => ?_⟩
      exact (World.cell?_of_block (hk b ⟨h0, by rw [hA]; rfl⟩)).trans (hc i hi)⟩⟩
theorem SlP.rs {A : Option Addr} {n c : Nat} {e : TypeId} {sz : Nat} {cs : List Value} {w : World} (h : SlP A n c e sz cs w) : RsP A n sz cs w :=
  ⟨h.len, h.one, by
    rcases h.at_ with ⟨rfl, rfl, rfl⟩ | ⟨g, cur, fz, rfl, hg, h1, h2, h3, h4, h5⟩
    · exact .inl rfl
    · refine .inr ⟨g, 0, rfl, fun i hi => ?_⟩
      rw [← h4] at hi ⊢
      have hi' : i < n * sz := by simp at hi; omega
      have hi2 : i < cur.size := by simp at hi; omega
      simp [World.cell?, hg, List.getElem?_take, hi']⟩
theorem SlP.nil (e : TypeId) (sz : Nat) (w : World) : SlP none 0 0 e sz [] w := ⟨by simp, (by simp), .inl ⟨rfl, rfl, rfl⟩⟩
theorem Hp.nilsl {ok0 : Nat → Prop} {w0 : World} {L S : List Ch} {w : World} (e : TypeId) (sz : Nat) (h : Hp ok0 w0 L S w) : Hp ok0 w0 (Ch.sl none 0 0 e sz [] :: L) S w :=
  h.fresh (Upd.refl _ _) _ (SlP.nil e sz w) (fun b hb => by cases hb) (fun b hb => by cases hb)
/-- A row known whole as a slice of one's own. -/
theorem SlP.new {w : World} {g : Nat} {cur : Array Value} {fz : Nat × Nat} {n c : Nat} {e : TypeId} {sz : Nat} {cs : List Value} (hg : w.heap[g]? = some (.cells cur e fz)) (hl : cs.length = n * sz) (h1 : ∀ u ∈ cs, u.oneCell' = true) (hn : n ≤ c) (hc : c ≤ maxLen) (hs : c * sz ≤ cur.size)
    (ht : cur.toList.take (n * sz) = cs) (hf : ∀ o, o < cur.size → ¬ (fz.1 ≤ o ∧ o < fz.2)) : SlP (some ⟨g, 0, none⟩) n c e sz cs w := ⟨hl, h1, .inr ⟨g, cur, fz, rfl, hg, hn, hc, hs, ht, hf⟩⟩

section
variable {x : Cx} {l : Fr} {L S : List Ch} {Q : Exit → Act → World → Prop} {ops : Array Oper} {rest : List Oper} {d : Nat} {ty : TypeId} {pos : String} {af : Array Edge} {gd : Option (Nat × Bool)}

theorem RsP.addr {A : Option Addr} {n sz : Nat} {cs : List Value} {w : World} (h : RsP A n sz cs w) (hn : 0 < n) : A = some ⟨Ab A, Ao A, none⟩ ∧ ∀ i, i < cs.length → w.cell? ⟨Ab A, Ao A + i, none⟩ = cs[i]? := by
  rcases h.at_ with h0 | ⟨b, off, rfl, hc⟩
  · omega
  · exact ⟨rfl, hc⟩
/-- The place of an element. -/
theorem y_ix {y z : Operand} {A : Option Addr} {n c k : Nat} {cs : List Value} {i : Int} {k0 : IntKind} {t e : TypeId} {agg : Bool} {sz bytes : Nat} {zv : Value} (h1 : x.P.underlying t = some (.slice e)) (he : TyI x.P e agg sz bytes zv) (hy : ev l y = some (.slice A n c)) (hz : ev l z = some (.int k0 i))
    (hr : ∀ w, Hp x.ok0 x.w0 L S w → RsP A n sz cs w) (hk : i = (k : Int)) (hlt : k < n) : Yv x l L S ⟨some d, .indexAddr t y z, ty, pos, af, gd⟩ (.pointer (some ⟨Ab A, Ao A + k * sz, none⟩)) := fun a w ha hw => by
  have hA := ((hr w hw).addr (by omega)).1
  rw [hA] at hy
  exact y_indexAddr h1 he hy hz hk hlt a w ha hw
theorem dL {A : Option Addr} {n c : Nat} {e : TypeId} {sz : Nat} {cs : List Value} (i : Nat) (h : L[i]? = some (Ch.sl A n c e sz cs)) : ∀ w, Hp x.ok0 x.w0 L S w → RsP A n sz cs w := fun w hw => SlP.rs (hw.own _ (List.mem_of_getElem? h))
theorem bF {A : Option Addr} {n sz : Nat} {cs : List Value} (i : Nat) (h : S[i]? = some (Ch.rs A n sz cs)) : ∀ w, Hp x.ok0 x.w0 L S w → RsP A n sz cs w := fun w hw => hw.sh _ (List.mem_of_getElem? h)
/-- What lies there. -/
theorem y_ld {t : TypeId} {sz' bytes : Nat} {z : Value} {y : Operand} {A : Option Addr} {n sz k f : Nat} {cs : List Value} {v : Value} (ht : TyI x.P t false sz' bytes z) (hy : ev l y = some (.pointer (some ⟨Ab A, Ao A + k * sz + f, none⟩))) (hr : ∀ w, Hp x.ok0 x.w0 L S w → RsP A n sz cs w) (hn : k < n) (hv : cs[k * sz + f]? = some v) :
    Yv x l L S ⟨some d, .load t y, ty, pos, af, gd⟩ v :=
  y_load ht hy (fun w hw => by
    have h := hr w hw
    have := (h.addr (by omega)).2 (k * sz + f) (List.getElem?_eq_some_iff.1 hv).1
    rw [← Nat.add_assoc] at this
    rw [this]; exact hv)
theorem y_lds {t : TypeId} {m bytes : Nat} {z : Value} {y : Operand} {A : Option Addr} {n sz k f : Nat} {cs vs : List Value} (ht : TyI x.P t true m bytes z) (hy : ev l y = some (.pointer (some ⟨Ab A, Ao A + k * sz + f, none⟩))) (hr : ∀ w, Hp x.ok0 x.w0 L S w → RsP A n sz cs w) (hn : k < n) (hv : (cs.drop (k * sz + f)).take m = vs) (hl : vs.length = m) :
    Yv x l L S ⟨some d, .load t y, ty, pos, af, gd⟩ (.agg vs.toArray) :=
  y_loads ht hy hl (fun w hw j u hj => by
    have h := hr w hw
    rw [← hv] at hj
    have hlt : j < m := by have := (List.getElem?_eq_some_iff.1 hj).1; simp at this; omega
    have hj2 : cs[k * sz + f + j]? = some u := by simpa [List.getElem?_take, hlt] using hj
    have := (h.addr (by omega)).2 (k * sz + f + j) (List.getElem?_eq_some_iff.1 hj2).1
    rw [show Ao A + k * sz + f + j = Ao A + (k * sz + f + j) by omega, this]; exact hj2)

theorem iU {w : World} {g : Nat} {cur : Array Value} {e : TypeId} {fz : Nat × Nat} (hg : w.heap[g]? = some (.cells cur e fz)) (hf : ∀ o, o < cur.size → ¬ (fz.1 ≤ o ∧ o < fz.2)) {o : Nat} (ho : o < cur.size) : w.frozen? ⟨g, o, none⟩ = false := by
  obtain ⟨lo, hi⟩ := fz
  have := hf o ho
  simp [World.frozen?, hg]
  omega
theorem eR {g : Nat} {e : TypeId} {fz : Nat × Nat} : ∀ (vs : List Value) (o : Nat) (w : World) (cur : Array Value), w.heap[g]? = some (.cells cur e fz) → o + vs.length ≤ cur.size →
    ∃ cur', (w.setCells g o vs).heap[g]? = some (.cells cur' e fz) ∧ cur'.toList = cur.toList.take o ++ vs ++ cur.toList.drop (o + vs.length) ∧ Upd (fun k => k = g) w (w.setCells g o vs)
  | [], o, w, cur, hg, _ => ⟨cur, hg, by simp, Upd.refl _ _⟩
  | v :: r, o, w, cur, hg, hl => by
    have hlt : o < cur.size := by simp at hl; omega
    have h1 : (w.setCell ⟨g, o, none⟩ v).heap[g]? = some (.cells (cur.setIfInBounds o v) e fz) := by
      obtain ⟨hlt', hk⟩ := Array.getElem?_eq_some_iff.1 hg
      show (w.heap.modify g _)[g]? = _
      rw [Array.getElem?_eq_getElem (by rw [Array.size_modify]; exact hlt'), Array.getElem_modify_self, hk]
      rfl
    obtain ⟨cur', h2, h3, h4⟩ := eR r (o + 1) (w.setCell ⟨g, o, none⟩ v) (cur.setIfInBounds o v) h1 (by simp at hl ⊢; omega)
    refine ⟨cur', h2, ?_, (Upd.setCell w ⟨g, o, none⟩ v).trans h4 (fun _ _ h => h)⟩
    rw [h3]
    simp only [Array.toList_setIfInBounds, List.length_cons]
    rw [List.take_set, List.drop_set_of_lt (by omega)]
    have : List.take (o + 1) cur.toList = List.take o cur.toList ++ [cur[o]] := by
      rw [List.take_succ_eq_append_getElem (by simpa using hlt)]; rfl
    rw [this, List.set_append_right _ _ (by simp; omega)]
    simp
    rw [show o - min o cur.size = 0 by omega, List.set_cons_zero]
    simp [show o + 1 + r.length = o + (r.length + 1) by omega]
/-- A store into an element of one's own. -/
theorem o_stl {t e : TypeId} {agg : Bool} {m bytes : Nat} {z : Value} {y u : Operand} {A : Option Addr} {n c sz k f : Nat} {cs vs cs' : List Value} {v : Value} {L' : List Ch} {i : Nat} (ht : TyI x.P t agg m bytes z) (hy : ev l y = some (.pointer (some ⟨Ab A, Ao A + k * sz + f, none⟩))) (hu : ev l u = some v) (hvs : v.cells = vs.toArray)
    (hi : SetAt L i (Ch.sl A n c e sz cs) (Ch.sl A n c e sz cs') L') (hl : vs.length = m) (hn : k < n) (hf : f + m ≤ sz) (hcs : cs.take (k * sz + f) ++ vs ++ cs.drop (k * sz + f + m) = cs') (hone : vs.all Value.oneCell' = true)
    (kk : WL x l L' S ops rest Q) : WL x l L S ops (⟨none, .store t y u, ty, pos, af, none⟩ :: rest) Q :=
  wl_unit rfl rfl (fun _ => nofun) (fun a w ha hw => by
    have hP : SlP A n c e sz cs w := hw.own _ hi.mem
    rcases hP.at_ with ⟨_, h0, _⟩ | ⟨g, cur, fz, rfl, hg, h1, h2, h3, h4, h5⟩
    · omega
    · have hfit : k * sz + f + m ≤ n * sz := by
        have : (k + 1) * sz ≤ n * sz := Nat.mul_le_mul_right _ hn
        rw [Nat.add_mul, Nat.one_mul] at this; omega
      have hcs2 : n * sz ≤ cur.size := Nat.le_trans (Nat.mul_le_mul_right _ h1) h3
      have hst := run_storeCells_cells (P := x.P) g (k * sz + f) vs 0 w (fun j hj => by simp [World.cell?, hg]; omega) (fun j hj => iU hg h5 (by omega)) (List.all_eq_true.1 hone)
      simp only [Nat.add_zero] at hst
      obtain ⟨cur', e1, e2, e3⟩ := eR vs (k * sz + f) w cur hg (by omega)
      refine ⟨_, ?_, hw.upd hi (e3.mono (fun k _ hk => by rw [hk]; rfl)) ?_ (fun b hb => .inl hb)⟩
      · have hs : v.cells.size = m := by rw [hvs]; simpa using hl
        have hy' : a.eval y = .pointer (some ⟨g, k * sz + f, none⟩) := by
          have := ha.ev hy
          simp only [Ab, Ao, Nat.zero_add] at this
          exact this
        simp [execOp, hy', ha.ev hu, Instr.storeAt, Instr.sureAddr, storeVar, ht.size, hs]
        rw [hvs, List.toList_toArray, hst]; rfl
      · have hlen : cs'.length = n * sz := by
          rw [← hcs]; simp [hP.len]; omega
        refine ⟨hlen, ?_, .inr ⟨g, cur', fz, rfl, e1, h1, h2, ?_, ?_, ?_⟩⟩
        · intro q hq
          rw [← hcs] at hq
          simp only [List.mem_append] at hq
          rcases hq with (hq | hq) | hq
          · exact hP.one q (List.mem_of_mem_take hq)
          · exact List.all_eq_true.1 hone q hq
          · exact hP.one q (List.mem_of_mem_drop hq)
        · have : cur'.size = cur.size := by
            have := congrArg List.length e2
            simp at this; omega
          omega
        · rw [e2, ← hcs, ← h4]
          rw [List.take_append, List.take_append]
          simp only [List.length_take, List.length_append, Array.length_toList, List.take_take, List.drop_take]
          rw [show min (k * sz + f) cur.size = k * sz + f by omega, show min (n * sz) (k * sz + f) = k * sz + f by omega, show min (k * sz + f) (n * sz) = k * sz + f by omega, List.take_of_length_le (l := vs) (by omega), List.take_drop]
          rw [show k * sz + f + vs.length + (n * sz - (k * sz + f + vs.length)) = n * sz by omega, hl, List.drop_take]
        · intro o ho
          have : cur'.size = cur.size := by
            have := congrArg List.length e2
            simp at this; omega
          exact h5 o (by omega)) kk
end
end Go.Proofs.YtnpdgmoeoidppaaGreat
