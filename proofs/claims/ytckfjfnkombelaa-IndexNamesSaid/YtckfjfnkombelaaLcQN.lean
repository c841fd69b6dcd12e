/- Calls, a function's beginning and end, loops. -/
import Derived.Test.YtckfjfnkombelaaLbQN
namespace Go.Proofs.Ytckfjfnkombelaa
open Go.RowKit Go.Shelf
set_option linter.unusedVariables false

/-- What the callers are told of a call that hands back plain values and turns nothing. -/
def Pure (P : Program) (f : FuncId) (args : Array Value) (v : Value) : Prop := ∀ w, Calls P f args w fun e w' => e = .returned v ∧ Upd no w w'

theorem calls_mono {P : Program} {f : FuncId} {args : Array Value} {w : World} {R R' : Ending → World → Prop} (h : Calls P f args w R) (hr : ∀ e w', R e w' → R' e w') : Calls P f args w R' :=
  fun cs => let ⟨e, w', fr, r, s⟩ := h cs; ⟨e, w', fr, hr _ _ r, s⟩

section calls
variable {x : Cx} {l : Fr} {L S : List Ch} {Q : Exit → Act → World → Prop} {ops : Array Oper} {rest : List Oper} {d : Nat} {ty : TypeId} {pos : String} {af : Array Edge}

theorem in_of_calls {P : Program} {ro : Option Nat} {f : FuncId} {args : Array Value} {w : World} {R : Ending → World → Prop} (h : Calls P f args w R) : CallsIn (fw ro) 0 P f args w R := by
  have := (callsIn_wide (n := 0)).2 h
  exact this

/-- A call of a function value that leads to f. -/
theorem o_callx {dst : Option Nat} {g : Operand} {ys : List Operand} {tys : Array TypeId} {f : Nat} {first cap : Array Value} {vs : List Value} {args : Array Value} {α : Type} (V : α → Value) (l' : α → Fr) (L' S' : α → List Ch)
    (hg : ev l g = some (.func (.func f) first cap)) (has : evs l ys = some vs) (hargs : first ++ vs.toArray ++ cap = args) (hen : Enters x.P f) (hl : ∀ o a, Kn x.N x.ds l a → Kn x.N x.ds (l' o) (a.put dst (V o)))
    (hc : ∀ w, Hp x.ok0 x.w0 L S w → Calls x.P f args w fun e w' => ∃ o, e = .returned (V o) ∧ Hp x.ok0 x.w0 (L' o) (S' o) w')
    (k : ∀ o, WL x (l' o) (L' o) (S' o) ops rest Q) : WL x l L S ops (⟨dst, .call { callee := .value g, args := ys.toArray, argTypes := tys }, ty, pos, af, none⟩ :: rest) Q :=
  wl_core rfl (fun _ => nofun) fun a w ha hw => by
    have e : (execOp a.eval ⟨dst, .call { callee := .value g, args := ys.toArray, argTypes := tys }, ty, pos, af, none⟩).run x.P w = .ok (.enter f args) w := by
      have e1 : (ys.map a.eval) = vs := ha.evs has
      simp [execOp, resolve, ha.ev hg, Deferred.ofValue, e1, invoke]
      rw [← Array.append_assoc, hargs, hen args w]
    rw [e]
    refine ⟨fun h => by simp [fw_dep] at h, in_of_calls (calls_mono (hc w hw) ?_)⟩
    rintro e w' ⟨o, rfl, hw'⟩
    exact k o _ _ (hl o a ha) hw'
theorem o_callf {g : Nat} {ys : List Operand} {tys : Array TypeId} {vs : List Value} {α : Type} (V : α → Value) (L' S' : α → List Ch) (has : evs l ys = some vs) (hen : Enters x.P g) (hN : Nat.blt d x.N = true)
    (hc : ∀ w, Hp x.ok0 x.w0 L S w → Calls x.P g vs.toArray w fun e w' => ∃ o, e = .returned (V o) ∧ Hp x.ok0 x.w0 (L' o) (S' o) w')
    (k : ∀ o, WL x ((d, V o) :: l) (L' o) (S' o) ops rest Q) : WL x l L S ops (⟨some d, .call { callee := .value (.func g), args := ys.toArray, argTypes := tys }, ty, pos, af, none⟩ :: rest) Q :=
  o_callx V (fun o => (d, V o) :: l) L' S' rfl has (by simp) hen (fun o a ha => ha.put (Nat.le_of_ble_eq_true hN) _) hc k
theorem o_callp {g : Nat} {ys : List Operand} {tys : Array TypeId} {vs : List Value} {v : Value} (has : evs l ys = some vs) (hen : Enters x.P g) (hc : Pure x.P g vs.toArray v) (hN : Nat.blt d x.N = true)
    (k : WL x ((d, v) :: l) L S ops rest Q) : WL x l L S ops (⟨some d, .call { callee := .value (.func g), args := ys.toArray, argTypes := tys }, ty, pos, af, none⟩ :: rest) Q :=
  o_callf (fun _ : Unit => v) (fun _ => L) (fun _ => S) has hen hN (fun w hw => calls_mono (hc w) fun e w' ⟨he, hu⟩ => ⟨(), he, hw.ext hu⟩) (fun _ => k)
/-- .. of a function value. -/
theorem o_callv {g : Operand} {f : Nat} {first cap : Array Value} {ys : List Operand} {tys : Array TypeId} {vs : List Value} {args : Array Value} {α : Type} (V : α → Value) (L' S' : α → List Ch) (hg : ev l g = some (.func (.func f) first cap)) (has : evs l ys = some vs)
    (hargs : first ++ vs.toArray ++ cap = args) (hen : Enters x.P f) (hN : Nat.blt d x.N = true)
    (hc : ∀ w, Hp x.ok0 x.w0 L S w → Calls x.P f args w fun e w' => ∃ o, e = .returned (V o) ∧ Hp x.ok0 x.w0 (L' o) (S' o) w')
    (k : ∀ o, WL x ((d, V o) :: l) (L' o) (S' o) ops rest Q) : WL x l L S ops (⟨some d, .call { callee := .value g, args := ys.toArray, argTypes := tys }, ty, pos, af, none⟩ :: rest) Q :=
  o_callx V (fun o => (d, V o) :: l) L' S' hg has hargs hen (fun o a ha => ha.put (Nat.le_of_ble_eq_true hN) _) hc k
theorem o_callvp {g : Operand} {f : Nat} {first cap : Array Value} {ys : List Operand} {tys : Array TypeId} {vs : List Value} {args : Array Value} {v : Value} (hg : ev l g = some (.func (.func f) first cap)) (has : evs l ys = some vs)
    (hargs : first ++ vs.toArray ++ cap = args) (hen : Enters x.P f) (hc : Pure x.P f args v) (hN : Nat.blt d x.N = true)
    (k : WL x ((d, v) :: l) L S ops rest Q) : WL x l L S ops (⟨some d, .call { callee := .value g, args := ys.toArray, argTypes := tys }, ty, pos, af, none⟩ :: rest) Q :=
  o_callv (fun _ : Unit => v) (fun _ => L) (fun _ => S) hg has hargs hen hN (fun w hw => calls_mono (hc w) fun e w' ⟨he, hu⟩ => ⟨(), he, hw.ext hu⟩) (fun _ => k)
end calls

/-! A function's beginning, its end. -/
/-- No panic. -/
def np (Q : Exit → Act → World → Prop) : Exit → Act → World → Prop
  | .panic _, _, _ => False
  | e, a, w => Q e a w
theorem np_sub {Q : Exit → Act → World → Prop} : ∀ e a w, np Q e a w → Q e a w
  | .panic _, _, _, h => h.elim
  | .normal, _, _, h => h
  | .ret, _, _, h => h
  | .exit _, _, _, h => h
  | .goto _, _, _, h => h
  | .outgrown, _, _, h => h
def frm (i : Nat) : List Value → Fr
  | [] => []
  | v :: r => (i, v) :: frm (i + 1) r
theorem kn_frm (args : Array Value) (n : Nat) (vs : List Value) : ∀ i, (∀ j v, vs[j]? = some v → args[i + j]? = some v) → ∀ t v, look (frm i vs) t = some v → (args ++ Array.replicate n undef)[t]? = some v := by
  induction vs with
  | nil => intro i _ t v h; cases h
  | cons u r ih =>
    intro i h t v ht
    simp only [frm, look] at ht
    cases e : Nat.beq i t with
    | true =>
      rw [e] at ht; cases ht
      have := Nat.eq_of_beq_eq_true e; subst this
      have h0 := h 0 u rfl
      rw [Nat.add_zero] at h0
      rw [Array.getElem?_append_left (Array.getElem?_eq_some_iff.1 h0).1]
      exact h0
    | false =>
      rw [e] at ht
      exact ih (i + 1) (fun j v hj => by have := h (j + 1) v (by simpa using hj); rwa [show i + 1 + j = i + (j + 1) by omega]) t v ht
/-- A function's contract out of its body's walk (no range over a function in it). -/
theorem calls_of_W {P : Program} {f : FuncId} {fn : Func} {c : Code} {args : List Value} {w : World} {R : Ending → World → Prop} {ok0 : Nat → Prop} {S : List Ch} (N : Nat) (hf : P.funcs[f]? = some fn) (hb : fn.body = some c) (hn : fn.ntmps = N) (hN : Nat.ble args.length N = true)
    (hS : ∀ s ∈ S, s.P w) (hlt : ∀ s ∈ S, ∀ b, s.ok b → b < w.heap.size)
    (h : W ⟨P, none, N, [], ok0, w⟩ (frm 0 args) [] S c (np (bodyPost P fn R))) : Calls P f args.toArray w R := by
  refine (callsIn_wide (n := 0)).1 (callsIn_of_wp hf hb trivial ?_)
  refine Code.wpIn_mono np_sub (h _ w ⟨?_, rfl, ?_⟩ (Hp.start _ S w hS hlt))
  · have := Nat.le_of_ble_eq_true hN
    simp [hn]; omega
  · exact kn_frm _ _ args 0 (fun j v hj => by simpa using hj)
/-- .. where it holds one. -/
theorem calls_of_WM {P : Program} {f : FuncId} {fn : Func} {c : Code} {args : List Value} {w : World} {R : Ending → World → Prop} {ok0 : Nat → Prop} {S : List Ch} (N : Nat) (hf : P.funcs[f]? = some fn) (hb : fn.body = some c) (hn : fn.ntmps = N) (hN : Nat.ble args.length N = true)
    (hS : ∀ s ∈ S, s.P w) (hlt : ∀ s ∈ S, ∀ b, s.ok b → b < w.heap.size)
    (h : W ⟨P, none, N, [], ok0, w⟩ (frm 0 args) [] S c (np (bodyPostM (fw none) 0 P fn R))) : Calls P f args.toArray w R := by
  refine (callsIn_wide (n := 0)).1 (callsIn_of_wp_marks hf hb trivial ?_)
  refine Code.wpIn_mono np_sub (h _ w ⟨?_, rfl, ?_⟩ (Hp.start _ S w hS hlt))
  · have := Nat.le_of_ble_eq_true hN
    simp [hn]; omega
  · exact kn_frm _ _ args 0 (fun j v hj => by simpa using hj)

def looks (l : Fr) : List Nat → Option (List Value)
  | [] => some []
  | t :: r => match look l t with
    | some v => match looks l r with
      | some vs => some (v :: vs)
      | none => none
    | none => none
theorem Kn.looks {N : Nat} {ds : List Deferred} {l : Fr} {a : Act} (h : Kn N ds l a) : ∀ {ts : List Nat} {vs : List Value}, looks l ts = some vs → ts.map (fun t => a.tmps.getD t undef) = vs
  | [], vs, e => by cases e; rfl
  | t :: r, vs, e => by
    simp only [Go.Proofs.Ytckfjfnkombelaa.looks] at e
    split at e
    · rename_i v hv
      split at e
      · rename_i us hus
        cases e
        rw [List.map_cons, h.looks hus]
        simp [h.kn t v hv]
      · cases e
    · cases e
/-- Several results (or none), one result. -/
def resV : List Value → Value
  | [v] => v
  | vs => .tuple vs.toArray
theorem run_results {fn : Func} {ts : List Nat} {vs : List Value} {N : Nat} {ds : List Deferred} {l : Fr} {a : Act} (hr : fn.results = (ts.map ResultVar.tmp).toArray) (ha : Kn N ds l a) (hv : looks l ts = some vs) (P : Program) (w : World) :
    (results fn a.tmps).run P w = .ok (resV vs) w := by
  have e := ha.looks hv
  have key : ∀ (f : ResultVar → Sem Value), (∀ t, f (.tmp t) = pure (a.tmps.getD t undef)) → ∀ ts : List Nat, ((ts.map ResultVar.tmp).mapM f).run P w = .ok (ts.map (fun t => a.tmps.getD t undef)) w := by
    intro f hf ts
    induction ts with
    | nil => rfl
    | cons t r ih =>
      rw [List.map_cons, List.mapM_cons, hf]
      simp only [Sem.run_bind, Sem.run_pure, Result.andThen_ok, ih]
      rfl
  unfold results
  rw [hr, Sem.run_bind, List.mapM_toArray, Sem.run_map, key _ (fun _ => rfl) ts, e]
  simp only [Result.andThen_ok, Sem.run_pure]
  congr 1
  match vs with
  | [] => simp [resV]
  | [v] => simp [resV]
  | v :: u :: r => simp [resV]
section ends
variable {x : Cx} {l : Fr} {L S : List Ch}
theorem e_ret {fn : Func} {R : Ending → World → Prop} {ts : List Nat} {vs : List Value} (hr : fn.results = (ts.map ResultVar.tmp).toArray) (hv : looks l ts = some vs) (hd : x.ds = [])
    (h : ∀ w, Hp x.ok0 x.w0 L S w → R (.returned (resV vs)) w) : E x l L S .ret (np (bodyPost x.P fn R)) := fun _ w ha hw =>
  ⟨ha.df.trans hd, _, run_results hr ha hv x.P w, h w hw⟩
theorem e_end {fn : Func} {R : Ending → World → Prop} {ts : List Nat} {vs : List Value} (hr : fn.results = (ts.map ResultVar.tmp).toArray) (hv : looks l ts = some vs) (hd : x.ds = [])
    (h : ∀ w, Hp x.ok0 x.w0 L S w → R (.returned (resV vs)) w) : E x l L S .normal (np (bodyPost x.P fn R)) := fun _ w ha hw =>
  ⟨ha.df.trans hd, _, run_results hr ha hv x.P w, h w hw⟩
/-! Loops. -/
/-- What is known of the slots but those of 'ts', each once. -/
def keep (ts : List Nat) : Fr → Fr
  | [] => []
  | (k, v) :: r => match ts.elem k with
    | true => keep ts r
    | false => (k, v) :: keep (k :: ts) r
theorem look_keep : ∀ {l : Fr} {ts : List Nat} {t : Nat} {v : Value}, look (keep ts l) t = some v → look l t = some v ∧ ts.elem t = false
  | [], _, _, _, h => by cases h
  | (k, u) :: r, ts, t, v, h => by
    simp only [keep] at h
    simp only [look]
    cases e : ts.elem k with
    | true =>
      rw [e] at h
      have h' := look_keep h
      cases e2 : Nat.beq k t with
      | true => have := Nat.eq_of_beq_eq_true e2; subst this; rw [e] at h'; cases h'.2
      | false => exact h'
    | false =>
      rw [e] at h
      simp only [look] at h
      cases e2 : Nat.beq k t with
      | true => rw [e2] at h; have := Nat.eq_of_beq_eq_true e2; subst this; exact ⟨h, e⟩
      | false =>
        rw [e2] at h
        have h' := look_keep h
        refine ⟨h'.1, ?_⟩
        have := h'.2
        simp only [List.elem] at this
        split at this
        · cases this
        · exact this
theorem look_append {p q : Fr} {t : Nat} {v : Value} : look (p ++ q) t = some v → look p t = some v ∨ (look p t = none ∧ look q t = some v) := by
  induction p with
  | nil => exact fun h => .inr ⟨rfl, h⟩
  | cons c r ih =>
    obtain ⟨k, u⟩ := c
    intro h
    simp only [List.cons_append, look] at h ⊢
    cases e : Nat.beq k t with
    | true => rw [e] at h; exact .inl h
    | false => rw [e] at h; exact ih h
theorem knows_append {l p q : Fr} (hp : Knows l p) (hq : Knows l q) : ∀ t v, look (p ++ q) t = some v → look l t = some v := fun t v h => by
  rcases look_append h with h | ⟨_, h⟩
  · exact hp.look t v h
  · exact hq.look t v h
def Ql (x : Cx) {σ : Type} (I : σ → Prop) (lf : σ → Fr) (Lf Sf : σ → List Ch) (l1 : Fr) (lt : σ → Prop) (Q : Exit → Act → World → Prop) : Exit → Act → World → Prop :=
  Exit.then (fun a w => ∃ g, I g ∧ lt g ∧ Kn x.N x.ds (lf g ++ l1) a ∧ Hp x.ok0 x.w0 (Lf g) (Sf g) w) Q
theorem wpIn_loopG {F : Fence} {n : Nat} {P : Program} {Q : Exit → Act → World → Prop} {a : Act} {w : World} {c : Code} {σ : Type} (I : σ → Act → World → Prop) (μ : σ → Nat) (g0 : σ) (h₀ : I g0 a w)
    (round : ∀ g a w, I g a w → c.wpIn F n P (Exit.then (fun a' w' => ∃ g', μ g' < μ g ∧ I g' a' w') Q) a w) : (Code.loop c).wpIn F n P Q a w := by
  intro b k cs hro hb hr
  have key : ∀ j g a w, μ g = j → I g a w →
      ∃ e a' w', Q e a' w' ∧ ArrivesIn (Machine.fenced P F) P (lone (b.atR a (.code c :: .inLoop c :: k)) cs w) b k cs e a' w' := by
    intro j
    induction j using Nat.strongRecOn with
    | _ j ih =>
      intro g a w hn hI
      obtain ⟨e, a₁, w₁, hq, harr⟩ := round g a w hI b (.inLoop c :: k) cs hro hb hr
      cases e with
      | normal =>
        obtain ⟨g', hlt, hI₁⟩ := hq
        obtain ⟨e₂, a₂, w₂, hq₂, harr₂⟩ := ih (μ g') (hn ▸ hlt) g' a₁ w₁ rfl hI₁
        exact ⟨e₂, a₂, w₂, hq₂, .of_steps (StepsIn.trans harr (.one (fenced_calm hb hr rfl) stepR_inLoop)) harr₂⟩
      | exit id => exact ⟨_, a₁, w₁, hq, .pass (x := .inLoop c) rfl (fun _ _ => .inl (by simp)) harr⟩
      | goto l => exact ⟨_, a₁, w₁, hq, .pass (x := .inLoop c) rfl (fun _ _ => .inl (by simp)) harr⟩
      | ret => exact ⟨_, a₁, w₁, hq, .pass (x := .inLoop c) rfl (fun _ _ => .inl (by simp)) harr⟩
      | panic ch => exact ⟨_, a₁, w₁, hq, .pass (x := .inLoop c) rfl (fun _ _ => .inl (by simp)) harr⟩
      | outgrown => exact ⟨_, a₁, w₁, hq, .pass (x := .inLoop c) rfl (fun _ _ => .inl (by simp)) harr⟩
  obtain ⟨e, a', w', hq, harr⟩ := key _ g0 a w rfl h₀
  exact ⟨e, a', w', hq, .of_steps (.one (fenced_calm hb hr rfl) stepR_loop) harr⟩
theorem w_loop {c : Code} {Q : Exit → Act → World → Prop} {σ : Type} (ts : List Nat) (I : σ → Prop) (μ : σ → Nat) (lf : σ → Fr) (Lf Sf : σ → List Ch) (g0 : σ) (h0 : I g0) (hk : Knows l (lf g0)) (hh : ∀ w, Hp x.ok0 x.w0 L S w → Hp x.ok0 x.w0 (Lf g0) (Sf g0) w)
    (body : ∀ g, I g → W x (lf g ++ keep ts l) (Lf g) (Sf g) c (Ql x I lf Lf Sf (keep ts l) (fun g' => μ g' < μ g) Q)) : W x l L S (.loop c) Q := fun a w ha hw => by
  refine wpIn_loopG (fun g a w => I g ∧ Kn x.N x.ds (lf g ++ keep ts l) a ∧ Hp x.ok0 x.w0 (Lf g) (Sf g) w) μ g0 ⟨h0, ha.mono fun t v h => ?_, hh w hw⟩ ?_
  · rcases look_append h with h | ⟨_, h⟩
    · exact hk.look t v h
    · exact (look_keep h).1
  · rintro g a w ⟨hI, ha, hw⟩
    refine Code.wpIn_mono ?_ (body g hI a w ha hw)
    intro e a' w' h
    cases e with
    | normal => obtain ⟨g', h1, h2, h3, h4⟩ := h; exact ⟨g', h2, h1, h3, h4⟩
    | _ => exact h
/-- The round goes on. -/
theorem e_back {Q : Exit → Act → World → Prop} {σ : Type} {I : σ → Prop} {lf : σ → Fr} {Lf Sf : σ → List Ch} {l1 : Fr} {lt : σ → Prop} (g : σ) (h1 : I g) (h2 : lt g) (hk : Knows l (lf g)) (hk1 : Knows l l1) (hh : ∀ w, Hp x.ok0 x.w0 L S w → Hp x.ok0 x.w0 (Lf g) (Sf g) w) :
    E x l L S .normal (Ql x I lf Lf Sf l1 lt Q) := fun _ w ha hw => ⟨g, h1, h2, ha.mono (knows_append hk hk1), hh w hw⟩
theorem e_loop_exit {Q : Exit → Act → World → Prop} {σ : Type} {I : σ → Prop} {lf : σ → Fr} {Lf Sf : σ → List Ch} {l1 : Fr} {lt : σ → Prop} {id : Nat} (h : E x l L S (.exit id) Q) : E x l L S (.exit id) (Ql x I lf Lf Sf l1 lt Q) := h
theorem e_loop_ret {Q : Exit → Act → World → Prop} {σ : Type} {I : σ → Prop} {lf : σ → Fr} {Lf Sf : σ → List Ch} {l1 : Fr} {lt : σ → Prop} (h : E x l L S .ret Q) : E x l L S .ret (Ql x I lf Lf Sf l1 lt Q) := h
end ends
end Go.Proofs.Ytckfjfnkombelaa
