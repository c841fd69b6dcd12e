/- A range over a function: iterators' contracts, calls of yield, the statement. -/
import Derived.Test.YtckfjfnkombelaaLfQN
namespace Go.Proofs.Ytckfjfnkombelaa
open Go.RowKit Go.Shelf
set_option linter.unusedVariables false
set_option linter.unusedSimpArgs false

/-- A round, as the iterator's own walk meets it: chunk C g turns to some C g'. -/
def Yd (P : Program) (lr : Nat) (args : Array Value) (Sc : List Ch) {σ : Type} (C : σ → Ch) (g : σ) (It Ix : σ → Prop) : Prop :=
  ∀ W1, (C g).P W1 → (∀ b, (C g).ok b → b < W1.heap.size) → Rd Sc W1 → (∀ s ∈ Sc, ∀ b, (C g).ok b → ¬ s.ok b) →
    YieldAt (fw none) 0 P lr args W1 fun e W' => ∃ g', Upd (C g).ok W1 W' ∧ (C g').P W' ∧ (∀ b, (C g').ok b → (C g).ok b ∨ (W1.heap.size ≤ b ∧ b < W'.heap.size)) ∧
      ((e = .returned (.bool true) ∧ It g') ∨ (e = .returned (.bool false) ∧ Ix g'))
/-- The function gf, with what its closure holds, is an iterator: it yields each of xs, one behind the other, and stops where it is told so. -/
def Iter (P : Program) (gf : FuncId) (lb : List Value) (Sx : List Ch) {α : Type} (enc : α → List Value) (xs : List α) : Prop :=
  ∀ (lr : Nat) (σ : Type) (I Ix : List α → σ → Prop) (C : σ → Ch) (Sc : List Ch),
    (∀ pre x post g, xs = pre ++ x :: post → I pre g → Yd P lr (enc x).toArray Sc C g (I (pre ++ [x])) (Ix (pre ++ [x]))) →
    ∀ g, I [] g → UC P gf (.func (.yield lr) #[] #[] :: lb).toArray (Sx ++ Sc) (C g)
      (fun o : {p : Value × σ // I xs p.2 ∨ ∃ pre post, xs = pre ++ post ∧ Ix pre p.2} => o.1.1) (fun o => C o.1.2)

section
variable {x : Cx} {l : Fr} {L S : List Ch} {Q : Exit → Act → World → Prop} {ops : Array Oper} {rest : List Oper} {d : Nat} {ty : TypeId} {pos : String} {af : Array Edge}
/-- A call of yield. -/
theorem o_yield {gop : Operand} {ys : List Operand} {tys : Array TypeId} {vs : List Value} {lr i : Nat} {Sc : List Ch} {σ : Type} {C : σ → Ch} {g : σ} {It Ix : σ → Prop} {L' : σ → List Ch} (hg : ev l gop = some (.func (.yield lr) #[] #[])) (has : evs l ys = some vs)
    (hy : Yd x.P lr vs.toArray Sc C g It Ix) (hi : ∀ g', SetAt L i (C g) (C g') (L' g')) (hr : ∀ s ∈ Sc, s ∈ S) (hN : Nat.blt d x.N = true)
    (kt : ∀ g', It g' → WL x ((d, .bool true) :: l) (L' g') S ops rest Q) (kf : ∀ g', Ix g' → WL x ((d, .bool false) :: l) (L' g') S ops rest Q) :
    WL x l L S ops (⟨some d, .call { callee := .value gop, args := ys.toArray, argTypes := tys }, ty, pos, af, none⟩ :: rest) Q :=
  wl_core rfl (fun _ => nofun) fun a w ha hw => by
    have hm := (hi g).mem
    obtain ⟨fn, tmps, assign, body, h1, h2⟩ := hy w (hw.own _ hm) (hw.lt _ hm) (fun s hs => hw.rdS (hr s hs)) (fun s hs => hw.sdj s (hr s hs) _ hm)
    have e : (execOp a.eval ⟨some d, .call { callee := .value gop, args := ys.toArray, argTypes := tys }, ty, pos, af, none⟩).run x.P w = .ok (.round lr fn tmps assign body) w := by
      have e1 : (ys.map a.eval) = vs := ha.evs has
      simp [execOp, resolve, ha.ev hg, Deferred.ofValue, e1, invoke, h1]
    rw [e]
    refine ⟨fun h => by simp [fw_dep] at h, ?_⟩
    have h3 : RoundIn (fw x.ro) 0 x.P lr fn tmps assign body w _ := h2
    refine h3.mono ?_
    rintro e' w' ⟨g', hu, hp, hb, ⟨rfl, hI⟩ | ⟨rfl, hI⟩⟩
    · exact kt g' hI _ _ (ha.put (Nat.le_of_ble_eq_true hN) _) (hw.upd (hi g') hu hp hb)
    · exact kf g' hI _ _ (ha.put (Nat.le_of_ble_eq_true hN) _) (hw.upd (hi g') hu hp hb)

/-! The statement. -/
def Ch.all (L : List Ch) : Ch := ⟨fun b => ∃ c ∈ L, c.ok b, fun w => (∀ c ∈ L, c.P w) ∧ L.Pairwise (fun (c d : Ch) => ∀ b : Nat, c.ok b → ¬ d.ok b), fun w w' h hk => ⟨fun c hc => c.st w w' (h.1 c hc) fun b hb => hk b ⟨c, hc, hb⟩, h.2⟩⟩
theorem Hp.all {ok0 : Nat → Prop} {w0 : World} {L L' S : List Ch} {w w' : World} (h : Hp ok0 w0 L S w) (u : Upd (Ch.all L).ok w w') (hp : (Ch.all L').P w') (hb : ∀ b, (Ch.all L').ok b → (Ch.all L).ok b ∨ (w.heap.size ≤ b ∧ b < w'.heap.size)) : Hp ok0 w0 L' S w' := by
  refine ⟨h.base.trans u (fun k hk hck => ?_), hp.1, ?_, ?_, hp.2, ?_, ?_, ?_⟩
  · obtain ⟨c, hc, hck⟩ := hck
    rcases h.ge c hc k hck with h1 | h1
    · exact h1
    · omega
  · intro c hc b hcb
    rcases hb b ⟨c, hc, hcb⟩ with ⟨d, hd, hdb⟩ | h1
    · exact Nat.lt_of_lt_of_le (h.lt d hd b hdb) u.size
    · exact h1.2
  · intro c hc b hcb
    rcases hb b ⟨c, hc, hcb⟩ with ⟨d, hd, hdb⟩ | h1
    · exact h.ge d hd b hdb
    · exact .inr (Nat.le_trans h.base.size h1.1)
  · exact fun s hs => s.st w w' (h.sh s hs) fun b hb' => u.block b (h.slt s hs b hb') fun ⟨c, hc, hcb⟩ => h.sdj s hs c hc b hcb hb'
  · exact fun s hs b hb' => Nat.lt_of_lt_of_le (h.slt s hs b hb') u.size
  · intro s hs c hc b hcb hsb
    rcases hb b ⟨c, hc, hcb⟩ with ⟨d, hd, hdb⟩ | h1
    · exact h.sdj s hs d hd b hdb hsb
    · have := h.slt s hs b hsb; omega
theorem Hp.toAll {L L' S : List Ch} {w w' : World} (h : Hp (Ch.all L).ok w L' S w') : Upd (Ch.all L).ok w w' ∧ (Ch.all L').P w' ∧ ∀ b, (Ch.all L').ok b → (Ch.all L).ok b ∨ (w.heap.size ≤ b ∧ b < w'.heap.size) :=
  ⟨h.base, ⟨h.own, h.dj⟩, fun b ⟨c, hc, hb⟩ => (h.ge c hc b hb).imp id fun h1 => ⟨h1, h.lt c hc b hb⟩⟩
theorem Hp.startAll {L S : List Ch} {w : World} (hp : (Ch.all L).P w) (hl : ∀ b, (Ch.all L).ok b → b < w.heap.size) (hS : Rd S w) (hd : ∀ s ∈ S, ∀ b, (Ch.all L).ok b → ¬ s.ok b) : Hp (Ch.all L).ok w L S w :=
  ⟨Upd.refl _ _, hp.1, fun c hc b hb => hl b ⟨c, hc, hb⟩, fun c hc b hb => .inl ⟨c, hc, hb⟩, hp.2, fun s hs => (hS s hs).1, fun s hs => (hS s hs).2, fun s hs c hc b hb => hd s hs b ⟨c, hc, hb⟩⟩
theorem Hp.putObj {ok0 : Nat → Prop} {w0 : World} {L L' S : List Ch} {w : World} {i lr : Nat} {o o' : Obj} (h : Hp ok0 w0 L S w) (hi : SetAt L i (Ch.obj lr o) (Ch.obj lr o') L') : Hp ok0 w0 L' S (w.putObj lr o') := by
  have hl : w.heap[lr]? = some o := h.own _ hi.mem
  refine h.upd hi ⟨rfl, rfl, rfl, by simp, fun k _ hn => World.putObj_heap_other (fun e => hn e), Nat.le_refl _⟩ (World.putObj_heap_same (Array.getElem?_eq_some_iff.1 hl).1) (fun b hb => .inl hb)

def zipfr : List Nat → List Value → Fr → Fr
  | p :: ps, v :: vs, l => zipfr ps vs ((p, v) :: l)
  | _, _, l => l
theorem kn_zipfr {N : Nat} : ∀ (ps : List Nat) (vs : List Value) (l : Fr) (t : Array Value), ps.all (fun p => Nat.blt p N) = true → t.size = N → (∀ k v, look l k = some v → t[k]? = some v) →
    ((ps.zip vs).foldl (fun t (p, v) => t.setIfInBounds p v) t).size = N ∧ ∀ k v, look (zipfr ps vs l) k = some v → ((ps.zip vs).foldl (fun t (p, v) => t.setIfInBounds p v) t)[k]? = some v
  | [], vs, l, t, _, hs, hk => by simpa [zipfr] using ⟨hs, hk⟩
  | p :: ps, [], l, t, _, hs, hk => by simpa [zipfr] using ⟨hs, hk⟩
  | p :: ps, v :: vs, l, t, hp, hs, hk => by
    simp only [List.all_cons, Bool.and_eq_true] at hp
    simp only [zipfr, List.zip_cons_cons, List.foldl_cons]
    refine kn_zipfr ps vs _ _ hp.2 (by simp [hs]) fun k u hu => ?_
    simp only [look] at hu
    have hlt : p < t.size := by rw [hs]; exact Nat.le_of_ble_eq_true hp.1
    cases e : Nat.beq p k with
    | true =>
      rw [e] at hu; cases hu
      rw [← Nat.eq_of_beq_eq_true e]
      simp [hlt]
    | false =>
      rw [e] at hu
      rw [Array.getElem?_setIfInBounds_ne (Nat.ne_of_beq_eq_false e)]
      exact hk k u hu

/-- What is asked when the assignments ahead of a round have ended: the record is told busy, the body is walked. -/
def Qasg (P : Program) (lr : Nat) (body : Code) (Q : Exit → Act → World → Prop) : Exit → Act → World → Prop :=
  Exit.then (fun a₁ w₁ => ∃ w₂, (Instr.beginRound lr).run P w₁ = .ok () w₂ ∧ body.wpIn (fw (some lr)) 0 P Q a₁ w₂) (fun _ _ _ => False)
theorem e_begin {lr i : Nat} {r : Loop} {L' : List Ch} {body : Code} (hro : x.ro = some lr) (hrd : r.state = .ready) (hi : SetAt L i (Ch.obj lr (.loop r)) (Ch.obj lr (.loop { r with state := .busy })) L') (h : W x l L' S body Q) : E x l L S .normal (Qasg x.P lr body Q) := fun a w ha hw => by
  have hl : w.heap[lr]? = some (.loop r) := hw.own _ hi.mem
  exact ⟨_, run_beginRound hl hrd, hro ▸ h a _ ha (hw.putObj hi)⟩
/-- How a round may be left. -/
def Qr (x : Cx) (Bk : List Ch) {σ : Type} (It : σ → Prop) (Ij : Code → σ → Prop) (Lf : σ → List Ch) (S : List Ch) : Exit → Act → World → Prop
  | .normal, _, w => ∃ g', It g' ∧ Hp x.ok0 x.w0 (Bk ++ Lf g') S w
  | .ret, _, w => ∃ g', Ij .ret g' ∧ Hp x.ok0 x.w0 (Bk ++ Lf g') S w
  | .exit id, _, w => ∃ g', Ij (.exit id) g' ∧ Hp x.ok0 x.w0 (Bk ++ Lf g') S w
  | .goto t, _, w => ∃ g', Ij (.goto t) g' ∧ Hp x.ok0 x.w0 (Bk ++ Lf g') S w
  | .panic _, _, _ => False
  | .outgrown, _, _ => False
theorem e_rend {Bk : List Ch} {σ : Type} {It : σ → Prop} {Ij : Code → σ → Prop} {Lf : σ → List Ch} {S' : List Ch} (g' : σ) (h : It g') (hh : ∀ w, Hp x.ok0 x.w0 L S w → Hp x.ok0 x.w0 (Bk ++ Lf g') S' w) : E x l L S .normal (Qr x Bk It Ij Lf S') := fun _ w _ hw => ⟨g', h, hh w hw⟩
/-- The call of the iterator, the record being laid. -/
theorem range_core {P : Program} {N : Nat} {ds : List Deferred} {a : Act} {W1 : World} {ok0 : Nat → Prop} {w0 : World} {gf : FuncId} {lb : List Value} {Sx Bk : List Ch} {α : Type} {enc : α → List Value} {xs : List α} {lr : Nat} {r : Loop} {ps : List Nat} {σ : Type} {I : List α → σ → Prop} {Ij : Code → List α → σ → Prop} {Lf : σ → List Ch} {g0 : σ}
    (ha : Kn N ds l a) (hit : Iter P gf lb Sx enc xs) (hSx : ∀ s ∈ Sx, s ∈ S) (hw : Hp ok0 w0 (Ch.obj lr (.loop r) :: (Bk ++ Lf g0)) S W1)
    (hst : r.state = .ready) (hpe : r.pending = none) (htm : r.tmps = a.tmps) (hpa : r.params = ps.toArray) (hps : ps.all (fun p => Nat.blt p N) = true) (hen : ∀ e, (enc e).length = ps.length) (hI0 : I [] g0)
    (hbody : ∀ pre e post g, xs = pre ++ e :: post → I pre g → ∀ okb wb, W ⟨P, some lr, N, [], okb, wb⟩ (zipfr ps (enc e) l) (Ch.obj lr (.loop r) :: (Bk ++ Lf g)) S r.assign
      (Qasg P lr r.body (Qr ⟨P, some lr, N, [], okb, wb⟩ (Ch.obj lr (.loop { r with state := .busy }) :: Bk) (I (pre ++ [e])) (fun c => Ij c (pre ++ [e])) Lf S))) :
    Calls P gf (.func (.yield lr) #[] #[] :: lb).toArray W1 fun e w3 => ∃ v, e = .returned v ∧ ∃ j g', Hp ok0 w0 (Ch.obj lr (.loop { r with state := if Option.isNone j then .ready else .done, pending := j }) :: (Bk ++ Lf g')) S w3 ∧
      (match j with
       | none => I xs g'
       | some c => ∃ pre post, xs = pre ++ post ∧ Ij c pre g') := by
  obtain ⟨rec, hrec⟩ : ∃ rec : Option Code → Loop, rec = fun j => { r with state := if Option.isNone j then .ready else .done, pending := j } := ⟨_, rfl⟩
  have hr0 : rec none = r := by rw [hrec]; show ({ r with state := .ready, pending := none } : Loop) = r; rw [← hst, ← hpe]
  let C : Option Code × σ → Ch := fun p => Ch.all (Ch.obj lr (.loop (rec p.1)) :: (Bk ++ Lf p.2))
  have hC0 : C (none, g0) = Ch.all (Ch.obj lr (.loop r) :: (Bk ++ Lf g0)) := by show Ch.all _ = _; rw [hr0]
  have := hit lr (Option Code × σ) (fun pre p => p.1 = none ∧ I pre p.2) (fun pre p => ∃ c, p.1 = some c ∧ Ij c pre p.2) C S ?_ (none, g0) ⟨rfl, hI0⟩ W1
    (by rw [hC0]; exact ⟨hw.own, hw.dj⟩) (by rw [hC0]; exact fun b ⟨c, hc, hb⟩ => hw.lt c hc b hb) (fun s hs => hw.rdS ((List.mem_append.1 hs).elim (hSx s) id)) (by rw [hC0]; exact fun s hs b ⟨c, hc, hb⟩ => hw.sdj s ((List.mem_append.1 hs).elim (hSx s) id) c hc b hb)
  · refine calls_mono this ?_
    rintro e w3 ⟨⟨⟨v, j, g'⟩, ho⟩, rfl, hu, hp, hb⟩
    rw [hC0] at hu hb
    refine ⟨v, rfl, j, g', ?_, ?_⟩
    · have := hw.all (L' := Ch.obj lr (.loop (rec j)) :: (Bk ++ Lf g')) hu hp hb
      rw [hrec] at this
      exact this
    · rcases ho with ⟨h1, h2⟩ | ⟨pre, post, h1, c, h2, h3⟩
      · simp only at h1; subst h1; exact h2
      · simp only at h2; subst h2; exact ⟨pre, post, h1, h3⟩
  · rintro pre e post ⟨j, g⟩ hxs ⟨h1, hI⟩ w1 hp hl hR hd
    simp only at h1 hI
    subst h1
    have hC : C (none, g) = Ch.all (Ch.obj lr (.loop r) :: (Bk ++ Lf g)) := by show Ch.all _ = _; rw [hr0]
    rw [hC] at hp hl hd
    have hh := Hp.startAll hp hl hR hd
    have hrl : w1.heap[lr]? = some (.loop r) := hh.own _ List.mem_cons_self
    have hy := run_yield (P := P) (args := (enc e).toArray) hrl (by rw [hpa]; simpa using hen e)
    refine ⟨_, _, _, _, hy, roundIn_of_wpIn trivial ?_⟩
    have hkz := kn_zipfr (N := N) ps (enc e) l a.tmps hps ha.sz ha.kn
    have hz : (r.params.zip (enc e).toArray).foldl (fun t (x : Nat × Value) => t.setIfInBounds x.1 x.2) r.tmps = (ps.zip (enc e)).foldl (fun t (x : Nat × Value) => t.setIfInBounds x.1 x.2) a.tmps := by
      rw [hpa, htm]
      simp [List.zip_toArray]
    have hW := hbody pre e post g hxs hI (Ch.all (Ch.obj lr (.loop r) :: (Bk ++ Lf g))).ok w1
      { tmps := (ps.zip (enc e)).foldl (fun t (x : Nat × Value) => t.setIfInBounds x.1 x.2) a.tmps, defers := [] } w1 ⟨hkz.1, rfl, hkz.2⟩ hh
    have hW2 : r.assign.wpIn ((fw none).inRound lr) 0 P (Qasg P lr r.body (Qr ⟨P, some lr, N, [], (Ch.all (Ch.obj lr (.loop r) :: (Bk ++ Lf g))).ok, w1⟩ (Ch.obj lr (.loop { r with state := .busy }) :: Bk) (I (pre ++ [e])) (fun c => Ij c (pre ++ [e])) Lf S))
        { tmps := (r.params.zip (enc e).toArray).foldl (fun t (x : Nat × Value) => t.setIfInBounds x.1 x.2) r.tmps, defers := [] } w1 := by rw [hz]; exact hW
    refine Code.wpIn_mono ?_ hW2
    have fin : ∀ (jump : Option Code) (g' : σ) (w3 : World), Hp (Ch.all (Ch.obj lr (.loop r) :: (Bk ++ Lf g))).ok w1 (Ch.obj lr (.loop { r with state := .busy }) :: Bk ++ Lf g') S w3 →
        (Instr.endRound lr jump).run P w3 = .ok (.bool jump.isNone) (w3.putObj lr (.loop (rec jump))) ∧ Upd (C (none, g)).ok w1 (w3.putObj lr (.loop (rec jump))) ∧ (C (jump, g')).P (w3.putObj lr (.loop (rec jump))) ∧
        ∀ b, (C (jump, g')).ok b → (C (none, g)).ok b ∨ (w1.heap.size ≤ b ∧ b < (w3.putObj lr (.loop (rec jump))).heap.size) := fun jump g' w3 hw3 => by
      have hl3 : w3.heap[lr]? = some (.loop { r with state := .busy }) := hw3.own _ List.mem_cons_self
      have he := run_endRound (P := P) jump hl3
      have h4 := hw3.putObj (o' := .loop (rec jump)) SetAt.z
      rw [hC]
      refine ⟨?_, h4.toAll⟩
      rw [hrec]; exact he
    intro ex a1 w2 hq
    cases ex with
    | normal =>
      obtain ⟨w3, hbr, hb⟩ := hq
      refine ⟨w3, hbr, Code.wpIn_mono ?_ hb⟩
      intro e2 a3 w4 h
      cases e2 with
      | normal =>
        obtain ⟨g', h1, h2⟩ := h
        obtain ⟨f1, f2, f3, f4⟩ := fin none g' w4 h2
        exact ⟨_, _, f1, (none, g'), f2, f3, f4, .inl ⟨rfl, rfl, h1⟩⟩
      | ret =>
        obtain ⟨g', h1, h2⟩ := h
        obtain ⟨f1, f2, f3, f4⟩ := fin (some .ret) g' w4 h2
        exact ⟨_, _, f1, (some .ret, g'), f2, f3, f4, .inr ⟨rfl, .ret, rfl, h1⟩⟩
      | exit id =>
        obtain ⟨g', h1, h2⟩ := h
        obtain ⟨f1, f2, f3, f4⟩ := fin (some (.exit id)) g' w4 h2
        exact ⟨_, _, f1, (some (.exit id), g'), f2, f3, f4, .inr ⟨rfl, .exit id, rfl, h1⟩⟩
      | goto t =>
        obtain ⟨g', h1, h2⟩ := h
        obtain ⟨f1, f2, f3, f4⟩ := fin (some (.goto t)) g' w4 h2
        exact ⟨_, _, f1, (some (.goto t), g'), f2, f3, f4, .inr ⟨rfl, .goto t, rfl, h1⟩⟩
      | panic ch => exact h.elim
      | outgrown => exact h.elim
    | _ => exact hq.elim

/-- The statement, at an outermost loop. -/
theorem w_range {gop : Operand} {ps : List Nat} {assign body : Code} {gf : FuncId} {lb : List Value} {Sx : List Ch} {α : Type} {enc : α → List Value} {xs : List α} {σ : Type} (I : List α → σ → Prop) (Ij : Code → List α → σ → Prop) (Lf : σ → List Ch) (g0 : σ)
    (hro : x.ro = none) (hg : ev l gop = some (.func (.func gf) #[] lb.toArray)) (hen : Enters x.P gf) (hit : Iter x.P gf lb Sx enc xs) (hSx : ∀ s ∈ Sx, s ∈ S) (hps : ps.all (fun p => Nat.blt p x.N) = true) (henc : ∀ e, (enc e).length = ps.length) (hI0 : I [] g0) (hL : L = Lf g0)
    (hbody : ∀ pre e post g, xs = pre ++ e :: post → I pre g → ∀ lr D r, r.state = .ready → ∀ okb wb, W ⟨x.P, some lr, x.N, [], okb, wb⟩ (zipfr ps (enc e) l) (Ch.obj lr (.loop r) :: Ch.obj D (.deferred (some [])) :: Lf g) S assign
      (Qasg x.P lr body (Qr ⟨x.P, some lr, x.N, [], okb, wb⟩ [Ch.obj lr (.loop { r with state := .busy }), Ch.obj D (.deferred (some []))] (I (pre ++ [e])) (fun c => Ij c (pre ++ [e])) Lf S)))
    (hdone : ∀ g D, I xs g → E ⟨x.P, none, x.N, { target := .collected D, args := #[] } :: x.ds, x.ok0, x.w0⟩ l (Ch.obj D (.deferred (some [])) :: Lf g) S .normal Q)
    (hstop : ∀ c pre post g D, xs = pre ++ post → Ij c pre g → W ⟨x.P, none, x.N, { target := .collected D, args := #[] } :: x.ds, x.ok0, x.w0⟩ l (Ch.obj D (.deferred (some [])) :: Lf g) S c Q) :
    W x l L S (.rangeFunc gop ps.toArray assign body) Q := fun a w ha hw => by
  subst hL
  refine wpIn_rangeFunc ?_
  intro fn hfn
  have hround : (fw x.ro).round = none := hro
  rw [hround]
  have h1 := hw.alloc (.deferred (some []))
  obtain ⟨r, hr⟩ : ∃ r : Loop, r = { state := .ready, pending := none, fn, tmps := a.tmps, params := ps.toArray, assign, body, defers := w.heap.size } := ⟨_, rfl⟩
  have h2 := h1.alloc (.loop r)
  have hsz : (w.alloc (.deferred (some []))).heap.size = w.heap.size + 1 := by simp
  rw [hsz] at h2
  rw [hr] at h2
  refine ⟨w.heap.size + 1, _, _, { target := .fn (.func gf) lb.toArray, args := #[.func (.yield (w.heap.size + 1)) #[] #[]] }, (w.alloc (.deferred (some []))).alloc (.loop { state := .ready, pending := none, fn, tmps := a.tmps, params := ps.toArray, assign, body, defers := w.heap.size }), gf, #[.func (.yield (w.heap.size + 1)) #[] #[]] ++ lb.toArray, (w.alloc (.deferred (some []))).alloc (.loop { state := .ready, pending := none, fn, tmps := a.tmps, params := ps.toArray, assign, body, defers := w.heap.size }), run_enterLoop_outer _ _ _ _ _, ?_, fun _ _ => trivial, ?_, fun h => by simp [fw_dep] at h, ?_⟩
  · simp [resolve, ha.ev hg, Deferred.ofValue]; rfl
  · simp [invoke, hen _ _]
  · have hc := range_core (Bk := [Ch.obj w.heap.size (.deferred (some []))]) ha hit hSx h2 rfl rfl rfl rfl hps henc hI0 (fun pre e post g hxs hI okb wb => hbody pre e post g hxs hI _ _ _ rfl okb wb)
    have e1 : (Value.func (.yield (w.heap.size + 1)) #[] #[] :: lb).toArray = #[.func (.yield (w.heap.size + 1)) #[] #[]] ++ lb.toArray := by simp
    rw [e1] at hc
    refine in_of_calls (calls_mono hc ?_)
    rintro e w3 ⟨v, rfl, j, g', h3, hj⟩
    have hl3 := h3.own _ List.mem_cons_self
    refine ⟨j, _, run_endLoop hl3 (by cases j <;> simp), ?_⟩
    have h4 := (h3.putObj (o' := .loop { state := .exhausted, pending := j, fn, tmps := a.tmps, params := ps.toArray, assign, body, defers := w.heap.size }) SetAt.z).weak (List.sublist_cons_self _ _) (fun s hs => hs)
    have hkn : Kn x.N ({ target := .collected w.heap.size, args := #[] } :: x.ds) l { a with defers := [{ target := .collected w.heap.size, args := #[] }] ++ a.defers } := ⟨ha.sz, by simp [ha.df], ha.kn⟩
    cases j with
    | none => exact hdone g' _ hj _ _ hkn h4
    | some c =>
      obtain ⟨pre, post, hxs, hI⟩ := hj
      have := hstop c pre post g' _ hxs hI _ _ hkn h4
      rw [show fw x.ro = fw none by rw [hro]]
      exact this
end
end Go.Proofs.Ytckfjfnkombelaa
