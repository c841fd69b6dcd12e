/- Rows that are read alone, loops that turn their first chunks. -/
import Derived.Test.YtckfjfnkombelaaLiQN
namespace Go.Proofs.Ytckfjfnkombelaa
open Go.RowKit Go.Shelf
set_option linter.unusedVariables false
set_option linter.unusedSimpArgs false
theorem lk {l : Fr} {t : Nat} {u v : Value} (h : look l t = some u) (e : u = v) : look l t = some v := e ▸ h
section
variable {x : Cx} {l : Fr} {L S : List Ch} {Q : Exit → Act → World → Prop} {ops : Array Oper} {rest : List Oper} {d : Nat} {ty : TypeId} {pos : String} {af : Array Edge} {gd : Option (Nat × Bool)}
theorem y_loadSo {t T : TypeId} {sz bytes : Nat} {z : Value} {y : Operand} {b o : Nat} {cs : List Value} {v : Value} (i : Nat) (ht : TyI x.P t false sz bytes z) (hy : ev l y = some (.pointer (some ⟨b, o, none⟩)))
    (hi : S[i]? = some (Ch.row b cs T)) (hv : cs[o]? = some v) :
    Yv x l L S ⟨some d, .load t y, ty, pos, af, gd⟩ (v) :=
  y_load ht hy (fun w hw => by rw [cell_row (hw.sh _ (List.mem_of_getElem? hi)) o]; exact hv)
theorem w_loop0 {c : Code} {σ : Type} (ts : List Nat) (I : σ → Prop) (μ : σ → Nat) (lf : σ → Fr) (g0 : σ) (h0 : I g0) (hk : Knows l (lf g0))
    (body : ∀ g, I g → W x (lf g ++ keep ts l) L S c (Ql x I lf (fun _ => L) (fun _ => S) (keep ts l) (fun g' => μ g' < μ g) Q)) : W x l L S (.loop c) Q :=
  w_loop ts I μ lf (fun _ => L) (fun _ => S) g0 h0 hk (fun _ h => h) body
theorem w_loop1 {c : Code} {σ : Type} {c0 : Ch} (ts : List Nat) (I : σ → Prop) (μ : σ → Nat) (lf : σ → Fr) (C : σ → Ch) (g0 : σ) (h0 : I g0) (hk : Knows l (lf g0)) (hc : c0 = C g0)
    (body : ∀ g, I g → W x (lf g ++ keep ts l) (C g :: L) S c (Ql x I lf (fun g => C g :: L) (fun _ => S) (keep ts l) (fun g' => μ g' < μ g) Q)) : W x l (c0 :: L) S (.loop c) Q :=
  w_loop ts I μ lf (fun g => C g :: L) (fun _ => S) g0 h0 hk (fun _ h => hc ▸ h) body
theorem w_loop2 {c : Code} {σ : Type} {c0 d0 : Ch} (ts : List Nat) (I : σ → Prop) (μ : σ → Nat) (lf : σ → Fr) (C D : σ → Ch) (g0 : σ) (h0 : I g0) (hk : Knows l (lf g0)) (hc : c0 = C g0) (hd : d0 = D g0)
    (body : ∀ g, I g → W x (lf g ++ keep ts l) (C g :: D g :: L) S c (Ql x I lf (fun g => C g :: D g :: L) (fun _ => S) (keep ts l) (fun g' => μ g' < μ g) Q)) : W x l (c0 :: d0 :: L) S (.loop c) Q :=
  w_loop ts I μ lf (fun g => C g :: D g :: L) (fun _ => S) g0 h0 hk (fun _ h => hc ▸ hd ▸ h) body
/-- The chunks in another order. -/
theorem Hp.perm {ok0 : Nat → Prop} {w0 w : World} {L L' S : List Ch} (h : Hp ok0 w0 L S w) (hp : L'.Perm L) : Hp ok0 w0 L' S w :=
  ⟨h.base, fun c hc => h.own c (hp.mem_iff.1 hc), fun c hc => h.lt c (hp.mem_iff.1 hc), fun c hc => h.ge c (hp.mem_iff.1 hc), (hp.pairwise_iff (fun hab b hb hb' => hab b hb' hb)).2 h.dj, h.sh, h.slt, fun s hs c hc => h.sdj s hs c (hp.mem_iff.1 hc)⟩
end
/-- Nothing. -/
def Ch.nil0 : Ch := ⟨fun _ => False, fun _ => True, fun _ _ _ _ => trivial⟩
theorem Hp.uc0 {c : Ch} {w0 w : World} {S L : List Ch} (h : Hp c.ok w0 L S w) : Upd c.ok w0 w ∧ Ch.nil0.P w ∧ ∀ b, Ch.nil0.ok b → c.ok b ∨ (w0.heap.size ≤ b ∧ b < w.heap.size) := ⟨h.base, trivial, nofun⟩
theorem bld_cell {T e : TypeId} {b : Nat} {A : Option Addr} {c : Nat} {s : Str} {w : World} (h : (Ch.bld T e b A c s).P w) : w.cell? ⟨b, 1, none⟩ = some (.slice A s.length c) := by
  obtain ⟨_, ⟨p, _, h2⟩, _⟩ := h
  simp [World.cell?, h2]
/-! Leaving a function: the rounds' deferred calls, the results. -/
def Lv (x : Cx) (l : Fr) (L S : List Ch) (fn : Func) (R : Ending → World → Prop) (ds : List Deferred) : Prop :=
  ∀ (a : Act) w, a.tmps.size = x.N → (∀ t v, look l t = some v → a.tmps[t]? = some v) → Hp x.ok0 x.w0 L S w → LeavesInM (fw none) 0 x.P fn a.tmps R ds .returning w
def resOf (t : Array Value) : ResultVar → Sem Value
  | .tmp i => pure (t.getD i undef)
  | .cell b ty => do loadVar ty (← asAddr (t.getD b undef))
/-- What the results hold. -/
def Rs (x : Cx) (l : Fr) (L S : List Ch) (rs : List ResultVar) (vs : List Value) : Prop :=
  ∀ (a : Act) w, a.tmps.size = x.N → (∀ t v, look l t = some v → a.tmps[t]? = some v) → Hp x.ok0 x.w0 L S w →
    (rs.mapM (resOf a.tmps)).run x.P w = .ok vs w
section
variable {x : Cx} {l : Fr} {L S : List Ch} {fn : Func} {R : Ending → World → Prop} {ds : List Deferred}
theorem rs_nil : Rs x l L S [] [] := fun _ _ _ _ _ => rfl
theorem rs_tmp {t : Nat} {v : Value} {rs : List ResultVar} {vs : List Value} (h : look l t = some v) (k : Rs x l L S rs vs) : Rs x l L S (.tmp t :: rs) (v :: vs) := fun a w hs hk hw => by
  have := k a w hs hk hw
  have hv := hk t v h
  simp only [List.mapM_cons, Sem.run_bind, Sem.run_pure, Result.andThen_ok, this, resOf]
  simp [hv]
theorem rs_cells {b t : Nat} {B o : Nat} {T : TypeId} {sz bytes : Nat} {z : Value} {cs us : List Value} {rs : List ResultVar} {vs : List Value} (i : Nat) (ht : TyI x.P t true sz bytes z) (h : look l b = some (.pointer (some ⟨B, o, none⟩))) (hi : L[i]? = some (Ch.row B cs T)) (hv : (cs.drop o).take sz = us) (hl : us.length = sz) (k : Rs x l L S rs vs) : Rs x l L S (.cell b t :: rs) (.agg us.toArray :: vs) := fun a w hs hk hw => by
  have := k a w hs hk hw
  have hb := hk b _ h
  have hc : (loadVar t ⟨B, o, none⟩).run x.P w = .ok (.agg us.toArray) w := run_loadN ht hl (fun j v hj => by
    rw [cell_row (hw.own _ (List.mem_of_getElem? hi)) (o + j)]
    rw [← hv] at hj
    have hlt : j < sz := by have := (List.getElem?_eq_some_iff.1 hj).1; simp at this; omega
    simpa [List.getElem?_take, hlt] using hj)
  simp [List.mapM_cons, resOf, hb, asAddr, hc, this]
theorem run_results' {rs : List ResultVar} {vs : List Value} {a : Act} {w : World} (hr : fn.results = rs.toArray) (h : Rs x l L S rs vs) (h1 : a.tmps.size = x.N) (h2 : ∀ t v, look l t = some v → a.tmps[t]? = some v) (h3 : Hp x.ok0 x.w0 L S w) : (results fn a.tmps).run x.P w = .ok (resV vs) w := by
  have e := h a w h1 h2 h3
  have key : ∀ f : ResultVar → Sem Value, (∀ r, f r = resOf a.tmps r) → (rs.mapM f).run x.P w = .ok vs w := fun f hf => by
    rw [show f = resOf a.tmps from funext hf]; exact e
  unfold results
  rw [hr, Sem.run_bind, List.mapM_toArray, Sem.run_map, key _ (fun r => by cases r <;> rfl)]
  simp only [Result.andThen_ok, Sem.run_pure]
  congr 1
  match vs with
  | [] => simp [resV]
  | [v] => simp [resV]
  | v :: u :: r => simp [resV]
theorem lv_nil {rs : List ResultVar} {vs : List Value} (hr : fn.results = rs.toArray) (h : Rs x l L S rs vs) (k : ∀ w, Hp x.ok0 x.w0 L S w → R (.returned (resV vs)) w) : Lv x l L S fn R [] := fun a w h1 h2 h3 =>
  ⟨_, run_results' hr h h1 h2 h3, k w h3⟩
theorem lv_take {D i : Nat} {L' : List Ch} (hi : SetAt L i (Ch.obj D (.deferred (some []))) (Ch.obj D (.deferred none)) L') (k : Lv x l L' S fn R ds) : Lv x l L S fn R ({ target := .collected D, args := #[] } :: ds) := fun a w h1 h2 h3 => by
  have hD : w.heap[D]? = some (.deferred (some [])) := h3.own _ hi.mem
  exact ⟨nofun, .inl ⟨D, _, rfl, run_takeDeferred hD, k a _ h1 h2 (h3.putObj hi)⟩⟩
theorem e_lvr (h : Lv x l L S fn R x.ds) : E x l L S .ret (np (bodyPostM (fw none) 0 x.P fn R)) := fun a w ha hw => by
  show LeavesInM _ _ _ _ _ _ _ _ _
  rw [ha.df]; exact h a w ha.sz ha.kn hw
/-- .. of a function without a range over a function. -/
theorem e_rsr {rs : List ResultVar} {vs : List Value} (hr : fn.results = rs.toArray) (h : Rs x l L S rs vs) (hd : x.ds = []) (k : ∀ w, Hp x.ok0 x.w0 L S w → R (.returned (resV vs)) w) : E x l L S .ret (np (bodyPost x.P fn R)) := fun a w ha hw =>
  ⟨ha.df.trans hd, _, run_results' hr h ha.sz ha.kn hw, k w hw⟩
end
/-- The chunks ahead of another one. -/
theorem Hp.f1 {ok0 : Nat → Prop} {w0 w : World} {a b : Ch} {L S : List Ch} (h : Hp ok0 w0 (a :: b :: L) S w) : Hp ok0 w0 (b :: a :: L) S w := h.perm (.swap a b L)
theorem Hp.f2 {ok0 : Nat → Prop} {w0 w : World} {a b c : Ch} {L S : List Ch} (h : Hp ok0 w0 (a :: b :: c :: L) S w) : Hp ok0 w0 (c :: a :: b :: L) S w := h.perm (List.perm_middle (l₁ := [a, b])).symm
theorem Hp.f3 {ok0 : Nat → Prop} {w0 w : World} {a b c d : Ch} {L S : List Ch} (h : Hp ok0 w0 (a :: b :: c :: d :: L) S w) : Hp ok0 w0 (d :: a :: b :: c :: L) S w := h.perm (List.perm_middle (l₁ := [a, b, c])).symm
theorem Hp.f4 {ok0 : Nat → Prop} {w0 w : World} {a b c d e : Ch} {L S : List Ch} (h : Hp ok0 w0 (a :: b :: c :: d :: e :: L) S w) : Hp ok0 w0 (e :: a :: b :: c :: d :: L) S w := h.perm (List.perm_middle (l₁ := [a, b, c, d])).symm
/-- An iterator's contract out of its body's walk. -/
theorem iter_of_W {P : Program} {gf : FuncId} {fn : Func} {cd : Code} {lb : List Value} {Sx : List Ch} {α : Type} {enc : α → List Value} {xs : List α} (N : Nat) (hf : P.funcs[gf]? = some fn) (hb : fn.body = some cd) (hn : fn.ntmps = N) (hN : Nat.ble (lb.length + 1) N = true)
    (h : ∀ (lr : Nat) (σ : Type) (I Ix : List α → σ → Prop) (C : σ → Ch) (Sc : List Ch), (∀ pre x post g, xs = pre ++ x :: post → I pre g → Yd P lr (enc x).toArray Sc C g (I (pre ++ [x])) (Ix (pre ++ [x]))) → ∀ g, I [] g → ∀ w,
      W ⟨P, none, N, [], (C g).ok, w⟩ (frm 0 (.func (.yield lr) #[] #[] :: lb)) [C g] (Sx ++ Sc) cd (np (bodyPost P fn fun e w' => ∃ o : {p : Value × σ // I xs p.2 ∨ ∃ pre post, xs = pre ++ post ∧ Ix pre p.2}, e = .returned o.1.1 ∧ Upd (C g).ok w w' ∧ (C o.1.2).P w' ∧ ∀ b, (C o.1.2).ok b → (C g).ok b ∨ (w.heap.size ≤ b ∧ b < w'.heap.size)))) :
    Iter P gf lb Sx enc xs := fun lr σ I Ix C Sc hy g hg => uc_of_W N hf hb hn hN (h lr σ I Ix C Sc hy g hg)
theorem iter_end {σ α : Type} {I Ix : List α → σ → Prop} {C : σ → Ch} {xs : List α} {g : σ} {w w' : World} {S : List Ch} (v : Value) {g' : σ} (h : I xs g' ∨ ∃ pre post, xs = pre ++ post ∧ Ix pre g') {L : List Ch} (hw : Hp (C g).ok w (C g' :: L) S w') :
    ∃ o : {p : Value × σ // I xs p.2 ∨ ∃ pre post, xs = pre ++ post ∧ Ix pre p.2}, Ending.returned v = .returned o.1.1 ∧ Upd (C g).ok w w' ∧ (C o.1.2).P w' ∧ ∀ b, (C o.1.2).ok b → (C g).ok b ∨ (w.heap.size ≤ b ∧ b < w'.heap.size) :=
  ⟨⟨(v, g'), h⟩, rfl, hw.uc⟩
end Go.Proofs.Ytckfjfnkombelaa
