import Derived.Test.YtnpdgmoeoidppaaGreatLvQx
import Derived.Shelf.SlSortCmp.NoneTotal
import Derived.Maps.RangeRun
/- Slices sorted by the library's sort, whatever is compared. -/
namespace Go.Proofs.YtnpdgmoeoidppaaGreat
open Go.RowKit Go.Shelf
set_option linter.unusedVariables false
set_option linter.unusedSimpArgs false
set_option linter.unusedSectionVars false

theorem grow_of_upd {w w' : World} (h : Upd no w w') : ∃ q os', w' = Go.Sort.grow (w.drewN q) os' := by
  refine ⟨w'.drawn - w.drawn, w'.heap.extract w.heap.size w'.heap.size, ?_⟩
  have h1 : w'.heap = w.heap ++ w'.heap.extract w.heap.size w'.heap.size := by
    apply Array.ext_getElem?
    intro k
    rw [Array.getElem?_append]
    split
    · rename_i hk; exact h.block k hk id
    · rename_i hk
      rw [Array.getElem?_extract]
      split
      · congr 1; omega
      · rename_i h2
        exact Array.getElem?_eq_none (by omega)
  have h2 := h.drawn
  have h3 := h.os; have h4 := h.tape; have h5 := h.output
  cases w with
  | mk hp tp dr os ou =>
    cases w' with
    | mk hp' tp' dr' os' ou' =>
      simp only at h1 h2 h3 h4 h5
      subst h3 h4 h5
      show _ = ({ heap := hp ++ _, tape := _, drawn := _, os := _, output := _ } : World)
      congr 1
      · show dr' = dr + (dr' - dr); omega
theorem flatK_fl {α : Type} [Inhabited α] {enc : α → List Value} {k : Nat} (hE : Enc enc k) (xs : List α) : Go.Sort.flatK enc k xs.toArray = (fl enc xs).toArray := by
  have hl := eD hE.len xs
  apply Array.ext
  · simp [hl]
  · intro t h1 h2
    have h1' : t < xs.length * k := by simpa using h1
    have k0 : 0 < k := by
      rcases Nat.eq_zero_or_pos k with h | h
      · subst h; simp at h1'
      · exact h
    have hq : t / k < xs.length := by rw [Nat.div_lt_iff_lt_mul k0]; exact h1'
    have hr : t % k < k := Nat.mod_lt _ k0
    have h3 := fl_get (enc := enc) hE.len xs default hq hr
    rw [Nat.mul_comm, Nat.div_add_mod] at h3
    have h4 := Go.Sort.get_flatK enc k xs.toArray t (by simpa using h1')
    rw [getElem!_pos _ t h1] at h4
    rw [h4]
    have e1 : xs.toArray[t / k]! = xs.getD (t / k) default := by
      rw [List.getD_eq_getElem?_getD, List.getElem?_eq_getElem hq, getElem!_pos _ (t / k) (by simpa using hq)]; rfl
    have e2 : (fl enc xs).toArray[t]? = some ((fl enc xs).toArray[t]) := Array.getElem?_eq_getElem h2
    rw [List.getElem?_toArray, h3] at e2
    rw [e1]
    have e3 : t % k < (enc (xs.getD (t / k) default)).length := by rw [hE.len]; exact hr
    rw [List.getElem?_eq_getElem e3] at e2
    rw [getElem!_pos _ (t % k) e3]
    exact Option.some.inj e2
/-- What a row of cells holds behind a sort. -/
theorem slp_sorted {α : Type} [Inhabited α] {enc : α → List Value} {k : Nat} (hE : Enc enc k) {g c : Nat} {T : TypeId} {xs ys : List α} {w : World} (hc : SlP (some ⟨g, 0, none⟩) xs.length c T k (fl enc xs) w) (hl : ys.length = xs.length) (n : Nat) (os : Array Obj) :
    Go.Sort.HoldsK enc k w g 0 xs.toArray ∧ SlP (some ⟨g, 0, none⟩) xs.length c T k (fl enc ys) (sortWorldK enc k w g 0 n ys.toArray os) ∧ Upd (fun b => b = g) w (sortWorldK enc k w g 0 n ys.toArray os) ∧ g < w.heap.size := by
  rcases hc.at_ with ⟨h, _⟩ | ⟨g', cur, fz, hA, hg, h1, h2, h3, h4, h5⟩
  · cases h
  cases hA
  have hlt : g < w.heap.size := (Array.getElem?_eq_some_iff.1 hg).1
  have hcl : xs.length * k ≤ cur.size := Nat.le_trans (Nat.mul_le_mul_right k h1) h3
  have hH : Go.Sort.HoldsK enc k w g 0 xs.toArray := by
    show Go.Sort.Holds id w g 0 (Go.Sort.flatK enc k xs.toArray)
    rw [flatK_fl hE]
    intro j hj
    have hj' : j < (fl enc xs).length := by simpa using hj
    have hj2 : j < xs.length * k := by rw [← hc.len]; exact hj'
    refine ⟨?_, ?_⟩
    · simp only [World.cell?, hg, Nat.zero_add]
      have e : cur.toList[j]? = (fl enc xs)[j]? := by rw [← h4, List.getElem?_take, if_pos hj2]
      rw [List.getElem?_eq_getElem hj'] at e
      rw [getElem!_pos _ j hj]
      simpa using e
    · have := h5 j (by omega)
      simp [World.frozen?, hg]
      omega
  have hP : (sortWorldK enc k w g 0 n ys.toArray os).heap[g]? = some (.cells (Go.Sort.putCells id 0 (Go.Sort.flatK enc k ys.toArray) cur) T fz) := by
    show ((w.heap.modify g _) ++ os)[g]? = _
    rw [Array.getElem?_append_left (by simpa using hlt), Array.getElem?_modify, if_pos rfl, hg]; rfl
  refine ⟨hH, ⟨by rw [eD hE.len, hl], fun u hu => hE.ones ys u hu, .inr ⟨g, _, fz, rfl, hP, h1, h2, by simpa [Go.Sort.putCells] using h3, ?_, fun o ho => h5 o (by simpa [Go.Sort.putCells] using ho)⟩⟩, ⟨rfl, rfl, rfl, ?_, fun j hj hn => ?_, Nat.le_add_right _ _⟩, hlt⟩
  · rw [flatK_fl hE]
    apply List.ext_getElem?
    intro j
    rw [List.getElem?_take]
    have hfl : (fl enc ys).length = xs.length * k := by rw [eD hE.len, hl]
    split
    · rename_i hj
      rw [Array.getElem?_toList]
      simp only [Go.Sort.putCells, Array.getElem?_mapIdx]
      rw [Array.getElem?_eq_getElem (by omega : j < cur.size)]
      simp only [Option.map_some, Nat.zero_add, Nat.zero_le, true_and, Nat.sub_zero]
      rw [if_pos (by simpa [hfl] using hj)]
      rw [getElem!_pos _ j (by simpa [hfl] using hj), List.getElem?_eq_getElem (by omega)]
      simp
    · rename_i hj
      rw [List.getElem?_eq_none (by omega)]
  · show w.heap.size ≤ ((w.heap.modify g _) ++ os).size
    simp
  · show ((w.heap.modify g _) ++ os)[j]? = _
    rw [Array.getElem?_append_left (by simpa using hj), Array.getElem?_modify, if_neg (fun e => hn e.symm)]
section
variable {β : Type} {p : β → Prop} [Inhabited {x : β // p x}]
theorem lift_all {xs : List β} (h : ∀ x ∈ xs, p x) : ∃ ys : List {x // p x}, ys.map (·.1) = xs := ⟨xs.attachWith p h, by simp⟩
theorem fl_lift {enc : β → List Value} (ys : List {x // p x}) : fl (fun x : {x // p x} => enc x.1) ys = fl enc (ys.map (·.1)) := by simp [fl, Function.comp_def]
/-- slices.SortFunc. -/
theorem uc_sort {P : Program} {ρ : Ren} (M : SlLaysF0.n6 P ρ) (k : Nat) (aE : ∀ w, (isAgg (ρ.t 24)).run P w = .ok true w) (zE : ∀ w, (Go.sizeOf (ρ.t 24)).run P w = .ok k w) {enc : β → List Value} (hE : Enc enc k) (cf : β → β → Int) (hO : Go.Sort.SWO (α := {x : β // p x}) (ltOf fun x y : {x : β // p x} => cf x.1 y.1)) (g : Nat) (cb : Array Value)
    (eg : ∀ args w, (callFunc g args).run P w = .ok (.enter g args) w) (hcmp : ∀ x y : β, p x → p y → eC P g (#[.agg (enc x).toArray, .agg (enc y).toArray] ++ cb) (.int .i64 (cf x y))) (T : TypeId) (A : Option Addr) (c : Nat) (xs : List β) (hp : ∀ x ∈ xs, p x) (hsz : xs.length < 4611686018427387904) :
    UC P (ρ.f 6) #[.slice A xs.length c, .func (.func g) #[] cb] [] (Ch.ls A c T k enc xs) (α := {ys : List β // ys.Perm xs ∧ ys.Pairwise fun a b => ¬ cf b a < 0}) (fun _ => .tuple #[]) (fun o => Ch.ls A c T k enc o.1) := by
  intro w hc hlt _ _
  rcases (show SlP A xs.length c T k (fl enc xs) w from hc).at_ with ⟨rfl, h0, _⟩ | ⟨g0, cur, fz, rfl, _⟩
  · have hx : xs = [] := List.length_eq_zero_iff.1 h0
    subst hx
    refine cN (AnyF.slices_SortFunc_none M none c _ w) fun e w' ⟨he, hw⟩ => ?_
    subst hw
    exact ⟨⟨[], .refl _, .nil⟩, he, Upd.refl _ _, hc, fun b hb => .inl hb⟩
  · obtain ⟨ys, rfl⟩ := lift_all hp
    have hE' : Enc (fun x : {x // p x} => enc x.1) k := ⟨fun a => hE.len a.1, fun a => hE.one a.1⟩
    have hc' : SlP (some ⟨g0, 0, none⟩) ys.length c T k (fl (fun x : {x // p x} => enc x.1) ys) w := by
      have h : SlP (some ⟨g0, 0, none⟩) (ys.map (·.1)).length c T k (fl enc (ys.map (·.1))) w := hc
      rw [List.length_map, ← fl_lift] at h; exact h
    have hl : ys.length = (ys.map (·.1)).length := (List.length_map _).symm
    have h9 := slp_sorted hE' hc' (ys := ys) rfl 0 #[]
    have hcall := AnyQ.slices_SortFunc M k aE zE (fun x : {x // p x} => enc x.1) hE'.len (fun x v hv => by
        have := hE'.ones [x] v (by simpa [fl] using hv); exact this) (fun x y => cf x.1 y.1) hO g cb g0 0 c ys.toArray w eg
      (fun m os dk _ x y => cN (hcmp x.1 y.1 x.2 y.2 _) fun e w' ⟨he, hu⟩ => ⟨he, grow_of_upd hu⟩) h9.1 h9.2.2.2 (by rw [← hl] at hsz; simpa using hsz)
    rw [List.size_toArray, hl] at hcall
    refine cN hcall fun e w' ⟨he, d', n, os, hperm, hsort, hw⟩ => ?_
    subst hw
    obtain ⟨ps, _, pp⟩ := hperm
    have hpl : d'.toList.Perm ys := by
      have e0 : (ys.map (·.1)).length = d'.size := by rw [ps]; simp
      have e1 : d'.extract 0 d'.size = d' := Array.extract_size ..
      have e2 : ys.toArray.extract 0 d'.size = ys.toArray := by rw [ps]; exact Array.extract_size ..
      rw [e0, e1, e2] at pp
      simpa using pp
    have h8 := slp_sorted hE' hc' (ys := d'.toList) (by simpa using ps) n os
    rw [Array.toArray_toList] at h8
    refine ⟨⟨d'.toList.map (·.1), hpl.map _, ?_⟩, he, h8.2.2.1.mono (fun b _ hb => by show Option.map _ _ = _; rw [hb]; rfl), ?_, fun b hb => .inl hb⟩
    · rw [List.pairwise_map, List.pairwise_iff_getElem]
      intro i j hi hj hij
      have j1 : d'.size = ys.length := by simpa using ps
      have j2 : j < d'.size := by simpa using hj
      have := hsort i j (Nat.zero_le _) hij (by rw [← hl]; omega)
      rw [ltOf, decide_eq_false_iff_not] at this
      have ei : d'[i]! = d'.toList[i] := by rw [getElem!_pos _ i (by simpa using hi)]; simp
      have ej : d'[j]! = d'.toList[j] := by rw [getElem!_pos _ j (by simpa using hj)]; simp
      rw [ei, ej] at this
      exact this
    · have h7 := h8.2.1
      rw [fl_lift] at h7
      have e3 : (d'.toList.map (·.1)).length = ys.length := by rw [List.length_map, hpl.length_eq]
      show SlP (some ⟨g0, 0, none⟩) (d'.toList.map (·.1)).length c T k (fl enc (d'.toList.map (·.1))) _
      rw [e3]; exact h7
end
end Go.Proofs.YtnpdgmoeoidppaaGreat

/- A map gone through; iterators whose order is open, or that turn what is theirs. -/
namespace Go.Proofs.YtnpdgmoeoidppaaGreat
open Go.RowKit Go.Shelf
set_option linter.unusedVariables false
set_option linter.unusedSimpArgs false

/-- What a map's block holds, of its pairs. -/
structure MpE {α β : Type} (encK : α → Value) (encV : β → Value) (m : List (α × β)) (es : Array MapEntry) (clk : Nat) : Prop where
  key : es.toList.map (·.key) = m.map (fun p => encK p.1)
  val : es.toList.map (·.val) = m.map (fun p => encV p.2)
  nd : (es.toList.map (·.born)).Nodup
  lt : ∀ e ∈ es.toList, e.born < clk
section
variable {x : Cx} {l : Fr} {L S : List Ch} {Q : Exit → Act → World → Prop} {ops : Array Oper} {rest : List Oper} {d : Nat} {ty : TypeId} {pos : String} {af : Array Edge} {gd : Option (Nat × Bool)}
end
section
variable {x : Cx} {l : Fr} {L S : List Ch} {Q : Exit → Act → World → Prop} {ops : Array Oper} {rest : List Oper} {d : Nat} {ty : TypeId} {pos : String} {af : Array Edge}
end
/-! What has been handed out, by places. -/
section
variable {α β : Type} {encK : α → Value} {encV : β → Value} {m : List (α × β)} {es : Array MapEntry} {clk : Nat}
theorem MpE.len (h : MpE encK encV m es clk) : es.toList.length = m.length := by have := congrArg List.length h.key; simpa using this
end
/-! Iterators of open order. -/
/-- .. yields what may be yielded, and at its end what is an end; D is its own. -/
def IterG (P : Program) (gf : FuncId) (lb : List Value) (Sx D D' : List Ch) {α : Type} (enc : α → List Value) (Adm Fin : List α → Prop) : Prop :=
  ∀ (lr : Nat) (σ : Type) (I Ix : List α → σ → Prop) (C : σ → Ch) (Sc : List Ch),
    (∀ pre x g, Adm (pre ++ [x]) → I pre g → Yd P lr (enc x).toArray Sc C g (I (pre ++ [x])) (Ix (pre ++ [x]))) →
    ∀ g, I [] g → UC P gf (.func (.yield lr) #[] #[] :: lb).toArray (Sx ++ Sc) (Ch.all (C g :: D))
      (fun o : {p : Value × σ // (∃ xs, Fin xs ∧ I xs p.2) ∨ ∃ pre, Adm pre ∧ Ix pre p.2} => o.1.1) (fun o => Ch.all (C o.1.2 :: D'))
theorem iterG_of_W {P : Program} {gf : FuncId} {fn : Func} {cd : Code} {lb : List Value} {Sx D D' : List Ch} {α : Type} {enc : α → List Value} {Adm Fin : List α → Prop} (N : Nat) (hf : P.funcs[gf]? = some fn) (hb : fn.body = some cd) (hn : fn.ntmps = N) (hN : Nat.ble (lb.length + 1) N = true)
    (h : ∀ (lr : Nat) (σ : Type) (I Ix : List α → σ → Prop) (C : σ → Ch) (Sc : List Ch), (∀ pre x g, Adm (pre ++ [x]) → I pre g → Yd P lr (enc x).toArray Sc C g (I (pre ++ [x])) (Ix (pre ++ [x]))) → ∀ g, I [] g → ∀ w,
      W ⟨P, none, N, [], (Ch.all (C g :: D)).ok, w⟩ (frm 0 (.func (.yield lr) #[] #[] :: lb)) (C g :: D) (Sx ++ Sc) cd (np (bodyPost P fn fun e w' => ∃ o : {p : Value × σ // (∃ xs, Fin xs ∧ I xs p.2) ∨ ∃ pre, Adm pre ∧ Ix pre p.2}, e = .returned o.1.1 ∧ Upd (Ch.all (C g :: D)).ok w w' ∧ (Ch.all (C o.1.2 :: D')).P w' ∧ ∀ b, (Ch.all (C o.1.2 :: D')).ok b → (Ch.all (C g :: D)).ok b ∨ (w.heap.size ≤ b ∧ b < w'.heap.size)))) :
    IterG P gf lb Sx D D' enc Adm Fin := fun lr σ I Ix C Sc hy g hg w hc hl hR hd =>
  calls_of_WL N hf hb hn hN (Hp.startAll hc hl hR hd) (h lr σ I Ix C Sc hy g hg w)
theorem eb {σ α : Type} {I Ix : List α → σ → Prop} {Adm Fin : List α → Prop} {C : σ → Ch} {g : σ} {w w' : World} {S D D' : List Ch} (v : Value) {g' : σ} (h : (∃ xs, Fin xs ∧ I xs g') ∨ ∃ pre, Adm pre ∧ Ix pre g') (hw : Hp (Ch.all (C g :: D)).ok w (C g' :: D') S w') :
    ∃ o : {p : Value × σ // (∃ xs, Fin xs ∧ I xs p.2) ∨ ∃ pre, Adm pre ∧ Ix pre p.2}, Ending.returned v = .returned o.1.1 ∧ Upd (Ch.all (C g :: D)).ok w w' ∧ (Ch.all (C o.1.2 :: D')).P w' ∧ ∀ b, (Ch.all (C o.1.2 :: D')).ok b → (Ch.all (C g :: D)).ok b ∨ (w.heap.size ≤ b ∧ b < w'.heap.size) :=
  ⟨⟨(v, g'), h⟩, rfl, hw.toAll⟩
theorem all_ok {A B : List Ch} (b : Nat) : (Ch.all (Ch.all A :: B)).ok b ↔ (Ch.all (A ++ B)).ok b := by
  constructor
  · rintro ⟨c, hc, hb⟩
    rcases List.mem_cons.1 hc with rfl | hc
    · obtain ⟨d, hd, hdb⟩ := hb; exact ⟨d, List.mem_append_left _ hd, hdb⟩
    · exact ⟨c, List.mem_append_right _ hc, hb⟩
  · rintro ⟨c, hc, hb⟩
    rcases List.mem_append.1 hc with hc | hc
    · exact ⟨_, .head _, c, hc, hb⟩
    · exact ⟨c, .tail _ hc, hb⟩
theorem all_P {A B : List Ch} {w : World} : (Ch.all (Ch.all A :: B)).P w ↔ (Ch.all (A ++ B)).P w := by
  constructor
  · rintro ⟨h1, h2⟩
    obtain ⟨h3, h4⟩ := h1 _ (.head _)
    obtain ⟨h5, h6⟩ := List.pairwise_cons.1 h2
    refine ⟨fun c hc => (List.mem_append.1 hc).elim (h3 c) (fun q => h1 c (.tail _ q)), List.pairwise_append.2 ⟨h4, h6, fun a ha b hb k hk => h5 b hb k ⟨a, ha, hk⟩⟩⟩
  · rintro ⟨h1, h2⟩
    obtain ⟨h3, h4, h5⟩ := List.pairwise_append.1 h2
    refine ⟨fun c hc => ?_, List.pairwise_cons.2 ⟨fun b hb k ⟨a, ha, hk⟩ => h5 a ha b hb k hk, h4⟩⟩
    rcases List.mem_cons.1 hc with rfl | hc
    · exact ⟨fun c hc => h1 c (List.mem_append_left _ hc), h3⟩
    · exact h1 c (List.mem_append_right _ hc)
section
variable {x : Cx} {l : Fr} {L S : List Ch} {Q : Exit → Act → World → Prop}
theorem range_coreG {P : Program} {N : Nat} {ds : List Deferred} {a : Act} {W1 : World} {ok0 : Nat → Prop} {w0 : World} {gf : FuncId} {lb : List Value} {Sx Bk D D' : List Ch} {α : Type} {enc : α → List Value} {Adm Fin : List α → Prop} {lr : Nat} {r : Loop} {ps : List Nat} {σ : Type} {I : List α → σ → Prop} {Ij : Code → List α → σ → Prop} {Lf : σ → List Ch} {g0 : σ}
    (ha : Kn N ds l a) (hit : IterG P gf lb Sx D D' enc Adm Fin) (hSx : ∀ s ∈ Sx, s ∈ S) (hw : Hp ok0 w0 ((Ch.obj lr (.loop r) :: (Bk ++ Lf g0)) ++ D) S W1)
    (hst : r.state = .ready) (hpe : r.pending = none) (htm : r.tmps = a.tmps) (hpa : r.params = ps.toArray) (hps : ps.all (fun p => Nat.blt p N) = true) (hen : ∀ e, (enc e).length = ps.length) (hI0 : I [] g0)
    (hbody : ∀ pre e g, Adm (pre ++ [e]) → I pre g → ∀ okb wb, W ⟨P, some lr, N, [], okb, wb⟩ (jQ ps (enc e) l) (Ch.obj lr (.loop r) :: (Bk ++ Lf g)) S r.assign
      (Qasg P lr r.body (Qr ⟨P, some lr, N, [], okb, wb⟩ (Ch.obj lr (.loop { r with state := .busy }) :: Bk) (I (pre ++ [e])) (fun c => Ij c (pre ++ [e])) Lf S))) :
    Calls P gf (.func (.yield lr) #[] #[] :: lb).toArray W1 fun e w3 => ∃ v, e = .returned v ∧ ∃ j g', Hp ok0 w0 (Ch.obj lr (.loop { r with state := if Option.isNone j then .ready else .done, pending := j }) :: (Bk ++ Lf g')) S w3 ∧
      (match j with
       | none => ∃ xs, Fin xs ∧ I xs g'
       | some c => ∃ pre, Adm pre ∧ Ij c pre g') := by
  obtain ⟨rec, hrec⟩ : ∃ rec : Option Code → Loop, rec = fun j => { r with state := if Option.isNone j then .ready else .done, pending := j } := ⟨_, rfl⟩
  have hr0 : rec none = r := by rw [hrec]; show ({ r with state := .ready, pending := none } : Loop) = r; rw [← hst, ← hpe]
  let C : Option Code × σ → Ch := fun p => Ch.all (Ch.obj lr (.loop (rec p.1)) :: (Bk ++ Lf p.2))
  have hC0 : C (none, g0) = Ch.all (Ch.obj lr (.loop r) :: (Bk ++ Lf g0)) := by show Ch.all _ = _; rw [hr0]
  have := hit lr (Option Code × σ) (fun pre p => p.1 = none ∧ I pre p.2) (fun pre p => ∃ c, p.1 = some c ∧ Ij c pre p.2) C S ?_ (none, g0) ⟨rfl, hI0⟩ W1
    (by rw [hC0]; exact all_P.2 ⟨hw.own, hw.dj⟩) (by rw [hC0]; exact fun b hb => (all_ok b).1 hb |>.elim fun c h => hw.lt c h.1 b h.2) (fun s hs => hw.rdS ((List.mem_append.1 hs).elim (hSx s) id)) (by rw [hC0]; exact fun s hs b hb => (all_ok b).1 hb |>.elim fun c h => hw.sdj s ((List.mem_append.1 hs).elim (hSx s) id) c h.1 b h.2)
  · refine cN this ?_
    rintro e w3 ⟨⟨⟨v, j, g'⟩, ho⟩, rfl, hu, hp, hb⟩
    rw [hC0] at hu hb
    refine ⟨v, rfl, j, g', ?_, ?_⟩
    · have h9 := hw.all (L' := (Ch.obj lr (.loop (rec j)) :: (Bk ++ Lf g')) ++ D') (hu.mono fun b _ h => (all_ok b).1 h) (all_P.1 hp) (fun b h => (hb b ((all_ok b).2 h)).imp (all_ok b).1 id)
      have h8 := h9.weak (List.sublist_append_left _ _) (fun s hs => hs)
      rw [hrec] at h8
      exact h8
    · rcases ho with ⟨xs, hf, h1, h2⟩ | ⟨pre, h1, c, h2, h3⟩
      · simp only at h1; subst h1; exact ⟨xs, hf, h2⟩
      · simp only at h2; subst h2; exact ⟨pre, h1, h3⟩
  · rintro pre e ⟨j, g⟩ hxs ⟨h1, hI⟩ w1 hp hl hR hd
    simp only at h1 hI
    subst h1
    have hC : C (none, g) = Ch.all (Ch.obj lr (.loop r) :: (Bk ++ Lf g)) := by show Ch.all _ = _; rw [hr0]
    rw [hC] at hp hl hd
    have hh := Hp.startAll hp hl hR hd
    have hrl : w1.heap[lr]? = some (.loop r) := hh.own _ List.mem_cons_self
    have hy := run_yield (P := P) (args := (enc e).toArray) hrl (by rw [hpa]; simpa using hen e)
    refine ⟨_, _, _, _, hy, roundIn_of_wpIn trivial ?_⟩
    have hkz := kn_zipfr (N := N) ps (enc e) l a.tmps hps ha.sz ha.kn
    have hz : (r.params.zip (enc e).toArray).foldl (fun t (x : Nat × Value) => t.setIfInBounds x.1 x.2) r.tmps = (ps.zip (enc e)).foldl (fun t (x : Nat × Value) => t.setIfInBounds x.1 x.2) a.tmps := by
      rw [hpa, htm]
      simp [List.zip_toArray]
    have hW := hbody pre e g hxs hI (Ch.all (Ch.obj lr (.loop r) :: (Bk ++ Lf g))).ok w1
      { tmps := (ps.zip (enc e)).foldl (fun t (x : Nat × Value) => t.setIfInBounds x.1 x.2) a.tmps, defers := [] } w1 ⟨hkz.1, rfl, hkz.2⟩ hh
    have hW2 : r.assign.wpIn ((fw none).inRound lr) 0 P (Qasg P lr r.body (Qr ⟨P, some lr, N, [], (Ch.all (Ch.obj lr (.loop r) :: (Bk ++ Lf g))).ok, w1⟩ (Ch.obj lr (.loop { r with state := .busy }) :: Bk) (I (pre ++ [e])) (fun c => Ij c (pre ++ [e])) Lf S))
        { tmps := (r.params.zip (enc e).toArray).foldl (fun t (x : Nat × Value) => t.setIfInBounds x.1 x.2) r.tmps, defers := [] } w1 := by rw [hz]; exact hW
    refine Code.wpIn_mono ?_ hW2
    have fin : ∀ (jump : Option Code) (g' : σ) (w3 : World), Hp (Ch.all (Ch.obj lr (.loop r) :: (Bk ++ Lf g))).ok w1 (Ch.obj lr (.loop { r with state := .busy }) :: Bk ++ Lf g') S w3 →
        (Instr.endRound lr jump).run P w3 = .ok (.bool jump.isNone) (w3.putObj lr (.loop (rec jump))) ∧ Upd (C (none, g)).ok w1 (w3.putObj lr (.loop (rec jump))) ∧ (C (jump, g')).P (w3.putObj lr (.loop (rec jump))) ∧
        ∀ b, (C (jump, g')).ok b → (C (none, g)).ok b ∨ (w1.heap.size ≤ b ∧ b < (w3.putObj lr (.loop (rec jump))).heap.size) := fun jump g' w3 hw3 => by
      have hl3 : w3.heap[lr]? = some (.loop { r with state := .busy }) := hw3.own _ List.mem_cons_self
      have he := run_endRound (P := P) jump hl3
      have h4 := hw3.putObj (o' := .loop (rec jump)) SetAt.z
      rw [hC]
      refine ⟨?_, h4.toAll⟩
      rw [hrec]; exact he
    intro ex a1 w2 hq
    cases ex with
    | normal =>
      obtain ⟨w3, hbr, hb⟩ := hq
      refine ⟨w3, hbr, Code.wpIn_mono ?_ hb⟩
      intro e2 a3 w4 h
      cases e2 with
      | normal =>
        obtain ⟨g', h1, h2⟩ := h
        obtain ⟨f1, f2, f3, f4⟩ := fin none g' w4 h2
        exact ⟨_, _, f1, (none, g'), f2, f3, f4, .inl ⟨rfl, rfl, h1⟩⟩
      | ret =>
        obtain ⟨g', h1, h2⟩ := h
        obtain ⟨f1, f2, f3, f4⟩ := fin (some .ret) g' w4 h2
        exact ⟨_, _, f1, (some .ret, g'), f2, f3, f4, .inr ⟨rfl, .ret, rfl, h1⟩⟩
      | exit id =>
        obtain ⟨g', h1, h2⟩ := h
        obtain ⟨f1, f2, f3, f4⟩ := fin (some (.exit id)) g' w4 h2
        exact ⟨_, _, f1, (some (.exit id), g'), f2, f3, f4, .inr ⟨rfl, .exit id, rfl, h1⟩⟩
      | goto t =>
        obtain ⟨g', h1, h2⟩ := h
        obtain ⟨f1, f2, f3, f4⟩ := fin (some (.goto t)) g' w4 h2
        exact ⟨_, _, f1, (some (.goto t), g'), f2, f3, f4, .inr ⟨rfl, .goto t, rfl, h1⟩⟩
      | panic ch => exact h.elim
      | outgrown => exact h.elim
    | _ => exact hq.elim
/-- The statement, at an outermost loop, over such an iterator. -/
theorem w_rangeG {gop : Operand} {ps : List Nat} {assign body : Code} {gf : FuncId} {lb : List Value} {Sx D D' : List Ch} {α : Type} {enc : α → List Value} {Adm Fin : List α → Prop} {σ : Type} (I : List α → σ → Prop) (Ij : Code → List α → σ → Prop) (Lf : σ → List Ch) (g0 : σ)
    (hro : x.ro = none) (hg : ev l gop = some (.func (.func gf) #[] lb.toArray)) (hen : Enters x.P gf) (hit : IterG x.P gf lb Sx D D' enc Adm Fin) (hSx : ∀ s ∈ Sx, s ∈ S) (hps : ps.all (fun p => Nat.blt p x.N) = true) (henc : ∀ e, (enc e).length = ps.length) (hI0 : I [] g0) (hL : ∀ w, Hp x.ok0 x.w0 L S w → Hp x.ok0 x.w0 (Lf g0 ++ D) S w)
    (hbody : ∀ pre e g, Adm (pre ++ [e]) → I pre g → ∀ lr D r, r.state = .ready → ∀ okb wb, W ⟨x.P, some lr, x.N, [], okb, wb⟩ (jQ ps (enc e) l) (Ch.obj lr (.loop r) :: Ch.obj D (.deferred (some [])) :: Lf g) S assign
      (Qasg x.P lr body (Qr ⟨x.P, some lr, x.N, [], okb, wb⟩ [Ch.obj lr (.loop { r with state := .busy }), Ch.obj D (.deferred (some []))] (I (pre ++ [e])) (fun c => Ij c (pre ++ [e])) Lf S)))
    (hdone : ∀ g D, (∃ xs, Fin xs ∧ I xs g) → E ⟨x.P, none, x.N, { target := .collected D, args := #[] } :: x.ds, x.ok0, x.w0⟩ l (Ch.obj D (.deferred (some [])) :: Lf g) S .normal Q)
    (hstop : ∀ c pre g D, Adm pre → Ij c pre g → W ⟨x.P, none, x.N, { target := .collected D, args := #[] } :: x.ds, x.ok0, x.w0⟩ l (Ch.obj D (.deferred (some [])) :: Lf g) S c Q) :
    W x l L S (.rangeFunc gop ps.toArray assign body) Q := fun a w ha hw0 => by
  have hw := hL w hw0
  refine wpIn_rangeFunc ?_
  intro fn hfn
  have hround : (fw x.ro).round = none := hro
  rw [hround]
  have h1 := hw.alloc (.deferred (some []))
  have h2 := h1.alloc (.loop { state := .ready, pending := none, fn, tmps := a.tmps, params := ps.toArray, assign, body, defers := w.heap.size })
  have hsz : (w.alloc (.deferred (some []))).heap.size = w.heap.size + 1 := by simp
  rw [hsz] at h2
  refine ⟨w.heap.size + 1, _, _, { target := .fn (.func gf) lb.toArray, args := #[.func (.yield (w.heap.size + 1)) #[] #[]] }, (w.alloc (.deferred (some []))).alloc (.loop { state := .ready, pending := none, fn, tmps := a.tmps, params := ps.toArray, assign, body, defers := w.heap.size }), gf, #[.func (.yield (w.heap.size + 1)) #[] #[]] ++ lb.toArray, (w.alloc (.deferred (some []))).alloc (.loop { state := .ready, pending := none, fn, tmps := a.tmps, params := ps.toArray, assign, body, defers := w.heap.size }), run_enterLoop_outer _ _ _ _ _, ?_, fun _ _ => trivial, ?_, fun h => by simp [fw_dep] at h, ?_⟩
  · simp [resolve, ha.ev hg, Deferred.ofValue]; rfl
  · simp [invoke, hen _ _]
  · have hc := range_coreG (Bk := [Ch.obj w.heap.size (.deferred (some []))]) ha hit hSx h2 rfl rfl rfl rfl hps henc hI0 (fun pre e g hxs hI okb wb => hbody pre e g hxs hI _ _ _ rfl okb wb)
    have e1 : (Value.func (.yield (w.heap.size + 1)) #[] #[] :: lb).toArray = #[.func (.yield (w.heap.size + 1)) #[] #[]] ++ lb.toArray := by simp
    rw [e1] at hc
    refine iN (cN hc ?_)
    rintro e w3 ⟨v, rfl, j, g', h3, hj⟩
    have hl3 := h3.own _ List.mem_cons_self
    refine ⟨j, _, run_endLoop hl3 (by cases j <;> simp), ?_⟩
    have h4 := (h3.putObj (o' := .loop { state := .exhausted, pending := j, fn, tmps := a.tmps, params := ps.toArray, assign, body, defers := w.heap.size }) SetAt.z).weak (List.sublist_cons_self _ _) (fun s hs => hs)
    have hkn : Kn x.N ({ target := .collected w.heap.size, args := #[] } :: x.ds) l { a with defers := [{ target := .collected w.heap.size, args := #[] }] ++ a.defers } := ⟨ha.sz, by simp [ha.df], ha.kn⟩
    cases j with
    | none => exact hdone g' _ hj _ _ hkn h4
    | some c =>
      obtain ⟨pre, hxs, hI⟩ := hj
      have := hstop c pre g' _ hxs hI _ _ hkn h4
      rw [show fw x.ro = fw none by rw [hro]]
      exact this
end
end Go.Proofs.YtnpdgmoeoidppaaGreat
