import Derived.Test.YtnpdgmoeoidppaaGreatPaQx
import Derived.ProofKit
import Derived.Test.YtnpdgmoeoidppaaGreatLlQx
import Derived.ChangeArms
import Derived.ChangeOld
import Derived.Test.YtnpdgmoeoidppaaGreatChQx
/- From a law's call that answers true and turns nothing that lay, to what its row asks. -/
namespace Go.Proofs.YtnpdgmoeoidppaaGreat
open Go.RowKit Go.Shelf Go.ChangeShapes Go.WideShapes Go.ChangeAt
set_option linter.unusedVariables false

theorem stay_all {H : Type} {enc : TypeId × Value → H} {P : Program} (hl : laidOutB P = true) {W W' : World} (hb : Below W.heap.size W W') :
    ∀ {ts : List TypeId} {vs : List Value} {ds : List (DataW H)} {ps : List MemPlace}, ts.all (fun t => P.readableRec t && decide (t < P.types.size)) = true → (∀ x ∈ ps, x.block < W.heap.size) →
      DataW.TrodAll enc P W 0 (fun _ => true) true ts vs ds ps → DataW.TrodAll enc P W' 0 (fun b => decide (b < W.heap.size)) true ts vs ds ps
  | [], [], [], _, _, _, h => h
  | [], [], _ :: _, _, _, _, h => h.elim
  | [], _ :: _, _, _, _, _, h => h.elim
  | _ :: _, [], _, _, _, _, h => h.elim
  | _ :: _, _ :: _, [], _, _, _, h => h.elim
  | t :: ts, v :: vs, d :: ds, ps, hr, hlt, h => by
    obtain ⟨p, q, h1, h2, rfl⟩ := h
    simp only [List.all_cons, Bool.and_eq_true, decide_eq_true_eq] at hr
    exact ⟨p, q, Below.trod hl hr.1.1 hr.1.2 h1 hb (fun x hx => hlt x (List.mem_append_left _ hx)), stay_all hl hb hr.2 (fun x hx => hlt x (List.mem_append_right _ hx)) h2, rfl⟩
theorem keptBut_of {W W' : World} (hb : Upd no W W') (may : MemPlace → Prop) : W.keptBut W' may := by
  refine ⟨hb.os, hb.output, fun i hi => ?_⟩
  rw [hb.block i hi id]
  cases W.heap[i]? with
  | none => rfl
  | some o => cases o <;> simp
theorem law_post {H : Type} {enc : TypeId × Value → H} {P : Program} {f : Func} {s : ChangeSpec} {W W' : World} {args : Array Value} {ds : List (DataW H)} {p : List MemPlace} {tb : TypeId} (hl : laidOutB P = true) (hr : f.params.toList.all (fun t => P.readableRec t && decide (t < P.types.size)) = true) (hv : s.vars = [])
    (hW : DataW.Whole enc P f.params.toList s.vars false W args.toList ds [] p) (hs : s.fn H (ds ++ []) = { results := [.lit (.bool true)], args := ds }) (hrt : f.resultTypes = #[tb]) (hb : P.underlying tb = some .bool) (hu : Upd no W W') :
    s.post enc P f false true false false W args (.bool true) W' := by
  have hlt := hW.lt
  obtain ⟨q, r, h1, h2, rfl, h3, h4⟩ := id hW
  refine ⟨ds, [], q ++ r, [], q, r, hW, ?_, ?_, ?_, ?_, nofun⟩
  · rw [hs, hrt]
    exact trodAll_mk1 (shut_bool hb true)
  · rw [hs]
    exact stay_all hl hu.below hr (fun x hx => hlt x (List.mem_append_left _ hx)) h1
  · rw [hs, hv] at *
    exact h2
  · exact keptBut_of hu _
theorem op_str {P : Program} {W : World} {base : Nat} {t : TypeId} {v : Value} (ht : P.underlying t = some .string) (h : Value.okWide P W .any base t v) : ∃ s : a6, v = .string (ba s) ∧ s.length ≤ 9223372036854775807 := by
  have h2 : IntKind.i64.max = 9223372036854775807 := rfl
  cases v with
  | string s =>
    refine ⟨ls s, rfl, ?_⟩
    have : (s.size : Int) ≤ IntKind.i64.max := by simpa [Value.okWide, Cell.okWide, Cell.ok, ht] using h
    have e : (ls s).length = s.size := by simp [ls]
    omega
  | _ => simp [Value.okWide, Cell.okWide, Cell.ok, ht] at h
end Go.Proofs.YtnpdgmoeoidppaaGreat

/- A law's arguments opened: what a decoded value is, and which chunks it reads. Elements of arrays. -/
namespace Go.Proofs.YtnpdgmoeoidppaaGreat
open Go.RowKit Go.Shelf
set_option linter.unusedVariables false
set_option linter.unusedSimpArgs false

/-- What decodes at a type is an encoding; its chunks lie; so much is known. -/
def Dc (P : Program) (w : World) (t : TypeId) {α : Type} (V : α → List Value) (R : α → List Ch) (Ok : α → Prop) : Prop :=
  ∀ (H : Type) (enc : TypeId × Value → H) (base : Nat) (sp : Nat → Bool) (hd : Bool) (fuel : Nat) (cs : List Value) (x : DataW H × List MemPlace), DataW.trod enc P w base sp hd fuel t cs = some x →
    ∃ a, cs = V a ∧ Rd (R a) w ∧ Ok a
section
variable {P : Program} {w : World} {t : TypeId}
theorem dc_bool (ht : P.underlying t = some .bool) : Dc P w t (fun b : Bool => [.bool b]) (fun _ => []) (fun _ => True) := fun H enc base sp hd fuel cs x h => by
  obtain ⟨b, rfl, _⟩ := DataW.trod_bool ht h
  exact ⟨b, rfl, nofun, trivial⟩
theorem iw {k : IntKind} (ht : P.underlying t = some (.int k)) : Dc P w t (fun n : Int => [.int k n]) (fun _ => []) (fun n => k.min ≤ n ∧ n ≤ k.max) := fun H enc base sp hd fuel cs x h => by
  obtain ⟨n, rfl, _, h3⟩ := DataW.trod_int ht h
  simp only [Lit.wf, Bool.and_eq_true, decide_eq_true_eq] at h3
  exact ⟨n, rfl, nofun, h3⟩
theorem dc_str (ht : P.underlying t = some .string) : Dc P w t (fun s : a6 => [.string (ba s)]) (fun _ => []) (fun s => s.length ≤ 9223372036854775807) := fun H enc base sp hd fuel cs x h => by
  obtain ⟨s, rfl, _, h3⟩ := DataW.trod_string ht h
  have e : (ls s).length = s.size := by simp [ls]
  have h2 : maxLen = 9223372036854775807 := by decide
  exact ⟨ls s, rfl, nofun, by omega⟩
theorem choose_list {α : Type} {p : Nat → α → Prop} : ∀ (n : Nat), (∀ i, i < n → ∃ a, p i a) → ∃ l : List α, l.length = n ∧ ∀ i a, l[i]? = some a → p i a
  | 0, _ => ⟨[], rfl, fun i a h => by simp at h⟩
  | n + 1, h => by
    obtain ⟨l, hl, hp⟩ := choose_list n (fun i hi => h i (by omega))
    obtain ⟨a, ha⟩ := h n (by omega)
    refine ⟨l ++ [a], by simp [hl], fun i b hb => ?_⟩
    by_cases hi : i < n
    · rw [List.getElem?_append_left (by omega)] at hb; exact hp i b hb
    · rw [List.getElem?_append_right (by omega)] at hb
      have : i = n := by
        have := (List.getElem?_eq_some_iff.1 hb).1; simp at this; omega
      subst this
      rw [hl, Nat.sub_self] at hb
      simp at hb; subst hb; exact ha
theorem fl_at2 {α : Type} {V : α → List Value} {sz : Nat} (hV : ∀ a, (V a).length = sz) : ∀ (l : List α) (k f : Nat) (a : α), l[k]? = some a → f < sz → (fl V l)[k * sz + f]? = (V a)[f]?
  | [], k, f, a, h, _ => by simp at h
  | b :: l, 0, f, a, h, hf => by
    simp at h; subst h
    show (V b ++ fl V l)[_]? = _
    rw [Nat.zero_mul, Nat.zero_add, List.getElem?_append_left (by rw [hV]; exact hf)]
  | b :: l, k + 1, f, a, h, hf => by
    show (V b ++ fl V l)[_]? = _
    rw [List.getElem?_append_right (by rw [hV, Nat.succ_mul]; omega), hV]
    have := fl_at2 hV l k f a (by simpa using h) hf
    rw [← this]; congr 1; rw [Nat.succ_mul]; omega
/-- A slice: where it lies, what it holds; the chunks of its elements. -/
theorem jy {e : TypeId} {α : Type} {V : α → List Value} {R : α → List Ch} {Ok : α → Prop} {sz : Nat} (ht : P.underlying t = some (.slice e)) (hc : P.cellsOf e = sz) (hz : 0 < sz) (hV : Enc V sz) (he : Dc P w e V R Ok) :
    Dc P w t (fun p : List α × Option Addr × Nat => [.slice p.2.1 p.1.length p.2.2]) (fun p => Ch.rd p.2.1 sz V p.1 :: p.1.flatMap R) (fun p => p.1.length ≤ 9223372036854775807 ∧ ∀ a ∈ p.1, Ok a) := fun H enc base sp hd fuel cs x h => by
  rcases DataW.trod_slice ht h with ⟨rfl, rfl⟩ | ⟨a, len, cap, els, rest, n, rfl, rfl, rfl, hb, h1, h2, h3, h4, _⟩
  · exact ⟨([], none, 0), rfl, az ⟨⟨by simp [fl], (by simp [fl]), .inl rfl⟩, fun b hb => by simp [Ch.rd, Ch.rs] at hb⟩ nofun, by simp, nofun⟩
  · subst hc
    have key : ∀ i, i < len → ∃ y : α, (∀ j, j < P.cellsOf e → w.cell? (a.add (i * P.cellsOf e + j)) = (V y)[j]?) ∧ Rd (R y) w ∧ Ok y ∧ (0 < P.cellsOf e → a.block < w.heap.size ∧ a.spot = none) := fun i hi => by
      have h5 := h4 i hi
      cases hcs : w.cells? base (a.add (i * P.cellsOf e)) (P.cellsOf e) with
      | none =>
        rw [hcs, List.getElem?_eq_getElem (by omega)] at h5; simp at h5
      | some cs =>
        rw [hcs, List.getElem?_eq_getElem (by omega)] at h5
        obtain ⟨y, rfl, hR, hO⟩ := he H enc base sp hd n cs _ h5
        obtain ⟨_, _, h6⟩ := World.cells?_some hcs
        have h7 : ∀ j, j < P.cellsOf e → w.cell? (a.add (i * P.cellsOf e + j)) = (V y)[j]? := fun j hj => by
          rw [← h6 j hj]; congr 1
          unfold Addr.add
          split
          · rename_i hz
            have : i * P.cellsOf e = 0 := by omega
            have : j = 0 := by omega
            simp [*]
          · split
            · split
              · omega
              · simp_all
            · split
              · simp_all
              · simp; omega
        refine ⟨y, h7, hR, hO, fun hp => ?_⟩
        have h8 := World.cells?_block hcs hp
        have h9 : (a.add (i * P.cellsOf e)).block = a.block := by unfold Addr.add; split <;> rfl
        rw [h9] at h8
        refine ⟨h8, ?_⟩
        cases hs : a.spot with
        | none => rfl
        | some s =>
          exfalso
          by_cases hi0 : i * P.cellsOf e = 0
          · have h10 := h7 0 hp
            have h11 : a.add (i * P.cellsOf e + 0) = a := by unfold Addr.add; rw [if_pos (by omega)]
            rw [h11, List.getElem?_eq_getElem (by rw [hV.len]; exact hp)] at h10
            unfold World.cell? at h10
            simp [hs] at h10
            split at h10 <;> simp at h10
          · have h12 := h4 0 (by omega)
            cases hcs0 : w.cells? base (a.add (0 * P.cellsOf e)) (P.cellsOf e) with
            | none => rw [hcs0, List.getElem?_eq_getElem (by omega)] at h12; simp at h12
            | some cs0 =>
              obtain ⟨_, h14, h13⟩ := World.cells?_some hcs0
              have h15 := h13 0 hp
              have h16 : (a.add (0 * P.cellsOf e)).add 0 = a := by simp [Addr.add]
              rw [h16, List.getElem?_eq_getElem (by omega)] at h15
              unfold World.cell? at h15
              simp [hs] at h15
              split at h15 <;> simp at h15
    obtain ⟨l, hl, hp⟩ := choose_list len key
    have hsz : (fl V l).length = l.length * P.cellsOf e := eD hV.len l
    refine ⟨(l, some a, cap), by rw [← hl], List.forall_mem_cons.2 ⟨⟨⟨hsz, ?_, ?_⟩, ?_⟩, ?_⟩, ?_, ?_⟩
    · intro u hu
      simp only [fl, List.mem_flatten, List.mem_map] at hu
      obtain ⟨_, ⟨b, _, rfl⟩, hu⟩ := hu
      exact List.all_eq_true.1 (hV.one b) u hu
    · rcases Nat.eq_zero_or_pos l.length with h0 | h0
      · exact .inl h0
      · refine .inr ⟨a.block, a.off, ?_, fun i hi => ?_⟩
        · obtain ⟨y, hy⟩ : ∃ y, l[0]? = some y := ⟨_, List.getElem?_eq_getElem h0⟩
          have h17 := ((hp 0 y hy).2.2.2 hz).2
          show some a = _
          congr 1
          cases a
          simp only at h17
          rw [h17]
        · have hk : i / P.cellsOf e < l.length := by
            rw [Nat.div_lt_iff_lt_mul hz, ← hsz]; exact hi
          obtain ⟨y, hy⟩ : ∃ y, l[i / P.cellsOf e]? = some y := ⟨_, List.getElem?_eq_getElem hk⟩
          have hm : i % P.cellsOf e < P.cellsOf e := Nat.mod_lt _ hz
          have e1 : i / P.cellsOf e * P.cellsOf e + i % P.cellsOf e = i := by rw [Nat.mul_comm]; exact Nat.div_add_mod i _
          have q := (hp _ y hy).1 _ hm
          rw [e1] at q
          have q2 := fl_at2 hV.len l _ _ y hy hm
          rw [e1] at q2
          rw [q2, ← q]
          have hsp := ((hp _ y hy).2.2.2 hz).2
          congr 1
          unfold Addr.add
          split
          · rename_i h0; subst h0; cases a; simp_all
          · rfl
    · rintro b ⟨hb0, hb⟩
      simp at hb; subst hb
      obtain ⟨y, hy⟩ : ∃ y, l[0]? = some y := ⟨_, List.getElem?_eq_getElem hb0⟩
      exact ((hp 0 y hy).2.2.2 hz).1
    · intro s hs
      obtain ⟨y, hy, hs⟩ := List.mem_flatMap.1 hs
      obtain ⟨i, hi, rfl⟩ := List.mem_iff_getElem.1 hy
      exact (hp i _ (List.getElem?_eq_getElem hi)).2.1 s hs
    · have h3 : maxLen = 9223372036854775807 := by decide
      show l.length ≤ _
      omega
    · intro y hy
      obtain ⟨i, hi, rfl⟩ := List.mem_iff_getElem.1 hy
      exact (hp i _ (List.getElem?_eq_getElem hi)).2.2.1
theorem cutn {cs : List Value} {n : Nat} (h : cs.length = n) : cs.drop n = [] := List.drop_of_length_le (by omega)
theorem iB {cs v r : List Value} {a b k : Nat} (h : (cs.drop a).take k = v) (hr : cs.drop b = r) (e : a + k = b) : cs.drop a = v ++ r := by
  rw [← h, ← hr, ← e, ← List.drop_drop, List.take_append_drop]
theorem cut0 {cs v : List Value} (h : cs.drop 0 = v) : cs = v := h
/-- A struct's field. -/
theorem dH {H : Type} {enc : TypeId × Value → H} {base : Nat} {sp : Nat → Bool} {hd : Bool} {n : Nat} {cs : List Value} {fs : Array Field} {xs : List (DataW H × List MemPlace)} {α : Type} {V : α → List Value} {R : α → List Ch} {Ok : α → Prop}
    (hxl : xs.length = fs.size) (hf : ∀ (i : Nat) (f : Field), fs[i]? = some f → DataW.trod enc P w base sp hd n f.type ((cs.drop f.offset).take (P.cellsOf f.type)) = xs[i]?) (i : Nat) {ft : TypeId} {off k : Nat} (hi : (fs[i]?).map (fun f => (f.type, f.offset)) = some (ft, off)) (hk : P.cellsOf ft = k) (h : Dc P w ft V R Ok) :
    ∃ a, (cs.drop off).take k = V a ∧ Rd (R a) w ∧ Ok a := by
  subst hk
  cases hfi : fs[i]? with
  | none => rw [hfi] at hi; cases hi
  | some f =>
    rw [hfi] at hi
    simp only [Option.map_some, Option.some.injEq, Prod.mk.injEq] at hi
    obtain ⟨rfl, rfl⟩ := hi
    have h1 := hf i f hfi
    have h2 : i < fs.size := (Array.getElem?_eq_some_iff.1 hfi).1
    rw [List.getElem?_eq_getElem (by omega)] at h1
    exact h H enc base sp hd n _ _ h1
/-- An argument of a law's row: a struct, a slice. -/
theorem op_agg {H : Type} {enc : TypeId × Value → H} {W : World} {base b0 : Nat} {sp : Nat → Bool} {hd : Bool} {v : Value} {d : DataW H} {ps : List MemPlace} {fs : Array Field} {α : Type} {V : α → List Value} {R : α → List Ch} {Ok : α → Prop} (ht : P.underlying t = some (.struct fs)) (hval : Value.okWide P W .any base t v) (h : DataW.Trod enc P w b0 sp hd t v d ps) (hd : Dc P w t V R Ok) :
    ∃ a, v = .agg (V a).toArray ∧ Rd (R a) w ∧ Ok a := by
  simp only [Value.okWide, ht] at hval
  obtain ⟨cs, rfl, _⟩ := hval
  obtain ⟨fuel, hf⟩ := h
  obtain ⟨a, h1, h2, h3⟩ := hd _ _ _ _ _ _ _ _ hf
  simp only [Value.cells] at h1
  exact ⟨a, by rw [← h1], h2, h3⟩
end
/-- Of each slot only what was put last. -/
def Kn2 (l' : Fr) : List Nat → Fr → Prop
  | _, [] => True
  | seen, (t, v) :: r => match seen.elem t with
    | true => Kn2 l' seen r
    | false => look l' t = some v ∧ Kn2 l' (t :: seen) r
theorem Kn2.look {l' : Fr} : ∀ {seen : List Nat} {l : Fr}, Kn2 l' seen l → ∀ t v, Go.Proofs.YtnpdgmoeoidppaaGreat.look l t = some v → seen.elem t = false → Go.Proofs.YtnpdgmoeoidppaaGreat.look l' t = some v
  | seen, [], _, t, v, h, _ => by cases h
  | seen, (t0, v0) :: r, h, t, v, ht, hs => by
    rw [Kn2] at h
    simp only [Go.Proofs.YtnpdgmoeoidppaaGreat.look] at ht
    cases e : Nat.beq t0 t with
    | true =>
      have e2 := Nat.eq_of_beq_eq_true e; subst e2
      rw [hs] at h
      rw [e] at ht
      cases ht; exact h.1
    | false =>
      rw [e] at ht
      have hne : ¬ t = t0 := fun h2 => Nat.ne_of_beq_eq_false e h2.symm
      cases h0 : seen.elem t0 with
      | true => rw [h0] at h; exact Kn2.look h t v ht hs
      | false => rw [h0] at h; exact Kn2.look h.2 t v ht (by rw [List.elem_cons, hs, beq_eq_false_iff_ne.2 hne])
section
variable {x : Cx} {l : Fr} {L S : List Ch} {Q : Exit → Act → World → Prop} {d : Nat} {ty : TypeId} {pos : String} {af : Array Edge} {gd : Option (Nat × Bool)}
/-- A loop that turns the chunks ahead. -/
theorem w_loopL {c : Code} {σ : Type} {L0 : List Ch} (ts : List Nat) (I : σ → Prop) (μ : σ → Nat) (lf : σ → Fr) (C : σ → List Ch) (g0 : σ) (h0 : I g0) (hk : Knows l (lf g0)) (hc : L = C g0 ++ L0)
    (body : ∀ g, I g → W x (lf g ++ fY ts l) (C g ++ L0) S c (Ql x I lf (fun g => C g ++ L0) (fun _ => S) (fY ts l) (fun g' => μ g' < μ g) Q)) : W x l L S (.loop c) Q :=
  w_loop ts I μ lf (fun g => C g ++ L0) (fun _ => S) g0 h0 hk (fun _ h => hc ▸ h) body
end
/-! Where several operations may come up: each of them. -/
def WR (x : Cx) (C : World → Prop) (m : Nat) (ops : Array Oper) (fuel : Nat) (listed : Array Bool) (js : List Nat) (l : Fr) (L S : List Ch) (Q : Exit → Act → World → Prop) : Prop :=
  ∀ i ∈ js, ∀ a w, Kn x.N x.ds l a → Hp x.ok0 x.w0 L S w → wpOp x.P ops Q i (fun a' w' => (i < m → C w') ∧ jt x.P ops Q C m fuel (listed.setIfInBounds i true) a' w') a w
section
variable {x : Cx} {C : World → Prop} {l : Fr} {L S : List Ch} {Q : Exit → Act → World → Prop} {ops : Array Oper} {fuel m : Nat} {listed : Array Bool}
theorem a_many {js : List Nat} (hr : Region.ready .any ops listed = js) (hne : js.isEmpty = false) (h : WR x C m ops fuel listed js l L S Q) : WA x C m ops (fuel + 1) listed l L S Q := fun a w ha hh =>
  ⟨fun h0 => by rw [hr] at h0; subst h0; simp at hne, fun j hj => h j (hr ▸ hj) a w ha hh⟩
theorem wr_nil : WR x C m ops fuel listed [] l L S Q := fun i hi => by cases hi
theorem wr_cons {js : List Nat} {o : Oper} {i : Nat} {listed' : Array Bool} (hro : x.ro = none) (hi : ops[i]? = some o) (hnd : Op.isDefer o.op = false) (ht : ∀ a w, Kn x.N x.ds l a → Tame ((execOp a.eval o).run x.P w)) (hl : listed.setIfInBounds i true = listed')
    (h : WL x l L S ops [o] (Qn x C m i ops fuel listed' Q)) (k : WR x C m ops fuel listed js l L S Q) : WR x C m ops fuel listed (i :: js) l L S Q := fun j hj => by
  rcases List.mem_cons.1 hj with rfl | hj
  · intro a w ha hh
    rw [hl]
    refine g4 hi ?_
    have h1 := h a w ha hh
    rw [hro] at h1
    unfold wpListIn at h1
    unfold wpList
    split
    · rename_i hw
      rw [if_pos hw] at h1
      obtain ⟨_, h1⟩ := h1
      have e : Oper.semAt (fw none).round a.eval o = execOp a.eval o := rfl
      rw [e] at h1
      refine .inl ?_
      unfold Oper.wp
      have ht' := ht a w ha
      cases hx : (execOp a.eval o).run x.P w with
      | halt hh w' => rw [hx] at h1; cases hh <;> exact h1
      | ok n w' =>
        rw [hx] at h1 ht'
        cases n with
        | value v => exact h1
        | skip => exact h1
        | enter f args =>
          have := (callsIn_wide (n := 0 - 1)).1 (show CallsIn Fence.wide (0 - 1) x.P f args w' _ from h1.2)
          exact cN this fun e w'' hR => by cases e <;> exact hR
        | _ => exact ht'.elim
    · rename_i hw
      rw [if_neg hw] at h1
      exact h1.2
  · exact k j hj
end
/-! Regions with open order once more: C is kept as long as nothing of the tail has come up. -/
def eL (m : Nat) (listed : Array Bool) : Bool := (List.range listed.size).all fun t => Nat.blt t m || !(listed.getD t false)
theorem getD_set_ne' {l : Array Bool} {i j : Nat} {v d : Bool} (h : i ≠ j) : (l.setIfInBounds i v).getD j d = l.getD j d := by
  simp [Array.getD_eq_getD_getElem?, Array.getElem?_setIfInBounds_ne h]
theorem fH {m : Nat} {listed : Array Bool} {j : Nat} (h : eL m listed = true) (hj : j < m) : eL m (listed.setIfInBounds j true) = true := by
  simp only [eL, List.all_eq_true, List.mem_range, Array.size_setIfInBounds, Bool.or_eq_true] at h ⊢
  intro t ht
  rcases h t ht with h1 | h1
  · exact .inl h1
  · by_cases e : j = t
    · subst e; exact .inl (Nat.ble_eq_true_of_le hj)
    · right
      rw [getD_set_ne' e]; exact h1
def jv (P : Program) (ops : Array Oper) (Q : Exit → Act → World → Prop) (C : World → Prop) (m : Nat) : Nat → Array Bool → Act → World → Prop
  | 0, listed, a, _w => Region.ready .any ops listed = [] ∧ Q .normal a _w
  | fuel + 1, listed, a, w =>
    (Region.ready .any ops listed = [] → Q .normal a w) ∧
    ∀ i ∈ Region.ready .any ops listed, wpOp P ops Q i (fun a' w' => (eL m (listed.setIfInBounds i true) = true → C w') ∧ jv P ops Q C m fuel (listed.setIfInBounds i true) a' w') a w
theorem jw {P : Program} {ops : Array Oper} {Q : Exit → Act → World → Prop} {C : World → Prop} {m : Nat} : ∀ (fuel : Nat) (listed : Array Bool) (a : Act) (w : World), jv P ops Q C m fuel listed a w → wpAny P .any ops Q fuel listed a w
  | 0, _, _, _, h => h
  | fuel + 1, _, _, _, h => ⟨h.1, fun i hi => wpOp_mono (fun a' w' h' => jw fuel _ a' w' h'.2) (h.2 i hi)⟩
/-- .. waits for it, through others. -/
def waits (ops : Array Oper) : Nat → Nat → Nat → Bool
  | 0, _, _ => false
  | f + 1, t, i => match ops[t]? with
    | some o => o.after.any fun e => Region.binds .any e && (e.on == i || waits ops f e.on i)
    | none => false
def iK (ops : Array Oper) (m i : Nat) : Bool := (List.range ops.size).all fun t => Nat.blt t m || waits ops ops.size t i
def iP (ops : Array Oper) (listed : Array Bool) : Bool := (List.range ops.size).all fun k => !(listed.getD k false) || match ops[k]? with
  | some o => o.after.all fun e => !(Region.binds .any e) || listed.getD e.on false
  | none => true
def iS (ops : Array Oper) (listed : Array Bool) : Prop := ∀ k o, ops[k]? = some o → listed.getD k false = true → ∀ e ∈ o.after, Region.binds .any e = true → listed.getD e.on false = true
theorem i5 {ops : Array Oper} {listed : Array Bool} (h : iP ops listed = true) : iS ops listed := fun k o ho hk e he hb => by
  simp only [iP, List.all_eq_true, List.mem_range] at h
  have h1 := h k (Array.getElem?_eq_some_iff.1 ho).1
  simp only [hk, ho, Bool.not_true, Bool.false_or] at h1
  have h2 := Array.all_eq_true'.1 h1 e he
  simpa [hb] using h2
theorem io {ops : Array Oper} {listed : Array Bool} (hc : iS ops listed) {i : Nat} : ∀ (f t : Nat) (o : Oper), ops[t]? = some o → (∀ e ∈ o.after, Region.binds .any e = true → listed.getD e.on false = true) → waits ops f t i = true → listed.getD i false = true
  | 0, _, _, _, _, h => by cases h
  | f + 1, t, o, ho, hd, h => by
    rw [waits, ho] at h
    obtain ⟨e, he, hb⟩ := Array.any_eq_true'.1 h
    simp only [Bool.and_eq_true, Bool.or_eq_true, beq_iff_eq] at hb
    have hl := hd e he hb.1
    rcases hb.2 with h1 | h1
    · rw [← h1]; exact hl
    · cases hoe : ops[e.on]? with
      | none =>
        exfalso
        cases f with
        | zero => cases h1
        | succ f =>
          rw [waits, hoe] at h1
          cases h1
      | some oe => exact io hc f e.on oe hoe (fun e2 h2 h3 => hc e.on oe hoe hl e2 h2 h3) h1
theorem closed_set {ops : Array Oper} {listed : Array Bool} {j : Nat} {oj : Oper} (h : iS ops listed) (hoj : ops[j]? = some oj) (hd : ∀ e ∈ oj.after, Region.binds .any e = true → listed.getD e.on false = true) : iS ops (listed.setIfInBounds j true) := fun k o ho hk e he hb => by
  have mono : ∀ q, listed.getD q false = true → (listed.setIfInBounds j true).getD q false = true := fun q hq => by
    by_cases e2 : j = q
    · subst e2
      have : j < listed.size := by
        rcases Nat.lt_or_ge j listed.size with h' | h'
        · exact h'
        · simp [Array.getElem?_eq_none h'] at hq
      simp [this]
    · rw [getD_set_ne' e2]; exact hq
  refine mono _ ?_
  by_cases e2 : j = k
  · subst e2; rw [hoj] at ho; cases ho; exact hd e he hb
  · rw [getD_set_ne' e2] at hk; exact h k o ho hk e he hb
theorem jN {P : Program} {ops : Array Oper} {Q : Exit → Act → World → Prop} {C : World → Prop} {m i : Nat} {oi : Oper} {v : Value} (hi : ops[i]? = some oi) (hsel : ∀ (j : Nat) (o : Oper) cs b, ops[j]? = some o → o.op ≠ .select cs b)
    (hQ : ∀ c a w, Q (.panic c) (a.put oi.dst v) w → Q (.panic c) a w) (hm : iK ops m i = true) (him : i < m) :
    ∀ (fuel : Nat) (listed : Array Bool) (a : Act) (w : World), eL m listed = true → iS ops listed →
      (∀ j oj, ops[j]? = some oj → j ≠ i → listed.getD j true = false → (∀ e ∈ oj.after, Region.binds .any e = true → e.on ≠ i) → oi.apart ops oj = true) →
      i ∈ Region.ready .any ops listed → YieldsIf P ops C oi v a → C w →
      jv P ops Q C m fuel (listed.setIfInBounds i true) (a.put oi.dst v) w → jv P ops Q C m (fuel + 1) listed a w := by
  intro fuel
  induction fuel with
  | zero =>
    intro listed a w hnt hcl _ hr hy hS H
    refine ⟨fun h => (by rw [h] at hr; cases hr), fun j hj => ?_⟩
    by_cases hji : j = i
    · subst hji; exact hy.wpOp hi hS ⟨fun _ => hS, H⟩
    · have := ready_mono hj hji
      rw [H.1] at this
      cases this
  | succ fuel ih =>
    intro listed a w hnt hcl hfree hr hy hS H
    refine ⟨fun h => (by rw [h] at hr; cases hr), fun j hj => ?_⟩
    by_cases hji : j = i
    · subst hji; exact hy.wpOp hi hS ⟨fun _ => hS, H⟩
    · have h1 := H.2 j (ready_mono hj hji)
      obtain ⟨hjun, oj, hoj, hall⟩ := mem_ready.1 hj
      have hun : listed.getD i false = false := by
        have h0 := (mem_ready.1 hr).1
        rcases Nat.lt_or_ge i listed.size with h' | h'
        · simpa [h'] using h0
        · simp [Array.getElem?_eq_none h']
      have hnot : ∀ e ∈ oj.after, Region.binds .any e = true → e.on ≠ i := fun e he hb heq => by
        have h1 := hall e he hb
        rw [heq, hun] at h1
        cases h1
      have hjm : j < m := by
        rcases Nat.lt_or_ge j m with h | h
        · exact h
        · simp only [iK, List.all_eq_true, List.mem_range] at hm
          have h1 := hm j (Array.getElem?_eq_some_iff.1 hoj).1
          rw [Bool.or_eq_true] at h1
          rcases h1 with h1 | h1
          · have := Nat.le_of_ble_eq_true h1; omega
          · rw [io hcl _ j oj hoj hall h1] at hun; cases hun
      have h2 := wpOp_putIf hoj (hfree j oj hoj hji hjun hnot) (fun cs b => hsel i oi cs b hi) (fun cs b => hsel j oj cs b hoj) hQ hy h1
      have hfree' : ∀ k ok, ops[k]? = some ok → k ≠ i → (listed.setIfInBounds j true).getD k true = false →
          (∀ e ∈ ok.after, Region.binds .any e = true → e.on ≠ i) → oi.apart ops ok = true := fun k ok hk hki hun' hno => by
        refine hfree k ok hk hki ?_ hno
        by_cases hjk : j = k
        · subst hjk; exact hjun
        · rw [getD_set_ne true hjk] at hun'; exact hun'
      have hC := fH (fH hnt him) hjm
      refine wpOp_mono (fun a' w' h3 => ⟨fun _ => h3.2.1 hC, ih (listed.setIfInBounds j true) a' w' (fH hnt hjm) (closed_set hcl hoj hall) hfree' (ready_mono hr (Ne.symm hji)) h3.1 (h3.2.1 hC) ?_⟩) h2
      rw [Array.setIfInBounds_comm _ _ hji]
      exact h3.2.2
def WU (x : Cx) (C : World → Prop) (m : Nat) (ops : Array Oper) (fuel : Nat) (listed : Array Bool) (l : Fr) (L S : List Ch) (Q : Exit → Act → World → Prop) : Prop :=
  ∀ a w, Kn x.N x.ds l a → Hp x.ok0 x.w0 L S w → jv x.P ops Q C m fuel listed a w
def QnU (x : Cx) (C : World → Prop) (m : Nat) (ops : Array Oper) (fuel : Nat) (listed : Array Bool) (Q : Exit → Act → World → Prop) : Exit → Act → World → Prop := Exit.then (fun a w => (eL m listed = true → C w) ∧ jv x.P ops Q C m fuel listed a w) Q
def WRU (x : Cx) (C : World → Prop) (m : Nat) (ops : Array Oper) (fuel : Nat) (listed : Array Bool) (js : List Nat) (l : Fr) (L S : List Ch) (Q : Exit → Act → World → Prop) : Prop :=
  ∀ i ∈ js, ∀ a w, Kn x.N x.ds l a → Hp x.ok0 x.w0 L S w → wpOp x.P ops Q i (fun a' w' => (eL m (listed.setIfInBounds i true) = true → C w') ∧ jv x.P ops Q C m fuel (listed.setIfInBounds i true) a' w') a w
section
variable {x : Cx} {C : World → Prop} {l : Fr} {L S : List Ch} {Q : Exit → Act → World → Prop} {ops : Array Oper} {fuel m : Nat} {listed : Array Bool}
theorem e7 {id : Nat} {ol : List Oper} (m : Nat) (hro : x.ro = none) (hm : x.P.follows .mixedOrders = true) (h : WU x (Hp x.ok0 x.w0 L S) m ol.toArray ol.length (Array.replicate ol.length false) l L S Q) : W x l L S (.region id ol.toArray true) Q := fun a w ha hw => by
  rw [hro]
  refine (wpIn_wide (n := 0)).2 (wp_region_any hm (jw (C := Hp x.ok0 x.w0 L S) (m := m) _ _ _ _ ?_))
  have := h a { w with drawn := w.drawn + 1 } ha hw.drew
  simpa using this
theorem aI {i d : Nat} {op : Op} {ty : TypeId} {pos : String} {af : Array Edge} {gd : Option (Nat × Bool)} {v : Value} {listed' : Array Bool} {L0 S0 : List Ch} (hi : ops[i]? = some ⟨some d, op, ty, pos, af, gd⟩) (hw : ∀ a, Kn x.N x.ds l a → Region.wanted ⟨some d, op, ty, pos, af, gd⟩ (yielded ops a.tmps) = true)
    (hy : Yv x l L0 S0 ⟨some d, op, ty, pos, af, gd⟩ v) (hC : ∀ w, Hp x.ok0 x.w0 L S w → C w) (hC0 : ∀ w, C w → Hp x.ok0 x.w0 L0 S0 w) (hN : Nat.blt d x.N = true) (hpk : jS Q)
    (hs : (Region.noSelect ops && Region.free .any ops listed i && (Region.ready .any ops listed).contains i && iK ops m i && Nat.blt i m && eL m listed && iP ops listed) = true) (hl : listed.setIfInBounds i true = listed')
    (k : WU x C m ops fuel listed' ((d, v) :: l) L S Q) : WU x C m ops (fuel + 1) listed l L S Q := fun a w ha hh => by
  simp only [Bool.and_eq_true] at hs
  obtain ⟨⟨⟨⟨⟨⟨h1, h2⟩, h3⟩, h4⟩, h5⟩, h6⟩, h7⟩ := hs
  exact jN hi (Region.noSelect_spec h1) (fun c a w h => hpk c a w _ _ h) h4 (Nat.le_of_ble_eq_true h5) fuel listed a w h6 (i5 h7) (Region.free_spec hi h2) (by simpa using h3) (.inl ⟨hw a ha, fun w' hw' => hy a w' ha (hC0 w' hw')⟩) (hC w hh) (by rw [hl]; exact k _ w (ha.put (Nat.le_of_ble_eq_true hN) v) hh)
theorem aT {C : World → Prop} {l : Fr} {L S : List Ch} (hC : ∀ w, Hp x.ok0 x.w0 L S w → C w) (h : WU x C m ops fuel listed l L S Q) : E x l L S .normal (QnU x C m ops fuel listed Q) := fun a w ha hw => ⟨fun _ => hC w hw, h a w ha hw⟩
theorem cW {C : World → Prop} {l : Fr} {L S : List Ch} (hi : eL m listed = false) (h : WU x C m ops fuel listed l L S Q) : E x l L S .normal (QnU x C m ops fuel listed Q) := fun a w ha hw => ⟨fun h' => absurd (hi.symm.trans h') (by decide), h a w ha hw⟩
theorem de {js : List Nat} (hr : Region.ready .any ops listed = js) (hne : js.isEmpty = false) (h : WRU x C m ops fuel listed js l L S Q) : WU x C m ops (fuel + 1) listed l L S Q := fun a w ha hh =>
  ⟨fun h0 => by rw [hr] at h0; subst h0; simp at hne, fun j hj => h j (hr ▸ hj) a w ha hh⟩
theorem cH : WRU x C m ops fuel listed [] l L S Q := fun i hi => by cases hi
theorem bi {js : List Nat} {o : Oper} {i : Nat} {listed' : Array Bool} (hro : x.ro = none) (hi : ops[i]? = some o) (hnd : Op.isDefer o.op = false) (ht : ∀ a w, Kn x.N x.ds l a → Tame ((execOp a.eval o).run x.P w)) (hl : listed.setIfInBounds i true = listed')
    (h : WL x l L S ops [o] (QnU x C m ops fuel listed' Q)) (k : WRU x C m ops fuel listed js l L S Q) : WRU x C m ops fuel listed (i :: js) l L S Q := fun j hj => by
  rcases List.mem_cons.1 hj with rfl | hj
  · intro a w ha hh
    rw [hl]
    refine g4 hi ?_
    have h1 := h a w ha hh
    rw [hro] at h1
    unfold wpListIn at h1
    unfold wpList
    split
    · rename_i hw
      rw [if_pos hw] at h1
      obtain ⟨_, h1⟩ := h1
      have e : Oper.semAt (fw none).round a.eval o = execOp a.eval o := rfl
      rw [e] at h1
      refine .inl ?_
      unfold Oper.wp
      have ht' := ht a w ha
      cases hx : (execOp a.eval o).run x.P w with
      | halt hh w' => rw [hx] at h1; cases hh <;> exact h1
      | ok n w' =>
        rw [hx] at h1 ht'
        cases n with
        | value v => exact h1
        | skip => exact h1
        | enter f args =>
          have := (callsIn_wide (n := 0 - 1)).1 (show CallsIn Fence.wide (0 - 1) x.P f args w' _ from h1.2)
          exact cN this fun e w'' hR => by cases e <;> exact hR
        | _ => exact ht'.elim
    · rename_i hw
      rw [if_neg hw] at h1
      exact h1.2
  · exact k j hj
theorem bl {o : Oper} {i : Nat} {listed' : Array Bool} (hro : x.ro = none) (hi : ops[i]? = some o) (hnd : Op.isDefer o.op = false) (ht : ∀ a w, Kn x.N x.ds l a → Tame ((execOp a.eval o).run x.P w)) (hr : Region.ready .any ops listed = [i]) (hl : listed.setIfInBounds i true = listed')
    (h : WL x l L S ops [o] (QnU x C m ops fuel listed' Q)) : WU x C m ops (fuel + 1) listed l L S Q := de hr rfl (bi hro hi hnd ht hl h cH)
theorem dT {t : Nat} {v : Value} (v' : Value) (h : look l t = some v) (e : v = v') (k : WU x C m ops fuel listed ((t, v') :: l) L S Q) : WU x C m ops fuel listed l L S Q := fun a w ha hw => k a w (ha.mono fun t' u h' => by
    simp only [look] at h'
    cases e2 : Nat.beq t t' with
    | true => rw [e2] at h'; cases h'; rw [← Nat.eq_of_beq_eq_true e2, h, e]
    | false => rw [e2] at h'; exact h') hw
theorem cw {fuel : Nat} (hr : Region.ready .any ops listed = []) (h : E x l L S .normal Q) : WU x C m ops fuel listed l L S Q := fun a w ha hh => by
  cases fuel with
  | zero => exact ⟨hr, h a w ha hh⟩
  | succ n => exact ⟨fun _ => h a w ha hh, by rw [hr]; simp⟩
end
end Go.Proofs.YtnpdgmoeoidppaaGreat

/- the references of data and records; where entries lie -/
namespace Go.Proofs.YtnpdgmoeoidppaaGreat
open Go.RowKit Go.Shelf
set_option linter.unusedVariables false
set_option linter.unusedSimpArgs false

/-- What a type has. -/
structure Hs where
  addr : Bool
  name : Bool
  mail : Bool
  texts : Bool
  raw : Bool
  nums : Int
  wide : Int
def numD (d : Dt) : Nat → Int
  | 0 => d.n0
  | 1 => d.n1
  | 2 => d.n2
  | 3 => d.n3
  | _ => d.n4
def hasBad (h : Hs) (d : Dt) : Prop := (h.addr = false ∧ d.ad ≠ jZ) ∨ (h.name = false ∧ d.name ≠ []) ∨ (h.mail = false ∧ d.mail ≠ []) ∨ (h.raw = false ∧ d.raw ≠ []) ∨ h.texts = true
instance (h : Hs) (d : Dt) : Decidable (hasBad h d) := by unfold hasBad; infer_instance
def adBad (t : Int) (h : Hs) (d : Dt) : Prop := h.addr = true ∧ (gr d.ad ≠ 0 ∨ d.ad.six ≠ decide (t = 28))
instance (t : Int) (h : Hs) (d : Dt) : Decidable (adBad t h d) := by unfold adBad; infer_instance
def numOk (h : Hs) (d : Dt) (k : Nat) : Prop := ¬ (h.nums ≤ k ∧ numD d k ≠ 0) ∧ ¬ (h.wide = 2 ∧ 65535 < numD d k)
instance (h : Hs) (d : Dt) (k : Nat) : Decidable (numOk h d k) := by unfold numOk; infer_instance
def numsOk (h : Hs) (d : Dt) : Prop := ∀ k, k < 5 → numOk h d k
instance (h : Hs) (d : Dt) : Decidable (numsOk h d) := by unfold numsOk; exact Nat.decidableBallLT 5 _
end Go.Proofs.YtnpdgmoeoidppaaGreat

/- entries: the plain laws of their records -/
namespace Go.Proofs.YtnpdgmoeoidppaaGreat
open Go.RowKit Go.Shelf
set_option linter.unusedVariables false
set_option linter.unusedSimpArgs false

theorem j3 {e : En} (h : cV e = 0) : bd e.host = 0 := by
  unfold cV at h
  split at h
  · exact h
  · omega
theorem jW {e : En} (h : eJ e = true) : e.host.length ≤ 300 ∧ e.alias.length ≤ 300 ∧ e.cluster.length ≤ 300 ∧ e.addrs.length ≤ 20 ∧ e.ports.length ≤ 20 := by
  simp only [eJ, Bool.and_eq_true, decide_eq_true_eq] at h
  exact ⟨h.1.1.1.1, h.1.1.1.2, h.1.1.2, h.1.2, h.2⟩

end Go.Proofs.YtnpdgmoeoidppaaGreat

/- the laws of entries -/
namespace Go.Proofs.YtnpdgmoeoidppaaGreat
open Go.RowKit Go.Shelf
set_option linter.unusedVariables false
set_option linter.unusedSimpArgs false

def AdOk (a : Ad) : Prop := 0 ≤ a.hi ∧ a.hi ≤ 18446744073709551615 ∧ 0 ≤ a.lo ∧ a.lo ≤ 18446744073709551615
def EnOk (e : En) : Prop := e.host.length ≤ 9223372036854775807 ∧ (-9223372036854775808 ≤ e.kind ∧ e.kind ≤ 9223372036854775807) ∧ e.cluster.length ≤ 9223372036854775807 ∧ (∀ a ∈ e.addrs, AdOk a) ∧ e.addrs.length ≤ 9223372036854775807 ∧ e.alias.length ≤ 9223372036854775807 ∧ (∀ p ∈ e.ports, -9223372036854775808 ≤ p ∧ p ≤ 9223372036854775807) ∧ e.ports.length ≤ 9223372036854775807 ∧ 0 ≤ e.ttl ∧ e.ttl ≤ 4294967295
theorem EnOk.lo {e : En} (h : EnOk e) : ∀ a ∈ e.addrs, 0 ≤ a.lo := fun a ha => (h.2.2.2.1 a ha).2.2.1

theorem dc_ad {w : World} : Dc Tryz.prog w 29 (α := Ad) (gw) (fun _ => []) (AdOk) := fun H enc base sp hd fuel cs x h => by
  obtain ⟨xs, n, rfl, _, hcl, hxl, hf⟩ := DataW.trod_struct Tryz.underlying29 h
  have hcl2 : cs.length = 3 := hcl.trans (by kernel_rfl)
  obtain ⟨x0, c0, r0, o0⟩ := dH hxl hf 0 (ft := 4) (off := 0) (k := 1) (by kernel_rfl) (by kernel_rfl) (dc_bool Tryz.underlying4)
  obtain ⟨x1, c1, r1, o1⟩ := dH hxl hf 1 (ft := 27) (off := 1) (k := 1) (by kernel_rfl) (by kernel_rfl) (iw Tryz.underlying27)
  obtain ⟨x2, c2, r2, o2⟩ := dH hxl hf 2 (ft := 27) (off := 2) (k := 1) (by kernel_rfl) (by kernel_rfl) (iw Tryz.underlying27)
  have hcs := cut0 (iB c0 (iB c1 (iB c2 (cutn hcl2) rfl) rfl) rfl)
  exact ⟨⟨x0, x1, x2⟩, hcs, nofun, o1.1, o1.2, o2.1, o2.2⟩

theorem dc_ads {w : World} : Dc Tryz.prog w 30 (fun p : List Ad × Option Addr × Nat => [.slice p.2.1 p.1.length p.2.2]) (fun p => Ch.rd p.2.1 3 gw p.1 :: p.1.flatMap (fun _ => [])) (fun p => p.1.length ≤ 9223372036854775807 ∧ ∀ a ∈ p.1, AdOk a) := jy Tryz.underlying30 (by kernel_rfl) (by decide) fT dc_ad
theorem dc_ints {w : World} : Dc Tryz.prog w 31 (fun p : List Int × Option Addr × Nat => [.slice p.2.1 p.1.length p.2.2]) (fun p => Ch.rd p.2.1 1 fh p.1 :: p.1.flatMap (fun _ => [])) (fun p => p.1.length ≤ 9223372036854775807 ∧ ∀ n ∈ p.1, IntKind.i64.min ≤ n ∧ n ≤ IntKind.i64.max) := jy Tryz.underlying31 (by kernel_rfl) (by decide) fL (iw Tryz.underlying3)

theorem rd_none {w : World} {sz : Nat} : (Ch.rs none 0 sz []).P w ∧ ∀ b, (Ch.rs none 0 sz []).ok b → b < w.heap.size := ⟨⟨by simp, (by simp), .inl rfl⟩, fun b hb => by simp [Ch.rs] at hb⟩

end Go.Proofs.YtnpdgmoeoidppaaGreat

/- copies of entries; the laws of folded hosts and of copies -/
namespace Go.Proofs.YtnpdgmoeoidppaaGreat
open Go.RowKit Go.Shelf
set_option linter.unusedVariables false
set_option linter.unusedSimpArgs false

theorem ent_145 : Enters Tryz.prog 145 := enters_of Tryz.func145 (by kernel_rfl) rfl
theorem ent_196 : Enters Tryz.prog 196 := enters_of Tryz.func196 (by kernel_rfl) rfl
theorem ent_197 : Enters Tryz.prog 197 := enters_of Tryz.func197 (by kernel_rfl) rfl

theorem jL (e : En) (A B : Option Addr) (c d : Nat) (f : En) (F G : Option Addr) (c2 d2 : Nat) (hla : e.addrs.length ≤ 1000000000000) (hlp : e.ports.length ≤ 1000000000000) : RC Tryz.prog 137 #[.agg (enC e A B c d).toArray, .agg (enC f F G c2 d2).toArray] [Ch.rd A 3 gw e.addrs, Ch.rd B 1 fh e.ports, Ch.rd F 3 gw f.addrs, Ch.rd G 1 fh f.ports] (α := Unit) (fun _ => .bool (decide (e = f))) (fun _ => []) := by
 refine bK (args := [.agg (enC e A B c d).toArray, .agg (enC f F G c2 d2).toArray]) 52 Tryz.func137 rfl rfl rfl (fun w0 => ?_)
 refine ap ?_
 refine ae ?_
 refine cL rfl rfl rfl (fun b1 => ?_)
 refine cL rfl rfl rfl (fun b2 => ?_)
 refine aq (ai rfl) rfl rfl ?_
 refine aa ?_
 refine aj ?_
 refine ap ?_
 refine ae ?_
 refine aq (aB cM rfl) rfl rfl ?_
 refine aq (aC 1 bE rfl rfl rfl) rfl rfl ?_
 refine aq (aB cM rfl) rfl rfl ?_
 refine aq (aC 0 bE rfl rfl rfl) rfl rfl ?_
 refine aq (eK rfl rfl) rfl rfl ?_
 refine ay (t := 9) rfl (fun h1_4 => ?_) (fun h1_4 => ?_)
 refine aq (am rfl) rfl rfl ?_
 refine au rfl rfl ?_
 refine aq (aB gH rfl) rfl rfl ?_
 refine au rfl rfl ?_
 refine aq (aC 1 cX rfl rfl rfl) rfl rfl ?_
 refine au rfl rfl ?_
 refine aq (aB gH rfl) rfl rfl ?_
 refine au rfl rfl ?_
 refine aq (aC 0 cX rfl rfl rfl) rfl rfl ?_
 refine au rfl rfl ?_
 refine aq (cY rfl rfl) rfl rfl ?_
 refine ay (t := 15) rfl (fun h1_10 => ?_) (fun h1_10 => ?_)
 refine aq (aH rfl rfl) rfl rfl ?_
 refine aq (am rfl) rfl rfl ?_
 refine au rfl rfl ?_
 refine aq (aB fx rfl) rfl rfl ?_
 refine au rfl rfl ?_
 refine aq (aC 1 cI rfl rfl rfl) rfl rfl ?_
 refine au rfl rfl ?_
 refine aq (aB fx rfl) rfl rfl ?_
 refine au rfl rfl ?_
 refine aq (aC 0 cI rfl rfl rfl) rfl rfl ?_
 refine au rfl rfl ?_
 refine aq (eK rfl rfl) rfl rfl ?_
 refine ay (t := 22) rfl (fun h1_17 => ?_) (fun h1_17 => ?_)
 refine aq (aH rfl rfl) rfl rfl ?_
 refine aq (am rfl) rfl rfl ?_
 refine au rfl rfl ?_
 refine aq (aB ez rfl) rfl rfl ?_
 refine au rfl rfl ?_
 refine aq (aC 1 bE rfl rfl rfl) rfl rfl ?_
 refine au rfl rfl ?_
 refine aq (aB ez rfl) rfl rfl ?_
 refine au rfl rfl ?_
 refine aq (aC 0 bE rfl rfl rfl) rfl rfl ?_
 refine au rfl rfl ?_
 refine aq (eK rfl rfl) rfl rfl ?_
 refine ay (t := 29) rfl (fun h1_24 => ?_) (fun h1_24 => ?_)
 refine aq (aH rfl rfl) rfl rfl ?_
 refine aq (am rfl) rfl rfl ?_
 refine au rfl rfl ?_
 refine aq (aB iZ rfl) rfl rfl ?_
 refine au rfl rfl ?_
 refine aq (aC 1 ty_32 rfl rfl rfl) rfl rfl ?_
 refine au rfl rfl ?_
 refine aq (aB iZ rfl) rfl rfl ?_
 refine au rfl rfl ?_
 refine aq (aC 0 ty_32 rfl rfl rfl) rfl rfl ?_
 refine au rfl rfl ?_
 refine aq (cY rfl rfl) rfl rfl ?_
 refine ay (t := 36) rfl (fun h1_31 => ?_) (fun h1_31 => ?_)
 refine aq (aH rfl rfl) rfl rfl ?_
 refine aq (am rfl) rfl rfl ?_
 refine au rfl rfl ?_
 refine aq (aB du rfl) rfl rfl ?_
 refine au rfl rfl ?_
 refine aq (aC 1 eF rfl rfl rfl) rfl rfl ?_
 refine au rfl rfl ?_
 refine aq (aB du rfl) rfl rfl ?_
 refine au rfl rfl ?_
 refine aq (aC 0 eF rfl rfl rfl) rfl rfl ?_
 refine au rfl rfl ?_
 refine bA rfl ent_196 rfl (c_Equal_ad _ _ _ _ _ _ (by omega)) (fun w hw => (az (bo 0 rfl hw) (az (bo 2 rfl hw) aY))) ?_
 refine bN (t := 43) rfl (fun h1_38 => ?_) (fun h1_38 => ?_)
 refine aq (aH rfl rfl) rfl rfl ?_
 refine aq (am rfl) rfl rfl ?_
 refine au rfl rfl ?_
 refine aq (aB dy rfl) rfl rfl ?_
 refine au rfl rfl ?_
 refine aq (aC 1 eN rfl rfl rfl) rfl rfl ?_
 refine au rfl rfl ?_
 refine aq (aB dy rfl) rfl rfl ?_
 refine au rfl rfl ?_
 refine aq (aC 0 eN rfl rfl rfl) rfl rfl ?_
 refine au rfl rfl ?_
 refine bA rfl ent_197 rfl (c_Equal_int _ _ _ _ _ _ (by omega)) (fun w hw => (az (bo 1 rfl hw) (az (bo 3 rfl hw) aY))) ?_
 refine aq (aH rfl rfl) rfl rfl ?_
 refine aq (ai rfl) rfl rfl ?_
 refine aa ?_
 refine aj ?_
 refine aN ?_
 refine aR (ts := [4]) rfl rfl rfl (fun w hw => ?_)
 refine ⟨(), ?_, hw.base, (hw.weak (List.nil_sublist _) (fun s hs => hs)).toNews⟩
 show Ending.returned (.bool _) = _
 congr 2
 focus first
   | (have hne : e ≠ f := fun h => by
        subst h
        simp_all
      rw [decide_eq_false hne]
      done)
   | (rw [decide_eq_decide]
      cases e; cases f
      simp_all
      done)
   | (trace_state; fail)
 refine aq (aH rfl rfl) rfl rfl ?_
 refine aq (am rfl) rfl rfl ?_
 refine ar rfl rfl rfl rfl ?_
 refine ar rfl rfl rfl rfl ?_
 refine ar rfl rfl rfl rfl ?_
 refine ar rfl rfl rfl rfl ?_
 refine ar rfl rfl rfl rfl ?_
 refine aq (aF rfl rfl) rfl rfl ?_
 refine aq (ai rfl) rfl rfl ?_
 refine aa ?_
 refine aj ?_
 refine aN ?_
 refine aR (ts := [4]) rfl rfl rfl (fun w hw => ?_)
 refine ⟨(), ?_, hw.base, (hw.weak (List.nil_sublist _) (fun s hs => hs)).toNews⟩
 show Ending.returned (.bool _) = _
 congr 2
 focus first
   | (have hne : e ≠ f := fun h => by
        subst h
        simp_all
      rw [decide_eq_false hne]
      done)
   | (rw [decide_eq_decide]
      cases e; cases f
      simp_all
      done)
   | (trace_state; fail)
 refine aq (aH rfl rfl) rfl rfl ?_
 refine aq (am rfl) rfl rfl ?_
 refine ar rfl rfl rfl rfl ?_
 refine ar rfl rfl rfl rfl ?_
 refine ar rfl rfl rfl rfl ?_
 refine ar rfl rfl rfl rfl ?_
 refine ar rfl rfl rfl rfl ?_
 refine aq (aF rfl rfl) rfl rfl ?_
 refine aq (am rfl) rfl rfl ?_
 refine ar rfl rfl rfl rfl ?_
 refine ar rfl rfl rfl rfl ?_
 refine ar rfl rfl rfl rfl ?_
 refine ar rfl rfl rfl rfl ?_
 refine ar rfl rfl rfl rfl ?_
 refine aq (aF rfl rfl) rfl rfl ?_
 refine aq (ai rfl) rfl rfl ?_
 refine aa ?_
 refine aj ?_
 refine aN ?_
 refine aR (ts := [4]) rfl rfl rfl (fun w hw => ?_)
 refine ⟨(), ?_, hw.base, (hw.weak (List.nil_sublist _) (fun s hs => hs)).toNews⟩
 show Ending.returned (.bool _) = _
 congr 2
 focus first
   | (have hne : e ≠ f := fun h => by
        subst h
        simp_all
      rw [decide_eq_false hne]
      done)
   | (rw [decide_eq_decide]
      cases e; cases f
      simp_all
      done)
   | (trace_state; fail)
 refine aq (aH rfl rfl) rfl rfl ?_
 refine aq (am rfl) rfl rfl ?_
 refine ar rfl rfl rfl rfl ?_
 refine ar rfl rfl rfl rfl ?_
 refine ar rfl rfl rfl rfl ?_
 refine ar rfl rfl rfl rfl ?_
 refine ar rfl rfl rfl rfl ?_
 refine aq (aF rfl rfl) rfl rfl ?_
 refine aq (am rfl) rfl rfl ?_
 refine ar rfl rfl rfl rfl ?_
 refine ar rfl rfl rfl rfl ?_
 refine ar rfl rfl rfl rfl ?_
 refine ar rfl rfl rfl rfl ?_
 refine ar rfl rfl rfl rfl ?_
 refine aq (aF rfl rfl) rfl rfl ?_
 refine aq (am rfl) rfl rfl ?_
 refine ar rfl rfl rfl rfl ?_
 refine ar rfl rfl rfl rfl ?_
 refine ar rfl rfl rfl rfl ?_
 refine ar rfl rfl rfl rfl ?_
 refine ar rfl rfl rfl rfl ?_
 refine aq (aF rfl rfl) rfl rfl ?_
 refine aq (ai rfl) rfl rfl ?_
 refine aa ?_
 refine aj ?_
 refine aN ?_
 refine aR (ts := [4]) rfl rfl rfl (fun w hw => ?_)
 refine ⟨(), ?_, hw.base, (hw.weak (List.nil_sublist _) (fun s hs => hs)).toNews⟩
 show Ending.returned (.bool _) = _
 congr 2
 focus first
   | (have hne : e ≠ f := fun h => by
        subst h
        simp_all
      rw [decide_eq_false hne]
      done)
   | (rw [decide_eq_decide]
      cases e; cases f
      simp_all
      done)
   | (trace_state; fail)
 refine aq (aH rfl rfl) rfl rfl ?_
 refine aq (am rfl) rfl rfl ?_
 refine ar rfl rfl rfl rfl ?_
 refine ar rfl rfl rfl rfl ?_
 refine ar rfl rfl rfl rfl ?_
 refine ar rfl rfl rfl rfl ?_
 refine ar rfl rfl rfl rfl ?_
 refine aq (aF rfl rfl) rfl rfl ?_
 refine aq (am rfl) rfl rfl ?_
 refine ar rfl rfl rfl rfl ?_
 refine ar rfl rfl rfl rfl ?_
 refine ar rfl rfl rfl rfl ?_
 refine ar rfl rfl rfl rfl ?_
 refine ar rfl rfl rfl rfl ?_
 refine aq (aF rfl rfl) rfl rfl ?_
 refine aq (am rfl) rfl rfl ?_
 refine ar rfl rfl rfl rfl ?_
 refine ar rfl rfl rfl rfl ?_
 refine ar rfl rfl rfl rfl ?_
 refine ar rfl rfl rfl rfl ?_
 refine ar rfl rfl rfl rfl ?_
 refine aq (aF rfl rfl) rfl rfl ?_
 refine aq (am rfl) rfl rfl ?_
 refine ar rfl rfl rfl rfl ?_
 refine ar rfl rfl rfl rfl ?_
 refine ar rfl rfl rfl rfl ?_
 refine ar rfl rfl rfl rfl ?_
 refine ar rfl rfl rfl rfl ?_
 refine aq (aF rfl rfl) rfl rfl ?_
 refine aq (ai rfl) rfl rfl ?_
 refine aa ?_
 refine aj ?_
 refine aN ?_
 refine aR (ts := [4]) rfl rfl rfl (fun w hw => ?_)
 refine ⟨(), ?_, hw.base, (hw.weak (List.nil_sublist _) (fun s hs => hs)).toNews⟩
 show Ending.returned (.bool _) = _
 congr 2
 focus first
   | (have hne : e ≠ f := fun h => by
        subst h
        simp_all
      rw [decide_eq_false hne]
      done)
   | (rw [decide_eq_decide]
      cases e; cases f
      simp_all
      done)
   | (trace_state; fail)
 refine aq (aH rfl rfl) rfl rfl ?_
 refine aq (am rfl) rfl rfl ?_
 refine ar rfl rfl rfl rfl ?_
 refine ar rfl rfl rfl rfl ?_
 refine ar rfl rfl rfl rfl ?_
 refine ar rfl rfl rfl rfl ?_
 refine ar rfl rfl rfl rfl ?_
 refine aq (aF rfl rfl) rfl rfl ?_
 refine aq (am rfl) rfl rfl ?_
 refine ar rfl rfl rfl rfl ?_
 refine ar rfl rfl rfl rfl ?_
 refine ar rfl rfl rfl rfl ?_
 refine ar rfl rfl rfl rfl ?_
 refine ar rfl rfl rfl rfl ?_
 refine aq (aF rfl rfl) rfl rfl ?_
 refine aq (am rfl) rfl rfl ?_
 refine ar rfl rfl rfl rfl ?_
 refine ar rfl rfl rfl rfl ?_
 refine ar rfl rfl rfl rfl ?_
 refine ar rfl rfl rfl rfl ?_
 refine ar rfl rfl rfl rfl ?_
 refine aq (aF rfl rfl) rfl rfl ?_
 refine aq (am rfl) rfl rfl ?_
 refine ar rfl rfl rfl rfl ?_
 refine ar rfl rfl rfl rfl ?_
 refine ar rfl rfl rfl rfl ?_
 refine ar rfl rfl rfl rfl ?_
 refine ar rfl rfl rfl rfl ?_
 refine aq (aF rfl rfl) rfl rfl ?_
 refine aq (am rfl) rfl rfl ?_
 refine ar rfl rfl rfl rfl ?_
 refine ar rfl rfl rfl rfl ?_
 refine ar rfl rfl rfl rfl ?_
 refine ar rfl rfl rfl rfl ?_
 refine ar rfl rfl rfl rfl ?_
 refine aq (aF rfl rfl) rfl rfl ?_
 refine aq (ai rfl) rfl rfl ?_
 refine aa ?_
 refine aj ?_
 refine aN ?_
 refine aR (ts := [4]) rfl rfl rfl (fun w hw => ?_)
 refine ⟨(), ?_, hw.base, (hw.weak (List.nil_sublist _) (fun s hs => hs)).toNews⟩
 show Ending.returned (.bool _) = _
 congr 2
 focus first
   | (have hne : e ≠ f := fun h => by
        subst h
        simp_all
      rw [decide_eq_false hne]
      done)
   | (rw [decide_eq_decide]
      cases e; cases f
      simp_all
      done)
   | (trace_state; fail)
 refine aq (am rfl) rfl rfl ?_
 refine ar rfl rfl rfl rfl ?_
 refine ar rfl rfl rfl rfl ?_
 refine ar rfl rfl rfl rfl ?_
 refine ar rfl rfl rfl rfl ?_
 refine ar rfl rfl rfl rfl ?_
 refine aq (aF rfl rfl) rfl rfl ?_
 refine aq (am rfl) rfl rfl ?_
 refine ar rfl rfl rfl rfl ?_
 refine ar rfl rfl rfl rfl ?_
 refine ar rfl rfl rfl rfl ?_
 refine ar rfl rfl rfl rfl ?_
 refine ar rfl rfl rfl rfl ?_
 refine aq (aF rfl rfl) rfl rfl ?_
 refine aq (am rfl) rfl rfl ?_
 refine ar rfl rfl rfl rfl ?_
 refine ar rfl rfl rfl rfl ?_
 refine ar rfl rfl rfl rfl ?_
 refine ar rfl rfl rfl rfl ?_
 refine ar rfl rfl rfl rfl ?_
 refine aq (aF rfl rfl) rfl rfl ?_
 refine aq (am rfl) rfl rfl ?_
 refine ar rfl rfl rfl rfl ?_
 refine ar rfl rfl rfl rfl ?_
 refine ar rfl rfl rfl rfl ?_
 refine ar rfl rfl rfl rfl ?_
 refine ar rfl rfl rfl rfl ?_
 refine aq (aF rfl rfl) rfl rfl ?_
 refine aq (am rfl) rfl rfl ?_
 refine ar rfl rfl rfl rfl ?_
 refine ar rfl rfl rfl rfl ?_
 refine ar rfl rfl rfl rfl ?_
 refine ar rfl rfl rfl rfl ?_
 refine ar rfl rfl rfl rfl ?_
 refine aq (aF rfl rfl) rfl rfl ?_
 refine aq (am rfl) rfl rfl ?_
 refine ar rfl rfl rfl rfl ?_
 refine ar rfl rfl rfl rfl ?_
 refine ar rfl rfl rfl rfl ?_
 refine ar rfl rfl rfl rfl ?_
 refine ar rfl rfl rfl rfl ?_
 refine aq (aF rfl rfl) rfl rfl ?_
 refine aq (ai rfl) rfl rfl ?_
 refine aa ?_
 refine aj ?_
 refine aN ?_
 refine aR (ts := [4]) rfl rfl rfl (fun w hw => ?_)
 refine ⟨(), ?_, hw.base, (hw.weak (List.nil_sublist _) (fun s hs => hs)).toNews⟩
 show Ending.returned (.bool _) = _
 congr 2
 focus first
   | (have hne : e ≠ f := fun h => by
        subst h
        simp_all
      rw [decide_eq_false hne]
      done)
   | (rw [decide_eq_decide]
      cases e; cases f
      simp_all
      done)
   | (trace_state; fail)

set_option maxRecDepth 100000 in
theorem fZ (e : En) (A B : Option Addr) (c d : Nat) (hla : e.addrs.length ≤ 1000000000000) (hlp : e.ports.length ≤ 1000000000000) : RC Tryz.prog 69 #[.agg (enC e A B c d).toArray] [Ch.rd A 3 gw e.addrs, Ch.rd B 1 fh e.ports] (α := Option Addr × Nat × Option Addr × Nat) (fun p => .agg (enC e p.1 p.2.2.1 p.2.1 p.2.2.2).toArray) (fun p => [Ch.ls p.2.2.1 p.2.2.2 3 1 fh (e).ports, Ch.ls p.1 p.2.1 29 3 gw (e).addrs]) := by
 refine bK (args := [.agg (enC e A B c d).toArray]) 12 Tryz.func69 rfl rfl rfl (fun w0 => ?_)
 refine ap ?_
 refine ae ?_
 refine cL rfl rfl rfl (fun b1 => ?_)
 refine bH aU rfl rfl (fun b2 => ?_)
 refine aa ?_
 refine aj ?_
 refine ap ?_
 refine dQ 7 rfl mixed ?_
 refine aK (i := 0) rfl ak (aB du rfl) aG aG rfl (ah aw) (by kernel_rfl) rfl ?_
 refine aK (i := 1) rfl ak (aC 1 eF rfl rfl rfl) aG aG rfl (ah aw) (by kernel_rfl) rfl ?_
 refine aK (i := 3) rfl ak (aB dy rfl) aG aG rfl (ah aw) (by kernel_rfl) rfl ?_
 refine aK (i := 4) rfl ak (aC 1 eN rfl rfl rfl) aG aG rfl (ah aw) (by kernel_rfl) rfl ?_
 refine dG (i := 2) rfl rfl rfl (bf rfl ent_144) (by kernel_rfl) rfl ?_
 refine dE rfl ent_144 rfl (c_Clone_ad _ _ _ (by omega)) (fun w hw => (az (bo 0 rfl hw) aY)) (fun ⟨A2, c2⟩ => ?_)
 refine aa ?_
 refine eO (bq 1) ?_
 refine aK (i := 6) rfl ak (aB du rfl) (bq 1) aG rfl (ah aw) (by kernel_rfl) rfl ?_
 refine dG (i := 5) rfl rfl rfl (bf rfl ent_145) (by kernel_rfl) rfl ?_
 refine dE rfl ent_145 rfl (c_Clone_int _ _ _ (by omega)) (fun w hw => (az (bo 1 rfl hw) aY)) (fun ⟨A3, c3⟩ => ?_)
 refine aa ?_
 refine eO (bq 2) ?_
 refine dG (i := 7) rfl rfl rfl (fun _ _ _ => aM (by kernel_rfl)) (by kernel_rfl) rfl ?_
 refine aW eF rfl rfl rfl (.s (.s (.s (.z)))) rfl rfl rfl rfl ?_
 refine aa ?_
 refine eM rfl ?_
 refine dG (i := 8) rfl rfl rfl (fun _ _ _ => aM (by kernel_rfl)) (by kernel_rfl) rfl ?_
 refine aq (aB dy rfl) rfl rfl ?_
 refine aa ?_
 refine eM rfl ?_
 refine dG (i := 9) rfl rfl rfl (fun _ _ _ => aM (by kernel_rfl)) (by kernel_rfl) rfl ?_
 refine aW eN rfl rfl rfl (.s (.s (.s (.z)))) rfl rfl rfl rfl ?_
 refine aa ?_
 refine eM rfl ?_
 refine cF (by kernel_rfl) ?_
 refine aj ?_
 refine ap ?_
 refine ae ?_
 refine aq (bu 3 aU rfl rfl rfl rfl) rfl rfl ?_
 refine aW aU rfl rfl rfl (.s (.s (.z))) rfl rfl rfl rfl ?_
 refine aa ?_
 refine aj ?_
 refine aN ?_
 refine dP (rs := [.cell 2 34]) rfl (bQ 2 aU rfl rfl rfl rfl cG) rfl (fun w hw => ?_)
 exact ⟨⟨A2, c2, A3, c3⟩, rfl, hw.base, (hw.weak (.cons_cons _ (.cons_cons _ (.cons _ (.cons _ .slnil)))) (fun s hs => hs)).toNews⟩

set_option maxRecDepth 100000 in
theorem c_OwnEntry (e : En) (A B : Option Addr) (c d : Nat) (hla : e.addrs.length ≤ 1000000000000) (hlp : e.ports.length ≤ 1000000000000) : RC Tryz.prog 78 #[.agg (enC e A B c d).toArray] [Ch.rd A 3 gw e.addrs, Ch.rd B 1 fh e.ports] (α := Option Addr × Nat × Option Addr × Nat) (fun p => .agg (enC e p.1 p.2.2.1 p.2.1 p.2.2.2).toArray) (fun p => [Ch.ls p.2.2.1 p.2.2.2 3 1 fh (e).ports, Ch.ls p.1 p.2.1 29 3 gw (e).addrs]) := by
 refine bK (args := [.agg (enC e A B c d).toArray]) 14 Tryz.func78 rfl rfl rfl (fun w0 => ?_)
 refine ap ?_
 refine ae ?_
 refine cL rfl rfl rfl (fun b1 => ?_)
 refine bH aU rfl rfl (fun b2 => ?_)
 refine aa ?_
 refine aj ?_
 refine ap ?_
 refine dQ 9 rfl mixed ?_
 refine aK (i := 1) rfl ak (aB du rfl) aG aG rfl (ah aw) (by kernel_rfl) rfl ?_
 refine aK (i := 2) rfl ak (aC 1 eF rfl rfl rfl) aG aG rfl (ah aw) (by kernel_rfl) rfl ?_
 refine aK (i := 5) rfl ak (aB dy rfl) aG aG rfl (ah aw) (by kernel_rfl) rfl ?_
 refine aK (i := 6) rfl ak (aC 1 eN rfl rfl rfl) aG aG rfl (ah aw) (by kernel_rfl) rfl ?_
 refine a_many (js := [0, 4]) (by kernel_rfl) rfl ?_
 refine wr_cons (i := 0) rfl rfl rfl (fun _ _ _ => aM (by kernel_rfl)) rfl ?_ ?_
 refine bY (vs := []) ([] : List (Ad)) fT Tryz.underlying30 eh rfl rfl rfl rfl rfl rfl (fun As3 => ?_)
 refine aa ?_
 refine eO (bq 1) ?_
 refine a_many (js := [3, 4]) (by kernel_rfl) rfl ?_
 refine wr_cons (i := 3) rfl rfl rfl (fun _ _ _ => aM (by kernel_rfl)) rfl ?_ ?_
 refine cv (enc := gw) (sz := 3) e.addrs Tryz.underlying30 eh rfl rfl rfl (fun A c => .z) (je 0 Tryz.underlying30 rfl) (by simp only [List.length_cons, List.length_nil, Nat.zero_add]; omega) (by simp only [List.length_cons, List.length_nil, Nat.zero_add]; omega) rfl (fun A3 c3 => ?_)
 refine aa ?_
 refine eO (bq 1) ?_
 refine aK (i := 8) rfl ak (aB du rfl) (bq 1) aG rfl (ah aw) (by kernel_rfl) rfl ?_
 refine dG (i := 4) rfl rfl rfl (fun _ _ _ => aM (by kernel_rfl)) (by kernel_rfl) rfl ?_
 refine bY (vs := []) ([] : List (Int)) fL Tryz.underlying31 cX rfl rfl rfl rfl rfl rfl (fun As5 => ?_)
 refine aa ?_
 refine eO (bq 2) ?_
 refine dG (i := 7) rfl rfl rfl (fun _ _ _ => aM (by kernel_rfl)) (by kernel_rfl) rfl ?_
 refine cv (enc := fh) (sz := 1) e.ports Tryz.underlying31 cX rfl rfl rfl (fun A c => .z) (je 1 Tryz.underlying31 rfl) (by simp only [List.length_cons, List.length_nil, Nat.zero_add]; omega) (by simp only [List.length_cons, List.length_nil, Nat.zero_add]; omega) rfl (fun A5 c5 => ?_)
 refine aa ?_
 refine eO (bq 2) ?_
 refine dG (i := 9) rfl rfl rfl (fun _ _ _ => aM (by kernel_rfl)) (by kernel_rfl) rfl ?_
 refine aW eF rfl rfl rfl (.s (.s (.s (.z)))) rfl rfl rfl rfl ?_
 refine aa ?_
 refine eM rfl ?_
 refine dG (i := 10) rfl rfl rfl (fun _ _ _ => aM (by kernel_rfl)) (by kernel_rfl) rfl ?_
 refine aq (aB dy rfl) rfl rfl ?_
 refine aa ?_
 refine eM rfl ?_
 refine dG (i := 11) rfl rfl rfl (fun _ _ _ => aM (by kernel_rfl)) (by kernel_rfl) rfl ?_
 refine aW eN rfl rfl rfl (.s (.s (.s (.z)))) rfl rfl rfl rfl ?_
 refine aa ?_
 refine eM rfl ?_
 refine cF (by kernel_rfl) ?_
 refine aj ?_
 refine ap ?_
 refine ae ?_
 refine aq (bu 3 aU rfl rfl rfl rfl) rfl rfl ?_
 refine aW aU rfl rfl rfl (.s (.s (.z))) rfl rfl rfl rfl ?_
 refine aa ?_
 refine aj ?_
 refine aN ?_
 refine dP (rs := [.cell 2 34]) rfl (bQ 2 aU rfl rfl rfl rfl cG) rfl (fun w hw => ?_)
 exact ⟨⟨A3, c3, A5, c5⟩, rfl, hw.base, (hw.weak (.cons_cons _ (.cons_cons _ (.cons _ (.cons _ .slnil)))) (fun s hs => hs)).toNews⟩
 refine wr_cons (i := 4) rfl rfl rfl (fun _ _ _ => aM (by kernel_rfl)) rfl ?_ ?_
 refine bY (vs := []) ([] : List (Int)) fL Tryz.underlying31 cX rfl rfl rfl rfl rfl rfl (fun As7 => ?_)
 refine aa ?_
 refine eO (bq 2) ?_
 refine dG (i := 3) rfl rfl rfl (fun _ _ _ => aM (by kernel_rfl)) (by kernel_rfl) rfl ?_
 refine cv (enc := gw) (sz := 3) e.addrs Tryz.underlying30 eh rfl rfl rfl (fun A c => (.s (.z))) (je 0 Tryz.underlying30 rfl) (by simp only [List.length_cons, List.length_nil, Nat.zero_add]; omega) (by simp only [List.length_cons, List.length_nil, Nat.zero_add]; omega) rfl (fun A7 c7 => ?_)
 refine aa ?_
 refine eO (bq 2) ?_
 refine aK (i := 8) rfl ak (aB du rfl) (bq 2) aG rfl (ah aw) (by kernel_rfl) rfl ?_
 refine dG (i := 7) rfl rfl rfl (fun _ _ _ => aM (by kernel_rfl)) (by kernel_rfl) rfl ?_
 refine cv (enc := fh) (sz := 1) e.ports Tryz.underlying31 cX rfl rfl rfl (fun A c => .z) (je 1 Tryz.underlying31 rfl) (by simp only [List.length_cons, List.length_nil, Nat.zero_add]; omega) (by simp only [List.length_cons, List.length_nil, Nat.zero_add]; omega) rfl (fun A8 c8 => ?_)
 refine aa ?_
 refine eO (bq 2) ?_
 refine dG (i := 9) rfl rfl rfl (fun _ _ _ => aM (by kernel_rfl)) (by kernel_rfl) rfl ?_
 refine aW eF rfl rfl rfl (.s (.s (.s (.z)))) rfl rfl rfl rfl ?_
 refine aa ?_
 refine eM rfl ?_
 refine dG (i := 10) rfl rfl rfl (fun _ _ _ => aM (by kernel_rfl)) (by kernel_rfl) rfl ?_
 refine aq (aB dy rfl) rfl rfl ?_
 refine aa ?_
 refine eM rfl ?_
 refine dG (i := 11) rfl rfl rfl (fun _ _ _ => aM (by kernel_rfl)) (by kernel_rfl) rfl ?_
 refine aW eN rfl rfl rfl (.s (.s (.s (.z)))) rfl rfl rfl rfl ?_
 refine aa ?_
 refine eM rfl ?_
 refine cF (by kernel_rfl) ?_
 refine aj ?_
 refine ap ?_
 refine ae ?_
 refine aq (bu 3 aU rfl rfl rfl rfl) rfl rfl ?_
 refine aW aU rfl rfl rfl (.s (.s (.z))) rfl rfl rfl rfl ?_
 refine aa ?_
 refine aj ?_
 refine aN ?_
 refine dP (rs := [.cell 2 34]) rfl (bQ 2 aU rfl rfl rfl rfl cG) rfl (fun w hw => ?_)
 exact ⟨⟨A7, c7, A8, c8⟩, rfl, hw.base, (hw.weak (.cons_cons _ (.cons_cons _ (.cons _ (.cons _ .slnil)))) (fun s hs => hs)).toNews⟩
 exact wr_nil
 refine wr_cons (i := 4) rfl rfl rfl (fun _ _ _ => aM (by kernel_rfl)) rfl ?_ ?_
 refine bY (vs := []) ([] : List (Int)) fL Tryz.underlying31 cX rfl rfl rfl rfl rfl rfl (fun As10 => ?_)
 refine aa ?_
 refine eO (bq 1) ?_
 refine dG (i := 0) rfl rfl rfl (fun _ _ _ => aM (by kernel_rfl)) (by kernel_rfl) rfl ?_
 refine bY (vs := []) ([] : List (Ad)) fT Tryz.underlying30 eh rfl rfl rfl rfl rfl rfl (fun As11 => ?_)
 refine aa ?_
 refine eO (bq 2) ?_
 refine dG (i := 3) rfl rfl rfl (fun _ _ _ => aM (by kernel_rfl)) (by kernel_rfl) rfl ?_
 refine cv (enc := gw) (sz := 3) e.addrs Tryz.underlying30 eh rfl rfl rfl (fun A c => .z) (je 0 Tryz.underlying30 rfl) (by simp only [List.length_cons, List.length_nil, Nat.zero_add]; omega) (by simp only [List.length_cons, List.length_nil, Nat.zero_add]; omega) rfl (fun A11 c11 => ?_)
 refine aa ?_
 refine eO (bq 2) ?_
 refine aK (i := 8) rfl ak (aB du rfl) (bq 2) aG rfl (ah aw) (by kernel_rfl) rfl ?_
 refine dG (i := 7) rfl rfl rfl (fun _ _ _ => aM (by kernel_rfl)) (by kernel_rfl) rfl ?_
 refine cv (enc := fh) (sz := 1) e.ports Tryz.underlying31 cX rfl rfl rfl (fun A c => (.s (.z))) (je 1 Tryz.underlying31 rfl) (by simp only [List.length_cons, List.length_nil, Nat.zero_add]; omega) (by simp only [List.length_cons, List.length_nil, Nat.zero_add]; omega) rfl (fun A12 c12 => ?_)
 refine aa ?_
 refine eO (bq 2) ?_
 refine dG (i := 9) rfl rfl rfl (fun _ _ _ => aM (by kernel_rfl)) (by kernel_rfl) rfl ?_
 refine aW eF rfl rfl rfl (.s (.s (.s (.z)))) rfl rfl rfl rfl ?_
 refine aa ?_
 refine eM rfl ?_
 refine dG (i := 10) rfl rfl rfl (fun _ _ _ => aM (by kernel_rfl)) (by kernel_rfl) rfl ?_
 refine aq (aB dy rfl) rfl rfl ?_
 refine aa ?_
 refine eM rfl ?_
 refine dG (i := 11) rfl rfl rfl (fun _ _ _ => aM (by kernel_rfl)) (by kernel_rfl) rfl ?_
 refine aW eN rfl rfl rfl (.s (.s (.s (.z)))) rfl rfl rfl rfl ?_
 refine aa ?_
 refine eM rfl ?_
 refine cF (by kernel_rfl) ?_
 refine aj ?_
 refine ap ?_
 refine ae ?_
 refine aq (bu 3 aU rfl rfl rfl rfl) rfl rfl ?_
 refine aW aU rfl rfl rfl (.s (.s (.z))) rfl rfl rfl rfl ?_
 refine aa ?_
 refine aj ?_
 refine aN ?_
 refine dP (rs := [.cell 2 34]) rfl (bQ 2 aU rfl rfl rfl rfl cG) rfl (fun w hw => ?_)
 have hw := (hw.weak (.cons_cons _ (.cons_cons _ (.cons _ (.cons _ .slnil)))) (fun s hs => hs)).f1
 exact ⟨⟨A11, c11, A12, c12⟩, rfl, hw.base, hw.toNews⟩
 exact wr_nil

end Go.Proofs.YtnpdgmoeoidppaaGreat
