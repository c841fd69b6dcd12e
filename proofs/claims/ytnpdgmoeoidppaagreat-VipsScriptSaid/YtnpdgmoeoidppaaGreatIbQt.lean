import Derived.Test.YtnpdgmoeoidppaaGreatLkQt
import Derived.ChangeArms
import Derived.ChangeOld
/- A law's arguments opened: what a decoded value is, and which chunks it reads. Elements of arrays. -/
namespace Go.Proofs.YtnpdgmoeoidppaaGreat
open Go.RowKit Go.Shelf
set_option linter.unusedVariables false
set_option linter.unusedSimpArgs false

/-- What decodes at a type is an encoding; its chunks lie; so much is known. -/
def Dc (P : Program) (w : World) (t : TypeId) {α : Type} (V : α → List Value) (R : α → List Ch) (Ok : α → Prop) : Prop :=
  ∀ (H : Type) (enc : TypeId × Value → H) (base : Nat) (sp : Nat → Bool) (hd : Bool) (fuel : Nat) (cs : List Value) (x : DataW H × List MemPlace), DataW.trod enc P w base sp hd fuel t cs = some x →
    ∃ a, cs = V a ∧ Rd (R a) w ∧ Ok a
section
variable {P : Program} {w : World} {t : TypeId}
theorem dc_bool (ht : P.underlying t = some .bool) : Dc P w t (fun b : Bool => [.bool b]) (fun _ => []) (fun _ => True) := fun H enc base sp hd fuel cs x h => by
  obtain ⟨b, rfl, _⟩ := DataW.trod_bool ht h
  exact ⟨b, rfl, nofun, trivial⟩
theorem dc_int {k : IntKind} (ht : P.underlying t = some (.int k)) : Dc P w t (fun n : Int => [.int k n]) (fun _ => []) (fun n => k.min ≤ n ∧ n ≤ k.max) := fun H enc base sp hd fuel cs x h => by
  obtain ⟨n, rfl, _, h3⟩ := DataW.trod_int ht h
  simp only [Lit.wf, Bool.and_eq_true, decide_eq_true_eq] at h3
  exact ⟨n, rfl, nofun, h3⟩
theorem dc_str (ht : P.underlying t = some .string) : Dc P w t (fun s : aV => [.string (ba s)]) (fun _ => []) (fun s => s.length ≤ 9223372036854775807) := fun H enc base sp hd fuel cs x h => by
  obtain ⟨s, rfl, _, h3⟩ := DataW.trod_string ht h
  have e : (ls s).length = s.size := by simp [ls]
  have h2 : maxLen = 9223372036854775807 := by decide
  exact ⟨ls s, rfl, nofun, by omega⟩
theorem choose_list {α : Type} {p : Nat → α → Prop} : ∀ (n : Nat), (∀ i, i < n → ∃ a, p i a) → ∃ l : List α, l.length = n ∧ ∀ i a, l[i]? = some a → p i a
  | 0, _ => ⟨[], rfl, fun i a h => by simp at h⟩
  | n + 1, h => by
    obtain ⟨l, hl, hp⟩ := choose_list n (fun i hi => h i (by omega))
    obtain ⟨a, ha⟩ := h n (by omega)
    refine ⟨l ++ [a], by simp [hl], fun i b hb => ?_⟩
    by_cases hi : i < n
    · rw [List.getElem?_append_left (by omega)] at hb; exact hp i b hb
    · rw [List.getElem?_append_right (by omega)] at hb
      have : i = n := by
        have := (List.getElem?_eq_some_iff.1 hb).1; simp at this; omega
      subst this
      rw [hl, Nat.sub_self] at hb
      simp at hb; subst hb; exact ha
theorem fl_at2 {α : Type} {V : α → List Value} {sz : Nat} (hV : ∀ a, (V a).length = sz) : ∀ (l : List α) (k f : Nat) (a : α), l[k]? = some a → f < sz → (fl V l)[k * sz + f]? = (V a)[f]?
  | [], k, f, a, h, _ => by simp at h
  | b :: l, 0, f, a, h, hf => by
    simp at h; subst h
    show (V b ++ fl V l)[_]? = _
    rw [Nat.zero_mul, Nat.zero_add, List.getElem?_append_left (by rw [hV]; exact hf)]
  | b :: l, k + 1, f, a, h, hf => by
    show (V b ++ fl V l)[_]? = _
    rw [List.getElem?_append_right (by rw [hV, Nat.succ_mul]; omega), hV]
    have := fl_at2 hV l k f a (by simpa using h) hf
    rw [← this]; congr 1; rw [Nat.succ_mul]; omega
/-- A slice: where it lies, what it holds; the chunks of its elements. -/
theorem dc_slice {e : TypeId} {α : Type} {V : α → List Value} {R : α → List Ch} {Ok : α → Prop} {sz : Nat} (ht : P.underlying t = some (.slice e)) (hc : P.cellsOf e = sz) (hz : 0 < sz) (hV : Enc V sz) (he : Dc P w e V R Ok) :
    Dc P w t (fun p : List α × Option Addr × Nat => [.slice p.2.1 p.1.length p.2.2]) (fun p => Ch.rd p.2.1 sz V p.1 :: p.1.flatMap R) (fun p => p.1.length ≤ 9223372036854775807 ∧ ∀ a ∈ p.1, Ok a) := fun H enc base sp hd fuel cs x h => by
  rcases DataW.trod_slice ht h with ⟨rfl, rfl⟩ | ⟨a, len, cap, els, rest, n, rfl, rfl, rfl, hb, h1, h2, h3, h4, _⟩
  · exact ⟨([], none, 0), rfl, aQ ⟨⟨by simp [fl], (by simp [fl]), .inl rfl⟩, fun b hb => by simp [Ch.rd, Ch.rs] at hb⟩ nofun, by simp, nofun⟩
  · subst hc
    have key : ∀ i, i < len → ∃ y : α, (∀ j, j < P.cellsOf e → w.cell? (a.add (i * P.cellsOf e + j)) = (V y)[j]?) ∧ Rd (R y) w ∧ Ok y ∧ (0 < P.cellsOf e → a.block < w.heap.size ∧ a.spot = none) := fun i hi => by
      have h5 := h4 i hi
      cases hcs : w.cells? base (a.add (i * P.cellsOf e)) (P.cellsOf e) with
      | none =>
        rw [hcs, List.getElem?_eq_getElem (by omega)] at h5; simp at h5
      | some cs =>
        rw [hcs, List.getElem?_eq_getElem (by omega)] at h5
        obtain ⟨y, rfl, hR, hO⟩ := he H enc base sp hd n cs _ h5
        obtain ⟨_, _, h6⟩ := World.cells?_some hcs
        have h7 : ∀ j, j < P.cellsOf e → w.cell? (a.add (i * P.cellsOf e + j)) = (V y)[j]? := fun j hj => by
          rw [← h6 j hj]; congr 1
          unfold Addr.add
          split
          · rename_i hz
            have : i * P.cellsOf e = 0 := by omega
            have : j = 0 := by omega
            simp [*]
          · split
            · split
              · omega
              · simp_all
            · split
              · simp_all
              · simp; omega
        refine ⟨y, h7, hR, hO, fun hp => ?_⟩
        have h8 := World.cells?_block hcs hp
        have h9 : (a.add (i * P.cellsOf e)).block = a.block := by unfold Addr.add; split <;> rfl
        rw [h9] at h8
        refine ⟨h8, ?_⟩
        cases hs : a.spot with
        | none => rfl
        | some s =>
          exfalso
          by_cases hi0 : i * P.cellsOf e = 0
          · have h10 := h7 0 hp
            have h11 : a.add (i * P.cellsOf e + 0) = a := by unfold Addr.add; rw [if_pos (by omega)]
            rw [h11, List.getElem?_eq_getElem (by rw [hV.len]; exact hp)] at h10
            unfold World.cell? at h10
            simp [hs] at h10
            split at h10 <;> simp at h10
          · have h12 := h4 0 (by omega)
            cases hcs0 : w.cells? base (a.add (0 * P.cellsOf e)) (P.cellsOf e) with
            | none => rw [hcs0, List.getElem?_eq_getElem (by omega)] at h12; simp at h12
            | some cs0 =>
              obtain ⟨_, h14, h13⟩ := World.cells?_some hcs0
              have h15 := h13 0 hp
              have h16 : (a.add (0 * P.cellsOf e)).add 0 = a := by simp [Addr.add]
              rw [h16, List.getElem?_eq_getElem (by omega)] at h15
              unfold World.cell? at h15
              simp [hs] at h15
              split at h15 <;> simp at h15
    obtain ⟨l, hl, hp⟩ := choose_list len key
    have hsz : (fl V l).length = l.length * P.cellsOf e := eu hV.len l
    refine ⟨(l, some a, cap), by rw [← hl], List.forall_mem_cons.2 ⟨⟨⟨hsz, ?_, ?_⟩, ?_⟩, ?_⟩, ?_, ?_⟩
    · intro u hu
      simp only [fl, List.mem_flatten, List.mem_map] at hu
      obtain ⟨_, ⟨b, _, rfl⟩, hu⟩ := hu
      exact List.all_eq_true.1 (hV.one b) u hu
    · rcases Nat.eq_zero_or_pos l.length with h0 | h0
      · exact .inl h0
      · refine .inr ⟨a.block, a.off, ?_, fun i hi => ?_⟩
        · obtain ⟨y, hy⟩ : ∃ y, l[0]? = some y := ⟨_, List.getElem?_eq_getElem h0⟩
          have h17 := ((hp 0 y hy).2.2.2 hz).2
          show some a = _
          congr 1
          cases a
          simp only at h17
          rw [h17]
        · have hk : i / P.cellsOf e < l.length := by
            rw [Nat.div_lt_iff_lt_mul hz, ← hsz]; exact hi
          obtain ⟨y, hy⟩ : ∃ y, l[i / P.cellsOf e]? = some y := ⟨_, List.getElem?_eq_getElem hk⟩
          have hm : i % P.cellsOf e < P.cellsOf e := Nat.mod_lt _ hz
          have e1 : i / P.cellsOf e * P.cellsOf e + i % P.cellsOf e = i := by rw [Nat.mul_comm]; exact Nat.div_add_mod i _
          have q := (hp _ y hy).1 _ hm
          rw [e1] at q
          have q2 := fl_at2 hV.len l _ _ y hy hm
          rw [e1] at q2
          rw [q2, ← q]
          have hsp := ((hp _ y hy).2.2.2 hz).2
          congr 1
          unfold Addr.add
          split
          · rename_i h0; subst h0; cases a; simp_all
          · rfl
    · rintro b ⟨hb0, hb⟩
      simp at hb; subst hb
      obtain ⟨y, hy⟩ : ∃ y, l[0]? = some y := ⟨_, List.getElem?_eq_getElem hb0⟩
      exact ((hp 0 y hy).2.2.2 hz).1
    · intro s hs
      obtain ⟨y, hy, hs⟩ := List.mem_flatMap.1 hs
      obtain ⟨i, hi, rfl⟩ := List.mem_iff_getElem.1 hy
      exact (hp i _ (List.getElem?_eq_getElem hi)).2.1 s hs
    · have h3 : maxLen = 9223372036854775807 := by decide
      show l.length ≤ _
      omega
    · intro y hy
      obtain ⟨i, hi, rfl⟩ := List.mem_iff_getElem.1 hy
      exact (hp i _ (List.getElem?_eq_getElem hi)).2.2.1
theorem cutn {cs : List Value} {n : Nat} (h : cs.length = n) : cs.drop n = [] := List.drop_of_length_le (by omega)
theorem cutc {cs v r : List Value} {a b k : Nat} (h : (cs.drop a).take k = v) (hr : cs.drop b = r) (e : a + k = b) : cs.drop a = v ++ r := by
  rw [← h, ← hr, ← e, ← List.drop_drop, List.take_append_drop]
theorem cut0 {cs v : List Value} (h : cs.drop 0 = v) : cs = v := h
/-- A struct's field. -/
theorem dI {H : Type} {enc : TypeId × Value → H} {base : Nat} {sp : Nat → Bool} {hd : Bool} {n : Nat} {cs : List Value} {fs : Array Field} {xs : List (DataW H × List MemPlace)} {α : Type} {V : α → List Value} {R : α → List Ch} {Ok : α → Prop}
    (hxl : xs.length = fs.size) (hf : ∀ (i : Nat) (f : Field), fs[i]? = some f → DataW.trod enc P w base sp hd n f.type ((cs.drop f.offset).take (P.cellsOf f.type)) = xs[i]?) (i : Nat) {ft : TypeId} {off k : Nat} (hi : (fs[i]?).map (fun f => (f.type, f.offset)) = some (ft, off)) (hk : P.cellsOf ft = k) (h : Dc P w ft V R Ok) :
    ∃ a, (cs.drop off).take k = V a ∧ Rd (R a) w ∧ Ok a := by
  subst hk
  cases hfi : fs[i]? with
  | none => rw [hfi] at hi; cases hi
  | some f =>
    rw [hfi] at hi
    simp only [Option.map_some, Option.some.injEq, Prod.mk.injEq] at hi
    obtain ⟨rfl, rfl⟩ := hi
    have h1 := hf i f hfi
    have h2 : i < fs.size := (Array.getElem?_eq_some_iff.1 hfi).1
    rw [List.getElem?_eq_getElem (by omega)] at h1
    exact h H enc base sp hd n _ _ h1
/-- An argument of a law's row: a struct, a slice. -/
theorem op_agg {H : Type} {enc : TypeId × Value → H} {W : World} {base b0 : Nat} {sp : Nat → Bool} {hd : Bool} {v : Value} {d : DataW H} {ps : List MemPlace} {fs : Array Field} {α : Type} {V : α → List Value} {R : α → List Ch} {Ok : α → Prop} (ht : P.underlying t = some (.struct fs)) (hval : Value.okWide P W .any base t v) (h : DataW.Trod enc P w b0 sp hd t v d ps) (hd : Dc P w t V R Ok) :
    ∃ a, v = .agg (V a).toArray ∧ Rd (R a) w ∧ Ok a := by
  simp only [Value.okWide, ht] at hval
  obtain ⟨cs, rfl, _⟩ := hval
  obtain ⟨fuel, hf⟩ := h
  obtain ⟨a, h1, h2, h3⟩ := hd _ _ _ _ _ _ _ _ hf
  simp only [Value.cells] at h1
  exact ⟨a, by rw [← h1], h2, h3⟩
theorem op_slice {H : Type} {enc : TypeId × Value → H} {W : World} {base b0 : Nat} {sp : Nat → Bool} {hd : Bool} {v : Value} {d : DataW H} {ps : List MemPlace} {e : TypeId} {α : Type} {V : α → List Value} {R : α → List Ch} {Ok : α → Prop} (ht : P.underlying t = some (.slice e)) (hval : Value.okWide P W .any base t v) (h : DataW.Trod enc P w b0 sp hd t v d ps) (hd : Dc P w t V R Ok) (h1 : ∀ a, (V a).length = 1) :
    ∃ a, V a = [v] ∧ Rd (R a) w ∧ Ok a := by
  obtain ⟨fuel, hf⟩ := h
  obtain ⟨a, h1, h2, h3⟩ := hd _ _ _ _ _ _ _ _ hf
  refine ⟨a, ?_, h2, h3⟩
  rw [← h1]
  simp only [Value.okWide, ht, Cell.okWide, Cell.ok] at hval
  cases v with
  | slice A n c => rfl
  | _ => simp at hval
end
/-- Of each slot only what was put last. -/
def Kn2 (l' : Fr) : List Nat → Fr → Prop
  | _, [] => True
  | seen, (t, v) :: r => match seen.elem t with
    | true => Kn2 l' seen r
    | false => look l' t = some v ∧ Kn2 l' (t :: seen) r
theorem Kn2.look {l' : Fr} : ∀ {seen : List Nat} {l : Fr}, Kn2 l' seen l → ∀ t v, Go.Proofs.YtnpdgmoeoidppaaGreat.look l t = some v → seen.elem t = false → Go.Proofs.YtnpdgmoeoidppaaGreat.look l' t = some v
  | seen, [], _, t, v, h, _ => by cases h
  | seen, (t0, v0) :: r, h, t, v, ht, hs => by
    rw [Kn2] at h
    simp only [Go.Proofs.YtnpdgmoeoidppaaGreat.look] at ht
    cases e : Nat.beq t0 t with
    | true =>
      have e2 := Nat.eq_of_beq_eq_true e; subst e2
      rw [hs] at h
      rw [e] at ht
      cases ht; exact h.1
    | false =>
      rw [e] at ht
      have hne : ¬ t = t0 := fun h2 => Nat.ne_of_beq_eq_false e h2.symm
      cases h0 : seen.elem t0 with
      | true => rw [h0] at h; exact Kn2.look h t v ht hs
      | false => rw [h0] at h; exact Kn2.look h.2 t v ht (by rw [List.elem_cons, hs, beq_eq_false_iff_ne.2 hne])
section
variable {x : Cx} {l : Fr} {L S : List Ch} {Q : Exit → Act → World → Prop} {d : Nat} {ty : TypeId} {pos : String} {af : Array Edge} {gd : Option (Nat × Bool)}
/-- A loop that turns the chunks ahead. -/
theorem w_loopL {c : Code} {σ : Type} {L0 : List Ch} (ts : List Nat) (I : σ → Prop) (μ : σ → Nat) (lf : σ → Fr) (C : σ → List Ch) (g0 : σ) (h0 : I g0) (hk : Knows l (lf g0)) (hc : L = C g0 ++ L0)
    (body : ∀ g, I g → W x (lf g ++ keep ts l) (C g ++ L0) S c (Ql x I lf (fun g => C g ++ L0) (fun _ => S) (keep ts l) (fun g' => μ g' < μ g) Q)) : W x l L S (.loop c) Q :=
  w_loop ts I μ lf (fun g => C g ++ L0) (fun _ => S) g0 h0 hk (fun _ h => hc ▸ h) body
end
/-! Where several operations may come up: each of them. -/
section
variable {x : Cx} {C : World → Prop} {l : Fr} {L S : List Ch} {Q : Exit → Act → World → Prop} {ops : Array Oper} {fuel m : Nat} {listed : Array Bool}
end
/-! Regions with open order once more: C is kept as long as nothing of the tail has come up. -/
def ef (m : Nat) (listed : Array Bool) : Bool := (List.range listed.size).all fun t => Nat.blt t m || !(listed.getD t false)
theorem getD_set_ne' {l : Array Bool} {i j : Nat} {v d : Bool} (h : i ≠ j) : (l.setIfInBounds i v).getD j d = l.getD j d := by
  simp [Array.getD_eq_getD_getElem?, Array.getElem?_setIfInBounds_ne h]
theorem eJ {m : Nat} {listed : Array Bool} {j : Nat} (h : ef m listed = true) (hj : j < m) : ef m (listed.setIfInBounds j true) = true := by
  simp only [ef, List.all_eq_true, List.mem_range, Array.size_setIfInBounds, Bool.or_eq_true] at h ⊢
  intro t ht
  rcases h t ht with h1 | h1
  · exact .inl h1
  · by_cases e : j = t
    · subst e; exact .inl (Nat.ble_eq_true_of_le hj)
    · right
      rw [getD_set_ne' e]; exact h1
def ia (P : Program) (ops : Array Oper) (Q : Exit → Act → World → Prop) (C : World → Prop) (m : Nat) : Nat → Array Bool → Act → World → Prop
  | 0, listed, a, _w => Region.ready .any ops listed = [] ∧ Q .normal a _w
  | fuel + 1, listed, a, w =>
    (Region.ready .any ops listed = [] → Q .normal a w) ∧
    ∀ i ∈ Region.ready .any ops listed, wpOp P ops Q i (fun a' w' => (ef m (listed.setIfInBounds i true) = true → C w') ∧ ia P ops Q C m fuel (listed.setIfInBounds i true) a' w') a w
theorem iq {P : Program} {ops : Array Oper} {Q : Exit → Act → World → Prop} {C : World → Prop} {m : Nat} : ∀ (fuel : Nat) (listed : Array Bool) (a : Act) (w : World), ia P ops Q C m fuel listed a w → wpAny P .any ops Q fuel listed a w
  | 0, _, _, _, h => h
  | fuel + 1, _, _, _, h => ⟨h.1, fun i hi => wpOp_mono (fun a' w' h' => iq fuel _ a' w' h'.2) (h.2 i hi)⟩
/-- .. waits for it, through others. -/
def waits (ops : Array Oper) : Nat → Nat → Nat → Bool
  | 0, _, _ => false
  | f + 1, t, i => match ops[t]? with
    | some o => o.after.any fun e => Region.binds .any e && (e.on == i || waits ops f e.on i)
    | none => false
def iu (ops : Array Oper) (m i : Nat) : Bool := (List.range ops.size).all fun t => Nat.blt t m || waits ops ops.size t i
def iI (ops : Array Oper) (listed : Array Bool) : Bool := (List.range ops.size).all fun k => !(listed.getD k false) || match ops[k]? with
  | some o => o.after.all fun e => !(Region.binds .any e) || listed.getD e.on false
  | none => true
def g7 (ops : Array Oper) (listed : Array Bool) : Prop := ∀ k o, ops[k]? = some o → listed.getD k false = true → ∀ e ∈ o.after, Region.binds .any e = true → listed.getD e.on false = true
theorem closed_of {ops : Array Oper} {listed : Array Bool} (h : iI ops listed = true) : g7 ops listed := fun k o ho hk e he hb => by
  simp only [iI, List.all_eq_true, List.mem_range] at h
  have h1 := h k (Array.getElem?_eq_some_iff.1 ho).1
  simp only [hk, ho, Bool.not_true, Bool.false_or] at h1
  have h2 := Array.all_eq_true'.1 h1 e he
  simpa [hb] using h2
theorem gA {ops : Array Oper} {listed : Array Bool} (hc : g7 ops listed) {i : Nat} : ∀ (f t : Nat) (o : Oper), ops[t]? = some o → (∀ e ∈ o.after, Region.binds .any e = true → listed.getD e.on false = true) → waits ops f t i = true → listed.getD i false = true
  | 0, _, _, _, _, h => by cases h
  | f + 1, t, o, ho, hd, h => by
    rw [waits, ho] at h
    obtain ⟨e, he, hb⟩ := Array.any_eq_true'.1 h
    simp only [Bool.and_eq_true, Bool.or_eq_true, beq_iff_eq] at hb
    have hl := hd e he hb.1
    rcases hb.2 with h1 | h1
    · rw [← h1]; exact hl
    · cases hoe : ops[e.on]? with
      | none =>
        exfalso
        cases f with
        | zero => cases h1
        | succ f =>
          rw [waits, hoe] at h1
          cases h1
      | some oe => exact gA hc f e.on oe hoe (fun e2 h2 h3 => hc e.on oe hoe hl e2 h2 h3) h1
theorem closed_set {ops : Array Oper} {listed : Array Bool} {j : Nat} {oj : Oper} (h : g7 ops listed) (hoj : ops[j]? = some oj) (hd : ∀ e ∈ oj.after, Region.binds .any e = true → listed.getD e.on false = true) : g7 ops (listed.setIfInBounds j true) := fun k o ho hk e he hb => by
  have mono : ∀ q, listed.getD q false = true → (listed.setIfInBounds j true).getD q false = true := fun q hq => by
    by_cases e2 : j = q
    · subst e2
      have : j < listed.size := by
        rcases Nat.lt_or_ge j listed.size with h' | h'
        · exact h'
        · simp [Array.getElem?_eq_none h'] at hq
      simp [this]
    · rw [getD_set_ne' e2]; exact hq
  refine mono _ ?_
  by_cases e2 : j = k
  · subst e2; rw [hoj] at ho; cases ho; exact hd e he hb
  · rw [getD_set_ne' e2] at hk; exact h k o ho hk e he hb
theorem iA {P : Program} {ops : Array Oper} {Q : Exit → Act → World → Prop} {C : World → Prop} {m i : Nat} {oi : Oper} {v : Value} (hi : ops[i]? = some oi) (hsel : ∀ (j : Nat) (o : Oper) cs b, ops[j]? = some o → o.op ≠ .select cs b)
    (hQ : ∀ c a w, Q (.panic c) (a.put oi.dst v) w → Q (.panic c) a w) (hm : iu ops m i = true) (him : i < m) :
    ∀ (fuel : Nat) (listed : Array Bool) (a : Act) (w : World), ef m listed = true → g7 ops listed →
      (∀ j oj, ops[j]? = some oj → j ≠ i → listed.getD j true = false → (∀ e ∈ oj.after, Region.binds .any e = true → e.on ≠ i) → oi.apart ops oj = true) →
      i ∈ Region.ready .any ops listed → YieldsIf P ops C oi v a → C w →
      ia P ops Q C m fuel (listed.setIfInBounds i true) (a.put oi.dst v) w → ia P ops Q C m (fuel + 1) listed a w := by
  intro fuel
  induction fuel with
  | zero =>
    intro listed a w hnt hcl _ hr hy hS H
    refine ⟨fun h => (by rw [h] at hr; cases hr), fun j hj => ?_⟩
    by_cases hji : j = i
    · subst hji; exact hy.wpOp hi hS ⟨fun _ => hS, H⟩
    · have := ready_mono hj hji
      rw [H.1] at this
      cases this
  | succ fuel ih =>
    intro listed a w hnt hcl hfree hr hy hS H
    refine ⟨fun h => (by rw [h] at hr; cases hr), fun j hj => ?_⟩
    by_cases hji : j = i
    · subst hji; exact hy.wpOp hi hS ⟨fun _ => hS, H⟩
    · have h1 := H.2 j (ready_mono hj hji)
      obtain ⟨hjun, oj, hoj, hall⟩ := mem_ready.1 hj
      have hun : listed.getD i false = false := by
        have h0 := (mem_ready.1 hr).1
        rcases Nat.lt_or_ge i listed.size with h' | h'
        · simpa [h'] using h0
        · simp [Array.getElem?_eq_none h']
      have hnot : ∀ e ∈ oj.after, Region.binds .any e = true → e.on ≠ i := fun e he hb heq => by
        have h1 := hall e he hb
        rw [heq, hun] at h1
        cases h1
      have hjm : j < m := by
        rcases Nat.lt_or_ge j m with h | h
        · exact h
        · simp only [iu, List.all_eq_true, List.mem_range] at hm
          have h1 := hm j (Array.getElem?_eq_some_iff.1 hoj).1
          rw [Bool.or_eq_true] at h1
          rcases h1 with h1 | h1
          · have := Nat.le_of_ble_eq_true h1; omega
          · rw [gA hcl _ j oj hoj hall h1] at hun; cases hun
      have h2 := wpOp_putIf hoj (hfree j oj hoj hji hjun hnot) (fun cs b => hsel i oi cs b hi) (fun cs b => hsel j oj cs b hoj) hQ hy h1
      have hfree' : ∀ k ok, ops[k]? = some ok → k ≠ i → (listed.setIfInBounds j true).getD k true = false →
          (∀ e ∈ ok.after, Region.binds .any e = true → e.on ≠ i) → oi.apart ops ok = true := fun k ok hk hki hun' hno => by
        refine hfree k ok hk hki ?_ hno
        by_cases hjk : j = k
        · subst hjk; exact hjun
        · rw [getD_set_ne true hjk] at hun'; exact hun'
      have hC := eJ (eJ hnt him) hjm
      refine wpOp_mono (fun a' w' h3 => ⟨fun _ => h3.2.1 hC, ih (listed.setIfInBounds j true) a' w' (eJ hnt hjm) (closed_set hcl hoj hall) hfree' (ready_mono hr (Ne.symm hji)) h3.1 (h3.2.1 hC) ?_⟩) h2
      rw [Array.setIfInBounds_comm _ _ hji]
      exact h3.2.2
def WU (x : Cx) (C : World → Prop) (m : Nat) (ops : Array Oper) (fuel : Nat) (listed : Array Bool) (l : Fr) (L S : List Ch) (Q : Exit → Act → World → Prop) : Prop :=
  ∀ a w, Kn x.N x.ds l a → Hp x.ok0 x.w0 L S w → ia x.P ops Q C m fuel listed a w
def QnU (x : Cx) (C : World → Prop) (m : Nat) (ops : Array Oper) (fuel : Nat) (listed : Array Bool) (Q : Exit → Act → World → Prop) : Exit → Act → World → Prop := Exit.then (fun a w => (ef m listed = true → C w) ∧ ia x.P ops Q C m fuel listed a w) Q
def WRU (x : Cx) (C : World → Prop) (m : Nat) (ops : Array Oper) (fuel : Nat) (listed : Array Bool) (js : List Nat) (l : Fr) (L S : List Ch) (Q : Exit → Act → World → Prop) : Prop :=
  ∀ i ∈ js, ∀ a w, Kn x.N x.ds l a → Hp x.ok0 x.w0 L S w → wpOp x.P ops Q i (fun a' w' => (ef m (listed.setIfInBounds i true) = true → C w') ∧ ia x.P ops Q C m fuel (listed.setIfInBounds i true) a' w') a w
section
variable {x : Cx} {C : World → Prop} {l : Fr} {L S : List Ch} {Q : Exit → Act → World → Prop} {ops : Array Oper} {fuel m : Nat} {listed : Array Bool}
theorem de {id : Nat} {ol : List Oper} (m : Nat) (hro : x.ro = none) (hm : x.P.follows .mixedOrders = true) (h : WU x (Hp x.ok0 x.w0 L S) m ol.toArray ol.length (Array.replicate ol.length false) l L S Q) : W x l L S (.region id ol.toArray true) Q := fun a w ha hw => by
  rw [hro]
  refine (wpIn_wide (n := 0)).2 (wp_region_any hm (iq (C := Hp x.ok0 x.w0 L S) (m := m) _ _ _ _ ?_))
  have := h a { w with drawn := w.drawn + 1 } ha hw.drew
  simpa using this
theorem ax {i d : Nat} {op : Op} {ty : TypeId} {pos : String} {af : Array Edge} {gd : Option (Nat × Bool)} {v : Value} {listed' : Array Bool} {L0 S0 : List Ch} (hi : ops[i]? = some ⟨some d, op, ty, pos, af, gd⟩) (hw : ∀ a, Kn x.N x.ds l a → Region.wanted ⟨some d, op, ty, pos, af, gd⟩ (yielded ops a.tmps) = true)
    (hy : Yv x l L0 S0 ⟨some d, op, ty, pos, af, gd⟩ v) (hC : ∀ w, Hp x.ok0 x.w0 L S w → C w) (hC0 : ∀ w, C w → Hp x.ok0 x.w0 L0 S0 w) (hN : Nat.blt d x.N = true) (hpk : PkOk Q)
    (hs : (Region.noSelect ops && Region.free .any ops listed i && (Region.ready .any ops listed).contains i && iu ops m i && Nat.blt i m && ef m listed && iI ops listed) = true) (hl : listed.setIfInBounds i true = listed')
    (k : WU x C m ops fuel listed' ((d, v) :: l) L S Q) : WU x C m ops (fuel + 1) listed l L S Q := fun a w ha hh => by
  simp only [Bool.and_eq_true] at hs
  obtain ⟨⟨⟨⟨⟨⟨h1, h2⟩, h3⟩, h4⟩, h5⟩, h6⟩, h7⟩ := hs
  exact iA hi (Region.noSelect_spec h1) (fun c a w h => hpk c a w _ _ h) h4 (Nat.le_of_ble_eq_true h5) fuel listed a w h6 (closed_of h7) (Region.free_spec hi h2) (by simpa using h3) (.inl ⟨hw a ha, fun w' hw' => hy a w' ha (hC0 w' hw')⟩) (hC w hh) (by rw [hl]; exact k _ w (ha.put (Nat.le_of_ble_eq_true hN) v) hh)
theorem bc {C : World → Prop} {l : Fr} {L S : List Ch} (hC : ∀ w, Hp x.ok0 x.w0 L S w → C w) (h : WU x C m ops fuel listed l L S Q) : E x l L S .normal (QnU x C m ops fuel listed Q) := fun a w ha hw => ⟨fun _ => hC w hw, h a w ha hw⟩
theorem eu_tail {C : World → Prop} {l : Fr} {L S : List Ch} (hi : ef m listed = false) (h : WU x C m ops fuel listed l L S Q) : E x l L S .normal (QnU x C m ops fuel listed Q) := fun a w ha hw => ⟨fun h' => absurd (hi.symm.trans h') (by decide), h a w ha hw⟩
theorem eX {js : List Nat} (hr : Region.ready .any ops listed = js) (hne : js.isEmpty = false) (h : WRU x C m ops fuel listed js l L S Q) : WU x C m ops (fuel + 1) listed l L S Q := fun a w ha hh =>
  ⟨fun h0 => by rw [hr] at h0; subst h0; simp at hne, fun j hj => h j (hr ▸ hj) a w ha hh⟩
theorem d8 : WRU x C m ops fuel listed [] l L S Q := fun i hi => by cases hi
theorem bZ {js : List Nat} {o : Oper} {i : Nat} {listed' : Array Bool} (hro : x.ro = none) (hi : ops[i]? = some o) (hnd : Op.isDefer o.op = false) (ht : ∀ a w, Kn x.N x.ds l a → Tame ((execOp a.eval o).run x.P w)) (hl : listed.setIfInBounds i true = listed')
    (h : WL x l L S ops [o] (QnU x C m ops fuel listed' Q)) (k : WRU x C m ops fuel listed js l L S Q) : WRU x C m ops fuel listed (i :: js) l L S Q := fun j hj => by
  rcases List.mem_cons.1 hj with rfl | hj
  · intro a w ha hh
    rw [hl]
    refine iO hi ?_
    have h1 := h a w ha hh
    rw [hro] at h1
    unfold wpListIn at h1
    unfold wpList
    split
    · rename_i hw
      rw [if_pos hw] at h1
      obtain ⟨_, h1⟩ := h1
      have e : Oper.semAt (fw none).round a.eval o = execOp a.eval o := rfl
      rw [e] at h1
      refine .inl ?_
      unfold Oper.wp
      have ht' := ht a w ha
      cases hx : (execOp a.eval o).run x.P w with
      | halt hh w' => rw [hx] at h1; cases hh <;> exact h1
      | ok n w' =>
        rw [hx] at h1 ht'
        cases n with
        | value v => exact h1
        | skip => exact h1
        | enter f args =>
          have := (callsIn_wide (n := 0 - 1)).1 (show CallsIn Fence.wide (0 - 1) x.P f args w' _ from h1.2)
          exact bW this fun e w'' hR => by cases e <;> exact hR
        | _ => exact ht'.elim
    · rename_i hw
      rw [if_neg hw] at h1
      exact h1.2
  · exact k j hj
theorem bD {o : Oper} {i : Nat} {listed' : Array Bool} (hro : x.ro = none) (hi : ops[i]? = some o) (hnd : Op.isDefer o.op = false) (ht : ∀ a w, Kn x.N x.ds l a → Tame ((execOp a.eval o).run x.P w)) (hr : Region.ready .any ops listed = [i]) (hl : listed.setIfInBounds i true = listed')
    (h : WL x l L S ops [o] (QnU x C m ops fuel listed' Q)) : WU x C m ops (fuel + 1) listed l L S Q := eX hr rfl (bZ hro hi hnd ht hl h d8)
theorem f0 {t : Nat} {v : Value} (v' : Value) (h : look l t = some v) (e : v = v') (k : WU x C m ops fuel listed ((t, v') :: l) L S Q) : WU x C m ops fuel listed l L S Q := fun a w ha hw => k a w (ha.mono fun t' u h' => by
    simp only [look] at h'
    cases e2 : Nat.beq t t' with
    | true => rw [e2] at h'; cases h'; rw [← Nat.eq_of_beq_eq_true e2, h, e]
    | false => rw [e2] at h'; exact h') hw
theorem bQ {fuel : Nat} (hr : Region.ready .any ops listed = []) (h : E x l L S .normal Q) : WU x C m ops fuel listed l L S Q := fun a w ha hh => by
  cases fuel with
  | zero => exact ⟨hr, h a w ha hh⟩
  | succ n => exact ⟨fun _ => h a w ha hh, by rw [hr]; simp⟩
end
end Go.Proofs.YtnpdgmoeoidppaaGreat

/- the references of data and records; where entries lie -/
namespace Go.Proofs.YtnpdgmoeoidppaaGreat
open Go.RowKit Go.Shelf
set_option linter.unusedVariables false
set_option linter.unusedSimpArgs false

/-- What a type has. -/
structure Hs where
  addr : Bool
  name : Bool
  mail : Bool
  texts : Bool
  raw : Bool
  nums : Int
  wide : Int
def numD (d : Dt) : Nat → Int
  | 0 => d.n0
  | 1 => d.n1
  | 2 => d.n2
  | 3 => d.n3
  | _ => d.n4
def hasBad (h : Hs) (d : Dt) : Prop := (h.addr = false ∧ d.ad ≠ ad0) ∨ (h.name = false ∧ d.name ≠ []) ∨ (h.mail = false ∧ d.mail ≠ []) ∨ (h.raw = false ∧ d.raw ≠ []) ∨ h.texts = true
instance (h : Hs) (d : Dt) : Decidable (hasBad h d) := by unfold hasBad; infer_instance
def adBad (t : Int) (h : Hs) (d : Dt) : Prop := h.addr = true ∧ (cn d.ad ≠ 0 ∨ d.ad.six ≠ decide (t = 28))
instance (t : Int) (h : Hs) (d : Dt) : Decidable (adBad t h d) := by unfold adBad; infer_instance
def numOk (h : Hs) (d : Dt) (k : Nat) : Prop := ¬ (h.nums ≤ k ∧ numD d k ≠ 0) ∧ ¬ (h.wide = 2 ∧ 65535 < numD d k)
instance (h : Hs) (d : Dt) (k : Nat) : Decidable (numOk h d k) := by unfold numOk; infer_instance
def numsOk (h : Hs) (d : Dt) : Prop := ∀ k, k < 5 → numOk h d k
instance (h : Hs) (d : Dt) : Decidable (numsOk h d) := by unfold numsOk; exact Nat.decidableBallLT 5 _
end Go.Proofs.YtnpdgmoeoidppaaGreat

/- entries: the plain laws of their records -/
namespace Go.Proofs.YtnpdgmoeoidppaaGreat
open Go.RowKit Go.Shelf
set_option linter.unusedVariables false
set_option linter.unusedSimpArgs false

theorem light_le {e : En} (h : lightE e = true) : e.host.length ≤ 300 ∧ e.alias.length ≤ 300 ∧ e.cluster.length ≤ 300 ∧ e.addrs.length ≤ 20 ∧ e.ports.length ≤ 20 := by
  simp only [lightE, Bool.and_eq_true, decide_eq_true_eq] at h
  exact ⟨h.1.1.1.1, h.1.1.1.2, h.1.1.2, h.1.2, h.2⟩

end Go.Proofs.YtnpdgmoeoidppaaGreat

/- the laws of entries -/
namespace Go.Proofs.YtnpdgmoeoidppaaGreat
open Go.RowKit Go.Shelf
set_option linter.unusedVariables false
set_option linter.unusedSimpArgs false

def gO (a : Ad) : Prop := 0 ≤ a.hi ∧ a.hi ≤ 18446744073709551615 ∧ 0 ≤ a.lo ∧ a.lo ≤ 18446744073709551615
def EnOk (e : En) : Prop := e.host.length ≤ 9223372036854775807 ∧ (-9223372036854775808 ≤ e.kind ∧ e.kind ≤ 9223372036854775807) ∧ e.cluster.length ≤ 9223372036854775807 ∧ (∀ a ∈ e.addrs, gO a) ∧ e.addrs.length ≤ 9223372036854775807 ∧ e.alias.length ≤ 9223372036854775807 ∧ (∀ p ∈ e.ports, -9223372036854775808 ≤ p ∧ p ≤ 9223372036854775807) ∧ e.ports.length ≤ 9223372036854775807 ∧ 0 ≤ e.ttl ∧ e.ttl ≤ 4294967295
theorem EnOk.lo {e : En} (h : EnOk e) : ∀ a ∈ e.addrs, 0 ≤ a.lo := fun a ha => (h.2.2.2.1 a ha).2.2.1

theorem dc_ad {w : World} : Dc Tryz.prog w 29 (α := Ad) (dN) (fun _ => []) (gO) := fun H enc base sp hd fuel cs x h => by
  obtain ⟨xs, n, rfl, _, hcl, hxl, hf⟩ := DataW.trod_struct Tryz.underlying29 h
  have hcl2 : cs.length = 3 := hcl.trans (by kernel_rfl)
  obtain ⟨x0, c0, r0, o0⟩ := dI hxl hf 0 (ft := 4) (off := 0) (k := 1) (by kernel_rfl) (by kernel_rfl) (dc_bool Tryz.underlying4)
  obtain ⟨x1, c1, r1, o1⟩ := dI hxl hf 1 (ft := 27) (off := 1) (k := 1) (by kernel_rfl) (by kernel_rfl) (dc_int Tryz.underlying27)
  obtain ⟨x2, c2, r2, o2⟩ := dI hxl hf 2 (ft := 27) (off := 2) (k := 1) (by kernel_rfl) (by kernel_rfl) (dc_int Tryz.underlying27)
  have hcs := cut0 (cutc c0 (cutc c1 (cutc c2 (cutn hcl2) rfl) rfl) rfl)
  exact ⟨⟨x0, x1, x2⟩, hcs, nofun, o1.1, o1.2, o2.1, o2.2⟩

theorem rd_none {w : World} {sz : Nat} : (Ch.rs none 0 sz []).P w ∧ ∀ b, (Ch.rs none 0 sz []).ok b → b < w.heap.size := ⟨⟨by simp, (by simp), .inl rfl⟩, fun b hb => by simp [Ch.rs] at hb⟩

end Go.Proofs.YtnpdgmoeoidppaaGreat

/- Search: plain laws. -/
namespace Go.Proofs.YtnpdgmoeoidppaaGreat
open Go.RowKit Go.Shelf
set_option linter.unusedVariables false
set_option linter.unusedSimpArgs false

/-- A search. -/
structure Sr where
  ndots : Int
  doms : List aV
def ij : List aV → Int
  | [] => 0
  | d :: r => if bB d ≠ 0 then bB d else ij r
theorem domsCk_zero : ∀ {l : List aV}, ij l = 0 ↔ ∀ d ∈ l, bB d = 0
  | [] => by simp [ij]
  | d :: r => by
    rw [ij]
    by_cases h : bB d ≠ 0
    · rw [if_pos h]; simp [h]
    · rw [if_neg h, domsCk_zero]
      have : bB d = 0 := by omega
      simp [this]
def srCk (s : Sr) : Int := if 6 < s.doms.length then 3 else if ij s.doms ≠ 0 then ij s.doms else if ([] : aV) ∈ s.doms ∨ s.ndots < 0 ∨ 15 < s.ndots then 2 else 0
theorem srCk_zero {s : Sr} (h : srCk s = 0) : s.doms.length ≤ 6 ∧ (∀ d ∈ s.doms, bB d = 0 ∧ d ≠ []) ∧ 0 ≤ s.ndots ∧ s.ndots ≤ 15 := by
  unfold srCk at h
  split at h
  · omega
  · split at h
    · omega
    · rename_i h1 h2
      split at h
      · omega
      · rename_i h3
        have h4 := domsCk_zero.1 (show ij s.doms = 0 by omega)
        refine ⟨by omega, fun d hd => ⟨h4 d hd, fun e => h3 (.inl (e ▸ hd))⟩, ?_, ?_⟩
        · by_cases q : 0 ≤ s.ndots
          · exact q
          · exact absurd (.inr (.inl (by omega))) h3
        · by_cases q : s.ndots ≤ 15
          · exact q
          · exact absurd (.inr (.inr (by omega))) h3
/-- name.Join. -/
def joinE (a b : aV) : Int := if bB a ≠ 0 then bB a else if bB b ≠ 0 then bB b else if 254 < a.length + b.length then 3 else 0
theorem joinE_zero {a b : aV} : joinE a b = 0 ↔ bB a = 0 ∧ bB b = 0 ∧ a.length + b.length ≤ 254 := by
  unfold joinE
  by_cases h1 : bB a = 0
  · by_cases h2 : bB b = 0
    · rw [if_neg (by omega), if_neg (by omega)]
      by_cases h3 : 254 < a.length + b.length
      · rw [if_pos h3]; simp; omega
      · rw [if_neg h3]; simp [h1, h2]; omega
    · rw [if_neg (by omega), if_pos h2]; simp [h1, h2]
  · rw [if_pos h1]; simp [h1]
theorem okN_append {a b : aV} (ha : iy a = true) (hb : iy b = true) : iy (a ++ b) = true := by
  have h := (gI (eL a ++ eL b) (fun s hs => (List.mem_append.1 hs).elim (e7 a s) (e7 b s))).1
  rw [eT, fU a ha, fU b hb] at h
  exact h
theorem hJ {a b : aV} (h : joinE a b = 0) : bB (a ++ b) = 0 := by
  obtain ⟨h1, h2, h3⟩ := joinE_zero.1 h
  exact nameCk_zero.2 ⟨by rw [List.length_append]; omega, okN_append (nameCk_zero.1 h1).2 (nameCk_zero.1 h2).2⟩
theorem foldN_eq {n : aV} (h : bB n = 0) : a6 n = d5 n := if_pos h
theorem foldN_len {n : aV} (h : bB n = 0) : (a6 n).length = n.length := by rw [foldN_eq h, dd]
/-- The domains joined. -/
def hY (n : aV) (l : List aV) : List aV := (l.filter fun d => decide (joinE n d = 0)).map fun d => n ++ d
def ownS (s : Sr) (n : aV) : Prop := n = [] ∨ s.ndots ≤ ((ce n).length : Int) - 1
instance (s : Sr) (n : aV) : Decidable (ownS s n) := by unfold ownS; infer_instance
/-- The candidates, some of them twice. -/
def hZ (s : Sr) (n : aV) : List aV := if n = [] then [n] else if ownS s n then n :: hY n s.doms else hY n s.doms ++ [n]
/-- Each once. -/
def ded : List aV → List aV → List aV
  | _, [] => []
  | seen, x :: r => if a6 x ∈ seen then ded seen r else x :: ded (a6 x :: seen) r
def eachS (s : Sr) (n : aV) : List aV := if srCk s ≠ 0 ∨ bB n ≠ 0 then [] else ded [] (hZ s n)
theorem ded_mem {x : aV} : ∀ {seen l : List aV}, x ∈ ded seen l → x ∈ l ∧ a6 x ∉ seen
  | _, [], h => by cases h
  | seen, y :: r, h => by
    rw [ded] at h
    split at h
    · have := ded_mem h; exact ⟨.tail _ this.1, this.2⟩
    · rcases List.mem_cons.1 h with rfl | h
      · exact ⟨.head _, ‹_›⟩
      · have := ded_mem h
        exact ⟨.tail _ this.1, fun q => this.2 (.tail _ q)⟩
theorem ded_len : ∀ (seen l : List aV), (ded seen l).length ≤ l.length
  | _, [] => Nat.le_refl _
  | seen, y :: r => by
    rw [ded]
    split
    · have := ded_len seen r; simp; omega
    · have := ded_len (a6 y :: seen) r; simp; omega
/-- What has been seen behind a part. -/
def dedS : List aV → List aV → List aV
  | seen, [] => seen
  | seen, x :: r => if a6 x ∈ seen then dedS seen r else dedS (a6 x :: seen) r
theorem ip : ∀ (seen a b : List aV), ded seen (a ++ b) = ded seen a ++ ded (dedS seen a) b
  | _, [], _ => rfl
  | seen, y :: r, b => by
    rw [List.cons_append, ded, ded, dedS]
    split
    · exact ip seen r b
    · rw [ip _ r b]; rfl
theorem dedS_mem {k : aV} : ∀ {seen l : List aV}, k ∈ dedS seen l ↔ k ∈ seen ∨ ∃ x ∈ l, a6 x = k
  | seen, [] => by simp [dedS]
  | seen, y :: r => by
    rw [dedS]
    split
    · rw [dedS_mem]
      constructor
      · rintro (h | ⟨x, hx, e⟩)
        · exact .inl h
        · exact .inr ⟨x, .tail _ hx, e⟩
      · rintro (h | ⟨x, hx, e⟩)
        · exact .inl h
        · rcases List.mem_cons.1 hx with rfl | hx
          · exact .inl (e ▸ ‹_›)
          · exact .inr ⟨x, hx, e⟩
    · rw [dedS_mem]
      constructor
      · rintro (h | ⟨x, hx, e⟩)
        · rcases List.mem_cons.1 h with rfl | h
          · exact .inr ⟨y, .head _, rfl⟩
          · exact .inl h
        · exact .inr ⟨x, .tail _ hx, e⟩
      · rintro (h | ⟨x, hx, e⟩)
        · exact .inl (.tail _ h)
        · rcases List.mem_cons.1 hx with rfl | hx
          · exact .inl (e ▸ .head _)
          · exact .inr ⟨x, hx, e⟩
theorem joins_mem {n x : aV} {l : List aV} : x ∈ hY n l ↔ ∃ d ∈ l, joinE n d = 0 ∧ x = n ++ d := by
  simp only [hY, List.mem_map, List.mem_filter, decide_eq_true_eq]
  constructor
  · rintro ⟨d, ⟨h1, h2⟩, rfl⟩; exact ⟨d, h1, h2, rfl⟩
  · rintro ⟨d, h1, h2, rfl⟩; exact ⟨d, ⟨h1, h2⟩, rfl⟩
theorem joins_len (n : aV) (l : List aV) : (hY n l).length ≤ l.length := by
  rw [hY, List.length_map]; exact List.length_filter_le _ _
theorem join_ne {n d : aV} (h : joinE n d = 0) (hd : d ≠ []) : a6 (n ++ d) ≠ a6 n := fun e => by
  obtain ⟨h1, h2, h3⟩ := joinE_zero.1 h
  have e2 := congrArg List.length e
  rw [foldN_len (hJ h), foldN_len h1, List.length_append] at e2
  exact hd (List.length_eq_zero_iff.1 (by omega))
theorem cands_mem {s : Sr} {n x : aV} (h : x ∈ hZ s n) : x = n ∨ x ∈ hY n s.doms := by
  unfold hZ at h
  split at h
  · left; simpa using h
  · split at h
    · simpa using h
    · rcases List.mem_append.1 h with h | h
      · exact .inr h
      · left; simpa using h
theorem cands_len (s : Sr) (n : aV) : (hZ s n).length ≤ s.doms.length + 1 := by
  have := joins_len n s.doms
  unfold hZ
  split
  · simp
  · split
    · simp; omega
    · simp; omega
/-- Of a search and a name that may be. -/
structure Ok (s : Sr) (n : aV) : Prop where
  s0 : srCk s = 0
  n0 : bB n = 0
theorem Ok.each {s : Sr} {n : aV} (h : Ok s n) : eachS s n = ded [] (hZ s n) := by
  rw [eachS, if_neg (by rw [h.s0, h.n0]; simp)]
theorem Ok.joinNe {s : Sr} {n x : aV} (h : Ok s n) (hx : x ∈ hY n s.doms) : a6 x ≠ a6 n := by
  obtain ⟨d, hd, he, rfl⟩ := joins_mem.1 hx
  exact join_ne he ((srCk_zero h.s0).2.1 d hd).2
theorem Ok.xck {s : Sr} {n x : aV} (h : Ok s n) (hx : x ∈ hZ s n) : bB x = 0 := by
  rcases cands_mem hx with rfl | hx
  · exact h.n0
  · obtain ⟨d, hd, he, rfl⟩ := joins_mem.1 hx
    exact hJ he
theorem Ok.each_own {s : Sr} {n : aV} (h : Ok s n) (ho : ownS s n) : ∃ r, eachS s n = n :: r := by
  rw [h.each, hZ]
  split
  · exact ⟨[], rfl⟩
  · first | (rw [if_pos ho]; exact ⟨_, rfl⟩) | exact ⟨_, rfl⟩
theorem Ok.each_last {s : Sr} {n : aV} (h : Ok s n) (ho : ¬ ownS s n) : eachS s n = ded [] (hY n s.doms) ++ [n] := by
  have hn : n ≠ [] := fun e => ho (.inl e)
  rw [h.each, hZ, if_neg hn, if_neg ho, ip]
  congr 1
  rw [ded, if_neg]
  · rfl
  · rw [dedS_mem]
    rintro (h1 | ⟨x, hx, e⟩)
    · cases h1
    · exact h.joinNe hx e
theorem Ok.mem {s : Sr} {n : aV} (h : Ok s n) : n ∈ eachS s n := by
  by_cases ho : ownS s n
  · obtain ⟨r, e⟩ := h.each_own ho
    rw [e]; exact .head _
  · rw [h.each_last ho]; simp
theorem Ok.xs {s : Sr} {n x : aV} (h : Ok s n) (hx : x ∈ eachS s n) : bB x = 0 ∧ (x = n ∨ ∃ d ∈ s.doms, joinE n d = 0 ∧ x = n ++ d) := by
  rw [h.each] at hx
  have h1 := (ded_mem hx).1
  exact ⟨h.xck h1, (cands_mem h1).imp id joins_mem.1⟩
theorem Ok.len {s : Sr} {n : aV} (h : Ok s n) : (eachS s n).length ≤ s.doms.length + 1 := by
  rw [h.each]
  have h1 := ded_len [] (hZ s n)
  have h2 := cands_len s n
  omega
/-! Letters. -/
theorem nameCk_fold {n : aV} (h : bB n = 0) : bB (a6 n) = 0 := by rw [foldN_eq h]; exact nameCk_low h
theorem Ok.fold {s : Sr} {n : aV} (h : Ok s n) : Ok s (a6 n) := ⟨h.s0, nameCk_fold h.n0⟩
end Go.Proofs.YtnpdgmoeoidppaaGreat

/- Lists of entries: where each lies; chunks of chunks that are read. -/
namespace Go.Proofs.YtnpdgmoeoidppaaGreat
open Go.RowKit Go.Shelf
set_option linter.unusedVariables false
set_option linter.unusedSimpArgs false

/-- Chunks that are read, each of them; they may share blocks. -/
def Ch.rall (L : List Ch) : Ch := ⟨fun b => ∃ c ∈ L, c.ok b, fun w => ∀ c ∈ L, c.P w, fun w w' h hk c hc => c.st w w' (h c hc) fun b hb => hk b ⟨c, hc, hb⟩⟩
theorem rd_all {L : List Ch} {c : Ch} {w : World} (h : (Ch.rall L).P w ∧ ∀ b, (Ch.rall L).ok b → b < w.heap.size) (hc : c ∈ L) : c.P w ∧ ∀ b, c.ok b → b < w.heap.size := ⟨h.1 c hc, fun b hb => h.2 b ⟨c, hc, hb⟩⟩
theorem rd_rall {L : List Ch} {w : World} (h : Rd L w) : (Ch.rall L).P w ∧ ∀ b, (Ch.rall L).ok b → b < w.heap.size := ⟨fun c hc => (h c hc).1, fun b ⟨c, hc, hb⟩ => (h c hc).2 b hb⟩
/-- An entry and where its slices lie. -/
structure Le where
  e : En
  A : Option Addr
  c : Nat
  B : Option Addr
  d : Nat
def en0 : En := ⟨[], 0, [], [], [], [], 0⟩
def le0 : Le := ⟨en0, none, 0, none, 0⟩
theorem sl_rs {A : Option Addr} {n c : Nat} {e : TypeId} {sz : Nat} {cs : List Value} {w : World} : ((Ch.sl A n c e sz cs).P w → (Ch.rs A n sz cs).P w) ∧ ∀ b, (Ch.rs A n sz cs).ok b → (Ch.sl A n c e sz cs).ok b := ⟨SlP.rs, fun b h => h.2⟩
end Go.Proofs.YtnpdgmoeoidppaaGreat

/- search: hY, checks, candidates -/
namespace Go.Proofs.YtnpdgmoeoidppaaGreat
open Go.RowKit Go.Shelf
set_option linter.unusedVariables false
set_option linter.unusedSimpArgs false

theorem eA : TyI Tryz.prog 40 false 1 8 (.int .i64 0) := TyI.mk' (by kernel_rfl) (fun _ => by kernel_rfl)

def eY (a b : aV) : Bool := decide (bB a = 0) && decide (bB b = 0) && decide (a6 a = a6 b)

theorem iX (a b : aV) (ha : a.length ≤ 1000000000) (hb : b.length ≤ 1000000000) : cO Tryz.prog 46 #[.string (ba a), .string (ba b)] (.bool (eY a b)) := by
 intro w0
 refine bd (ok0 := no) (S := []) (args := [.string (ba a), .string (ba b)]) 20 Tryz.func46 rfl rfl rfl (by simp) (by simp) ?_
 refine ao ?_
 refine ab ?_
 refine ap (ai rfl) rfl rfl ?_
 refine ae ?_
 refine aj ?_
 refine ao ?_
 refine ab ?_
 refine ap (ak rfl) rfl rfl ?_
 refine aS rfl ent_111 (eS _) rfl ?_
 refine ap (dB rfl rfl) rfl rfl ?_
 refine aC (t := 7) rfl (fun h1_2 => ?_) (fun h1_2 => ?_)
 refine ap (ak rfl) rfl rfl ?_
 refine az rfl rfl ?_
 refine ap (ak rfl) rfl rfl ?_
 refine az rfl rfl ?_
 refine aS rfl ent_111 (eS _) rfl ?_
 refine az rfl rfl ?_
 refine ap (dB rfl rfl) rfl rfl ?_
 refine aC (t := 11) rfl (fun h1_6 => ?_) (fun h1_6 => ?_)
 refine ap (aX rfl rfl) rfl rfl ?_
 refine ap (ak rfl) rfl rfl ?_
 refine az rfl rfl ?_
 refine ap (ak rfl) rfl rfl ?_
 refine az rfl rfl ?_
 refine aS rfl ent_112 (gt _ (by omega)) rfl ?_
 refine az rfl rfl ?_
 refine ap (ak rfl) rfl rfl ?_
 refine az rfl rfl ?_
 refine aS rfl ent_112 (gt _ (by omega)) rfl ?_
 refine az rfl rfl ?_
 refine ap (y_eqls rfl rfl) rfl rfl ?_
 refine ap (aX rfl rfl) rfl rfl ?_
 refine ap (ai rfl) rfl rfl ?_
 refine ae ?_
 refine aj ?_
 refine aF ?_
 refine aJ (ts := [4]) rfl rfl rfl (fun w hw => ?_)
 refine ⟨?_, hw.base⟩
 show Ending.returned (.bool _) = _
 congr 2
 simp [eY, *]
 refine ap (aX rfl rfl) rfl rfl ?_
 refine ap (ak rfl) rfl rfl ?_
 refine aO rfl rfl rfl rfl ?_
 refine aO rfl rfl rfl rfl ?_
 refine aO rfl rfl rfl rfl ?_
 refine aO rfl rfl rfl rfl ?_
 refine aO rfl rfl rfl rfl ?_
 refine ap (aW rfl rfl) rfl rfl ?_
 refine ap (ai rfl) rfl rfl ?_
 refine ae ?_
 refine aj ?_
 refine aF ?_
 refine aJ (ts := [4]) rfl rfl rfl (fun w hw => ?_)
 refine ⟨?_, hw.base⟩
 show Ending.returned (.bool _) = _
 congr 2
 simp [eY, *]
 refine ap (ak rfl) rfl rfl ?_
 refine aO rfl rfl rfl rfl ?_
 refine aO rfl rfl rfl rfl ?_
 refine aO rfl rfl rfl rfl ?_
 refine ap (aW rfl rfl) rfl rfl ?_
 refine ap (ak rfl) rfl rfl ?_
 refine aO rfl rfl rfl rfl ?_
 refine aO rfl rfl rfl rfl ?_
 refine aO rfl rfl rfl rfl ?_
 refine aO rfl rfl rfl rfl ?_
 refine aO rfl rfl rfl rfl ?_
 refine ap (aW rfl rfl) rfl rfl ?_
 refine ap (ai rfl) rfl rfl ?_
 refine ae ?_
 refine aj ?_
 refine aF ?_
 refine aJ (ts := [4]) rfl rfl rfl (fun w hw => ?_)
 refine ⟨?_, hw.base⟩
 show Ending.returned (.bool _) = _
 congr 2
 simp [eY, *]

end Go.Proofs.YtnpdgmoeoidppaaGreat

/- Names compared; what lies above a name: plain laws. -/
namespace Go.Proofs.YtnpdgmoeoidppaaGreat
open Go.RowKit Go.Shelf
set_option linter.unusedVariables false
set_option linter.unusedSimpArgs false

/-- Rows of labels compared. -/
def cmpLs : List aV → List aV → Int
  | [], [] => 0
  | [], _ :: _ => -1
  | _ :: _, [] => 1
  | x :: xs, y :: ys => if cmpS (d5 x) (d5 y) ≠ 0 then cmpS (d5 x) (d5 y) else cmpLs xs ys
/-- name.Compare. -/
def cmpN (a b : aV) : Int := cmpLs (ce a).reverse (ce b).reverse
/-! Steps of the loops. -/
end Go.Proofs.YtnpdgmoeoidppaaGreat

/- names compared, above, matched -/
namespace Go.Proofs.YtnpdgmoeoidppaaGreat
open Go.RowKit Go.Shelf
set_option linter.unusedVariables false
set_option linter.unusedSimpArgs false

theorem ent_173 : Enters Tryz.prog 173 := enters_of Tryz.func173 (by kernel_rfl) rfl
theorem ent_218 : Enters Tryz.prog 218 := enters_of Tryz.func218 (by kernel_rfl) rfl

theorem c_isNaN (n : Int) : cO Tryz.prog 218 #[.int .i64 n] (.bool false) := by
 intro w0
 refine bd (ok0 := no) (S := []) (args := [.int .i64 n]) 6 Tryz.func218 rfl rfl rfl (by simp) (by simp) ?_
 refine ao ?_
 refine ab ?_
 refine ap (ai rfl) rfl rfl ?_
 refine ae ?_
 refine aj ?_
 refine ao ?_
 refine ab ?_
 refine ap (ak rfl) rfl rfl ?_
 refine ap (ak rfl) rfl rfl ?_
 refine ap (cv rfl rfl) rfl rfl ?_
 refine ap (ai rfl) rfl rfl ?_
 refine ae ?_
 refine aj ?_
 refine aF ?_
 refine aJ (ts := [2]) rfl rfl rfl (fun w hw => ?_)
 exact ⟨by show Ending.returned (.bool _) = _; congr 2; simp, hw.base⟩

def dH (a b : Int) : Int := if a < b then -1 else if b < a then 1 else 0

theorem c_cmpI (a b : Int) : cO Tryz.prog 173 #[.int .i64 a, .int .i64 b] (.int .i64 (dH a b)) := by
 intro w0
 refine bd (ok0 := no) (S := []) (args := [.int .i64 a, .int .i64 b]) 20 Tryz.func173 rfl rfl rfl (by simp) (by simp) ?_
 refine ao ?_
 refine ab ?_
 refine ap (ai rfl) rfl rfl ?_
 refine ae ?_
 refine aj ?_
 refine ao ?_
 refine ab ?_
 refine ap (ak rfl) rfl rfl ?_
 refine aS rfl ent_218 (c_isNaN _) rfl ?_
 refine bV (t := 8) (.bool false) rfl (congrArg Value.bool rfl) ?_
 refine ap (ai rfl) rfl rfl ?_
 refine ae ?_
 refine aj ?_
 refine ao ?_
 refine ab ?_
 refine ap (ak rfl) rfl rfl ?_
 refine aS rfl ent_218 (c_isNaN _) rfl ?_
 refine bV (t := 10) (.bool false) rfl (congrArg Value.bool rfl) ?_
 refine ap (ai rfl) rfl rfl ?_
 refine ae ?_
 refine aj ?_
 refine ao ?_
 refine ao ?_
 refine ab ?_
 refine ap (ak rfl) rfl rfl ?_
 refine ae ?_
 refine aj ?_
 refine au rfl ?_
 refine aH ?_
 refine aj ?_
 refine ao ?_
 refine ao ?_
 refine ab ?_
 refine ap (ak rfl) rfl rfl ?_
 refine ae ?_
 refine aj ?_
 refine au rfl ?_
 refine aH ?_
 refine aj ?_
 refine ao ?_
 refine ao ?_
 refine ab ?_
 refine ap (ak rfl) rfl rfl ?_
 refine ap (ak rfl) rfl rfl ?_
 refine ap (bF rfl rfl) rfl rfl ?_
 refine aC (t := 16) rfl (fun h9_2 => ?_) (fun h9_2 => ?_)
 refine ae ?_
 refine aj ?_
 refine ay rfl ?_
 refine ao ?_
 refine ab ?_
 refine ap (ai rfl) rfl rfl ?_
 refine ae ?_
 refine aj ?_
 refine aF ?_
 refine aA ?_
 refine aJ (ts := [4]) rfl rfl rfl (fun w hw => ?_)
 refine ⟨?_, hw.base⟩
 show Ending.returned (.int _ _) = _
 congr 2
 focus first
   | (rw [dH, if_pos h9_2]
      done)
   | (rw [dH, if_neg h9_2, if_pos (by omega)]
      done)
   | (rw [dH, if_neg h9_2, if_neg (by omega)]
      done)
 refine ae ?_
 refine aj ?_
 refine au rfl ?_
 refine aH ?_
 refine aj ?_
 refine ao ?_
 refine ao ?_
 refine ab ?_
 refine ap (ak rfl) rfl rfl ?_
 refine ap (ak rfl) rfl rfl ?_
 refine ap (eI rfl rfl) rfl rfl ?_
 refine aC (t := 19) rfl (fun h11_2 => ?_) (fun h11_2 => ?_)
 refine ae ?_
 refine aj ?_
 refine ay rfl ?_
 refine ao ?_
 refine ab ?_
 refine ap (ai rfl) rfl rfl ?_
 refine ae ?_
 refine aj ?_
 refine aF ?_
 refine aA ?_
 refine aJ (ts := [4]) rfl rfl rfl (fun w hw => ?_)
 refine ⟨?_, hw.base⟩
 show Ending.returned (.int _ _) = _
 congr 2
 focus first
   | (rw [dH, if_pos h9_2]
      done)
   | (rw [dH, if_neg h9_2, if_pos (by omega)]
      done)
   | (rw [dH, if_neg h9_2, if_neg (by omega)]
      done)
 refine ae ?_
 refine aj ?_
 refine au rfl ?_
 refine aH ?_
 refine aj ?_
 refine ao ?_
 refine ab ?_
 refine ap (ai rfl) rfl rfl ?_
 refine ae ?_
 refine aj ?_
 refine aF ?_
 refine aJ (ts := [4]) rfl rfl rfl (fun w hw => ?_)
 refine ⟨?_, hw.base⟩
 show Ending.returned (.int _ _) = _
 congr 2
 focus first
   | (rw [dH, if_pos h9_2]
      done)
   | (rw [dH, if_neg h9_2, if_pos (by omega)]
      done)
   | (rw [dH, if_neg h9_2, if_neg (by omega)]
      done)

end Go.Proofs.YtnpdgmoeoidppaaGreat

/- search: each candidate once; the laws of candidates -/
namespace Go.Proofs.YtnpdgmoeoidppaaGreat
open Go.RowKit Go.Shelf
set_option linter.unusedVariables false
set_option linter.unusedSimpArgs false

theorem ent_177 : Enters Tryz.prog 177 := enters_of Tryz.func177 (by kernel_rfl) rfl
theorem ty_59 : TyI Tryz.prog 59 false 1 24 (.slice none 0 0) := TyI.mk' (by kernel_rfl) (fun _ => by kernel_rfl)

def namesE (s : Sr) (n : aV) : Int := if srCk s ≠ 0 then srCk s else bB n
end Go.Proofs.YtnpdgmoeoidppaaGreat

/- tables: looked at -/
namespace Go.Proofs.YtnpdgmoeoidppaaGreat
open Go.RowKit Go.Shelf
set_option linter.unusedVariables false
set_option linter.unusedSimpArgs false

def Rises (l : List Le) : Prop := ∀ i, 0 < i → i < l.length → 0 < cmpN (l.getD i le0).e.host (l.getD (i - 1) le0).e.host
instance (l : List Le) : Decidable (Rises l) := by
  have : Decidable (∀ i, i < l.length → (0 < i → 0 < cmpN (l.getD i le0).e.host (l.getD (i - 1) le0).e.host)) := inferInstance
  exact decidable_of_iff _ ⟨fun h i h0 hi => h i hi h0, fun h i hi h0 => h i h0 hi⟩
/-- What is known of a table's entries: their octets are so many, their numbers are such. -/
def TbOk (l : List Le) : Prop := ∀ x ∈ l, EnOk x.e ∧ lightE x.e = true
structure EnB (e : En) : Prop where
  wa : ∀ a ∈ e.addrs, 0 ≤ a.lo
  la : e.addrs.length ≤ 1000
  lp : e.ports.length ≤ 1000
  k : -9223372036854775808 ≤ e.kind ∧ e.kind ≤ 9223372036854775807
  h : e.host.length ≤ 1000
  al : e.alias.length ≤ 1000
theorem TbOk.at {l : List Le} (h : TbOk l) {k : Nat} (hk : k < l.length) : EnB (l.getD k le0).e := by
  obtain ⟨h1, h2⟩ := h _ (bX (d := le0) hk)
  have h3 := light_le h2
  exact ⟨h1.lo, by omega, by omega, h1.2.1, by omega, by omega⟩
theorem TbOk.hosts {l : List Le} (h : TbOk l) : ∀ x ∈ l, x.e.host.length ≤ 1000000000 := fun x hx => by
  have := light_le (h x hx).2; omega
end Go.Proofs.YtnpdgmoeoidppaaGreat

/- an index: made of a table, asked for names -/
namespace Go.Proofs.YtnpdgmoeoidppaaGreat
open Go.RowKit Go.Shelf
set_option linter.unusedVariables false
set_option linter.unusedSimpArgs false

abbrev cy : aV → Value := fun s => .string (ba s)
abbrev fx : Ad → Value := fun a => .agg (dN a).toArray
theorem EnB.eq {e f : En} (h : EnB e) (q : f = e) : EnB f := q ▸ h

end Go.Proofs.YtnpdgmoeoidppaaGreat

/- the laws of candidates -/
namespace Go.Proofs.YtnpdgmoeoidppaaGreat
open Go.RowKit Go.Shelf
set_option linter.unusedVariables false
set_option linter.unusedSimpArgs false

theorem Ok.pos {s : Sr} {n : aV} (h : Ok s n) : 1 ≤ (eachS s n).length := List.length_pos_of_mem h.mem
theorem Ok.nd {s : Sr} {n : aV} (h : Ok s n) (k : Int) (h1 : 0 ≤ k) (h2 : k ≤ 15) : Ok { s with ndots := k } n := by
  refine ⟨?_, h.n0⟩
  have h3 := h.s0
  unfold srCk at h3 ⊢
  split at h3
  · omega
  · rename_i q1
    split at h3
    · omega
    · rename_i q2
      split at h3
      · omega
      · rename_i q3
        rw [if_neg q1, if_neg q2, if_neg]
        rintro (q | q)
        · exact q3 (.inl q)
        · show False
          have q' : k < 0 ∨ 15 < k := q
          omega
theorem Ok.names {s : Sr} {n : aV} (h : Ok s n) : namesE s n = 0 := by rw [namesE, if_neg (by rw [h.s0]; decide)]; exact h.n0
theorem dc_names {w : World} : Dc Tryz.prog w 59 (fun p : List aV × Option Addr × Nat => [.slice p.2.1 p.1.length p.2.2]) (fun p => Ch.rd p.2.1 1 dw p.1 :: p.1.flatMap (fun _ => [])) (fun p => p.1.length ≤ 9223372036854775807 ∧ ∀ s ∈ p.1, s.length ≤ 9223372036854775807) := dc_slice Tryz.underlying59 (by kernel_rfl) (by decide) dq (dc_str Tryz.underlying26)

end Go.Proofs.YtnpdgmoeoidppaaGreat

/- an index asked; the reference of indexes; the first candidate -/
namespace Go.Proofs.YtnpdgmoeoidppaaGreat
open Go.RowKit Go.Shelf
set_option linter.unusedVariables false
set_option linter.unusedSimpArgs false

theorem ent_46 : Enters Tryz.prog 46 := enters_of Tryz.func46 (by kernel_rfl) rfl
theorem bh : TyI Tryz.prog 46 true 4 40 (.agg #[.string ⟨#[]⟩, .bool false, .int .u64 0, .int .u64 0]) := TyI.mk' (by kernel_rfl) (fun _ => by kernel_rfl)

/-- What is held: a host, its address. -/
structure Hd where
  host : aV
  ad : Ad
def d4 (h : Hd) : List Value := [.string (ba h.host), .bool h.ad.six, .int .u64 h.ad.hi, .int .u64 h.ad.lo]
theorem bI : Enc d4 4 := ⟨fun _ => rfl, fun _ => rfl⟩
def ct : Hd := ⟨[], ad0⟩

def hst (l : List Le) (i : Nat) : aV := (l.getD i le0).e.host
end Go.Proofs.YtnpdgmoeoidppaaGreat
