/- Slices: one's own (they may grow), and such as are read alone. -/
import Derived.Test.YtckfjfnkombelaaLdQN
import Derived.Deep.AppendSrc
namespace Go.Proofs.Ytckfjfnkombelaa
open Go.RowKit Go.Shelf
set_option linter.unusedVariables false
set_option linter.unusedSimpArgs false

def Ab : Option Addr → Nat
  | some a => a.block
  | none => 0
def Ao : Option Addr → Nat
  | some a => a.off
  | none => 0
/-- A row of a slice's own: n elements of sz cells each, room for c. -/
structure SlP (A : Option Addr) (n c : Nat) (e : TypeId) (sz : Nat) (cs : List Value) (w : World) : Prop where
  len : cs.length = n * sz
  one : ∀ u ∈ cs, u.oneCell' = true
  at_ : (A = none ∧ n = 0 ∧ c = 0) ∨ ∃ g cur fz, A = some ⟨g, 0, none⟩ ∧ w.heap[g]? = some (.cells cur e fz) ∧ n ≤ c ∧ c ≤ maxLen ∧ c * sz ≤ cur.size ∧ cur.toList.take (n * sz) = cs ∧ ∀ o, o < cur.size → ¬ (fz.1 ≤ o ∧ o < fz.2)
def Ch.sl (A : Option Addr) (n c : Nat) (e : TypeId) (sz : Nat) (cs : List Value) : Ch :=
  ⟨fun k => A.map (·.block) = some k, SlP A n c e sz cs, fun w w' h hk => ⟨h.len, h.one, h.at_.imp id fun ⟨g, cur, fz, hA, hg, r⟩ => ⟨g, cur, fz, hA, (hk g (by rw [hA]; rfl)).trans hg, r⟩⟩⟩
/-- A slice that is read alone. -/
structure RsP (A : Option Addr) (n sz : Nat) (cs : List Value) (w : World) : Prop where
  len : cs.length = n * sz
  one : ∀ u ∈ cs, u.oneCell' = true
  at_ : n = 0 ∨ ∃ b off, A = some ⟨b, off, none⟩ ∧ ∀ i, i < cs.length → w.cell? ⟨b, off + i, none⟩ = cs[i]?
def Ch.rs (A : Option Addr) (n sz : Nat) (cs : List Value) : Ch :=
  ⟨fun k => 0 < n ∧ A.map (·.block) = some k, RsP A n sz cs, fun w w' h hk => ⟨h.len, h.one, by
    rcases Nat.eq_zero_or_pos n with h0 | h0
    · exact .inl h0
    · refine h.at_.imp id fun ⟨b, off, hA, hc⟩ => ⟨b, off, hA, fun i hi => ?_⟩
      exact (World.cell?_of_block (hk b ⟨h0, by rw [hA]; rfl⟩)).trans (hc i hi)⟩⟩
theorem SlP.rs {A : Option Addr} {n c : Nat} {e : TypeId} {sz : Nat} {cs : List Value} {w : World} (h : SlP A n c e sz cs w) : RsP A n sz cs w :=
  ⟨h.len, h.one, by
    rcases h.at_ with ⟨rfl, rfl, rfl⟩ | ⟨g, cur, fz, rfl, hg, h1, h2, h3, h4, h5⟩
    · exact .inl rfl
    · refine .inr ⟨g, 0, rfl, fun i hi => ?_⟩
      rw [← h4] at hi ⊢
      have hi' : i < n * sz := by simp at hi; omega
      have hi2 : i < cur.size := by simp at hi; omega
      simp [World.cell?, hg, List.getElem?_take, hi']⟩
theorem SlP.nil (e : TypeId) (sz : Nat) (w : World) : SlP none 0 0 e sz [] w := ⟨by simp, (by simp), .inl ⟨rfl, rfl, rfl⟩⟩
theorem Hp.nilsl {ok0 : Nat → Prop} {w0 : World} {L S : List Ch} {w : World} (e : TypeId) (sz : Nat) (h : Hp ok0 w0 L S w) : Hp ok0 w0 (Ch.sl none 0 0 e sz [] :: L) S w :=
  h.fresh (Upd.refl _ _) _ (SlP.nil e sz w) (fun b hb => by cases hb) (fun b hb => by cases hb)
/-- A row known whole as a slice of one's own. -/
theorem SlP.new {w : World} {g : Nat} {cur : Array Value} {fz : Nat × Nat} {n c : Nat} {e : TypeId} {sz : Nat} {cs : List Value} (hg : w.heap[g]? = some (.cells cur e fz)) (hl : cs.length = n * sz) (h1 : ∀ u ∈ cs, u.oneCell' = true) (hn : n ≤ c) (hc : c ≤ maxLen) (hs : c * sz ≤ cur.size)
    (ht : cur.toList.take (n * sz) = cs) (hf : ∀ o, o < cur.size → ¬ (fz.1 ≤ o ∧ o < fz.2)) : SlP (some ⟨g, 0, none⟩) n c e sz cs w := ⟨hl, h1, .inr ⟨g, cur, fz, rfl, hg, hn, hc, hs, ht, hf⟩⟩

section
variable {x : Cx} {l : Fr} {L S : List Ch} {Q : Exit → Act → World → Prop} {ops : Array Oper} {rest : List Oper} {d : Nat} {ty : TypeId} {pos : String} {af : Array Edge} {gd : Option (Nat × Bool)}

theorem RsP.addr {A : Option Addr} {n sz : Nat} {cs : List Value} {w : World} (h : RsP A n sz cs w) (hn : 0 < n) : A = some ⟨Ab A, Ao A, none⟩ ∧ ∀ i, i < cs.length → w.cell? ⟨Ab A, Ao A + i, none⟩ = cs[i]? := by
  rcases h.at_ with h0 | ⟨b, off, rfl, hc⟩
  · omega
  · exact ⟨rfl, hc⟩
/-- The place of an element. -/
theorem y_ix {y z : Operand} {A : Option Addr} {n c k : Nat} {cs : List Value} {i : Int} {k0 : IntKind} {t e : TypeId} {agg : Bool} {sz bytes : Nat} {zv : Value} (h1 : x.P.underlying t = some (.slice e)) (he : TyI x.P e agg sz bytes zv) (hy : ev l y = some (.slice A n c)) (hz : ev l z = some (.int k0 i))
    (hr : ∀ w, Hp x.ok0 x.w0 L S w → RsP A n sz cs w) (hk : i = (k : Int)) (hlt : k < n) : Yv x l L S ⟨some d, .indexAddr t y z, ty, pos, af, gd⟩ (.pointer (some ⟨Ab A, Ao A + k * sz, none⟩)) := fun a w ha hw => by
  have hA := ((hr w hw).addr (by omega)).1
  rw [hA] at hy
  exact y_indexAddr h1 he hy hz hk hlt a w ha hw
theorem rs_L {A : Option Addr} {n c : Nat} {e : TypeId} {sz : Nat} {cs : List Value} (i : Nat) (h : L[i]? = some (Ch.sl A n c e sz cs)) : ∀ w, Hp x.ok0 x.w0 L S w → RsP A n sz cs w := fun w hw => SlP.rs (hw.own _ (List.mem_of_getElem? h))
theorem rs_S {A : Option Addr} {n sz : Nat} {cs : List Value} (i : Nat) (h : S[i]? = some (Ch.rs A n sz cs)) : ∀ w, Hp x.ok0 x.w0 L S w → RsP A n sz cs w := fun w hw => hw.sh _ (List.mem_of_getElem? h)
/-- What lies there. -/
theorem y_ld {t : TypeId} {sz' bytes : Nat} {z : Value} {y : Operand} {A : Option Addr} {n sz k f : Nat} {cs : List Value} {v : Value} (ht : TyI x.P t false sz' bytes z) (hy : ev l y = some (.pointer (some ⟨Ab A, Ao A + k * sz + f, none⟩))) (hr : ∀ w, Hp x.ok0 x.w0 L S w → RsP A n sz cs w) (hn : k < n) (hv : cs[k * sz + f]? = some v) :
    Yv x l L S ⟨some d, .load t y, ty, pos, af, gd⟩ v :=
  y_load ht hy (fun w hw => by
    have h := hr w hw
    have := (h.addr (by omega)).2 (k * sz + f) (List.getElem?_eq_some_iff.1 hv).1
    rw [← Nat.add_assoc] at this
    rw [this]; exact hv)
theorem y_lds {t : TypeId} {m bytes : Nat} {z : Value} {y : Operand} {A : Option Addr} {n sz k f : Nat} {cs vs : List Value} (ht : TyI x.P t true m bytes z) (hy : ev l y = some (.pointer (some ⟨Ab A, Ao A + k * sz + f, none⟩))) (hr : ∀ w, Hp x.ok0 x.w0 L S w → RsP A n sz cs w) (hn : k < n) (hv : (cs.drop (k * sz + f)).take m = vs) (hl : vs.length = m) :
    Yv x l L S ⟨some d, .load t y, ty, pos, af, gd⟩ (.agg vs.toArray) :=
  y_loads ht hy hl (fun w hw j u hj => by
    have h := hr w hw
    rw [← hv] at hj
    have hlt : j < m := by have := (List.getElem?_eq_some_iff.1 hj).1; simp at this; omega
    have hj2 : cs[k * sz + f + j]? = some u := by simpa [List.getElem?_take, hlt] using hj
    have := (h.addr (by omega)).2 (k * sz + f + j) (List.getElem?_eq_some_iff.1 hj2).1
    rw [show Ao A + k * sz + f + j = Ao A + (k * sz + f + j) by omega, this]; exact hj2)

theorem frozen_no {w : World} {g : Nat} {cur : Array Value} {e : TypeId} {fz : Nat × Nat} (hg : w.heap[g]? = some (.cells cur e fz)) (hf : ∀ o, o < cur.size → ¬ (fz.1 ≤ o ∧ o < fz.2)) {o : Nat} (ho : o < cur.size) : w.frozen? ⟨g, o, none⟩ = false := by
  obtain ⟨lo, hi⟩ := fz
  have := hf o ho
  simp [World.frozen?, hg]
  omega
theorem heap_setCells {g : Nat} {e : TypeId} {fz : Nat × Nat} : ∀ (vs : List Value) (o : Nat) (w : World) (cur : Array Value), w.heap[g]? = some (.cells cur e fz) → o + vs.length ≤ cur.size →
    ∃ cur', (w.setCells g o vs).heap[g]? = some (.cells cur' e fz) ∧ cur'.toList = cur.toList.take o ++ vs ++ cur.toList.drop (o + vs.length) ∧ Upd (fun k => k = g) w (w.setCells g o vs)
  | [], o, w, cur, hg, _ => ⟨cur, hg, by simp, Upd.refl _ _⟩
  | v :: r, o, w, cur, hg, hl => by
    have hlt : o < cur.size := by simp at hl; omega
    have h1 : (w.setCell ⟨g, o, none⟩ v).heap[g]? = some (.cells (cur.setIfInBounds o v) e fz) := by
      obtain ⟨hlt', hk⟩ := Array.getElem?_eq_some_iff.1 hg
      show (w.heap.modify g _)[g]? = _
      rw [Array.getElem?_eq_getElem (by rw [Array.size_modify]; exact hlt'), Array.getElem_modify_self, hk]
      rfl
    obtain ⟨cur', h2, h3, h4⟩ := heap_setCells r (o + 1) (w.setCell ⟨g, o, none⟩ v) (cur.setIfInBounds o v) h1 (by simp at hl ⊢; omega)
    refine ⟨cur', h2, ?_, (Upd.setCell w ⟨g, o, none⟩ v).trans h4 (fun _ _ h => h)⟩
    rw [h3]
    simp only [Array.toList_setIfInBounds, List.length_cons]
    rw [List.take_set, List.drop_set_of_lt (by omega)]
    have : List.take (o + 1) cur.toList = List.take o cur.toList ++ [cur[o]] := by
      rw [List.take_succ_eq_append_getElem (by simpa using hlt)]; rfl
    rw [this, List.set_append_right _ _ (by simp; omega)]
    simp
    rw [show o - min o cur.size = 0 by omega, List.set_cons_zero]
    simp [show o + 1 + r.length = o + (r.length + 1) by omega]
/-- A store into an element of one's own. -/
theorem o_stl {t e : TypeId} {agg : Bool} {m bytes : Nat} {z : Value} {y u : Operand} {A : Option Addr} {n c sz k f : Nat} {cs vs cs' : List Value} {v : Value} {L' : List Ch} {i : Nat} (ht : TyI x.P t agg m bytes z) (hy : ev l y = some (.pointer (some ⟨Ab A, Ao A + k * sz + f, none⟩))) (hu : ev l u = some v) (hvs : v.cells = vs.toArray)
    (hi : SetAt L i (Ch.sl A n c e sz cs) (Ch.sl A n c e sz cs') L') (hl : vs.length = m) (hn : k < n) (hf : f + m ≤ sz) (hcs : cs.take (k * sz + f) ++ vs ++ cs.drop (k * sz + f + m) = cs') (hone : vs.all Value.oneCell' = true)
    (kk : WL x l L' S ops rest Q) : WL x l L S ops (⟨none, .store t y u, ty, pos, af, none⟩ :: rest) Q :=
  wl_unit rfl rfl (fun _ => nofun) (fun a w ha hw => by
    have hP : SlP A n c e sz cs w := hw.own _ hi.mem
    rcases hP.at_ with ⟨_, h0, _⟩ | ⟨g, cur, fz, rfl, hg, h1, h2, h3, h4, h5⟩
    · omega
    · have hfit : k * sz + f + m ≤ n * sz := by
        have : (k + 1) * sz ≤ n * sz := Nat.mul_le_mul_right _ hn
        rw [Nat.add_mul, Nat.one_mul] at this; omega
      have hcs2 : n * sz ≤ cur.size := Nat.le_trans (Nat.mul_le_mul_right _ h1) h3
      have hst := run_storeCells_cells (P := x.P) g (k * sz + f) vs 0 w (fun j hj => by simp [World.cell?, hg]; omega) (fun j hj => frozen_no hg h5 (by omega)) (List.all_eq_true.1 hone)
      simp only [Nat.add_zero] at hst
      obtain ⟨cur', e1, e2, e3⟩ := heap_setCells vs (k * sz + f) w cur hg (by omega)
      refine ⟨_, ?_, hw.upd hi (e3.mono (fun k _ hk => by rw [hk]; rfl)) ?_ (fun b hb => .inl hb)⟩
      · have hs : v.cells.size = m := by rw [hvs]; simpa using hl
        have hy' : a.eval y = .pointer (some ⟨g, k * sz + f, none⟩) := by
          have := ha.ev hy
          simp only [Ab, Ao, Nat.zero_add] at this
          exact this
        simp [execOp, hy', ha.ev hu, Instr.storeAt, Instr.sureAddr, storeVar, ht.size, hs]
        rw [hvs, List.toList_toArray, hst]; rfl
      · have hlen : cs'.length = n * sz := by
          rw [← hcs]; simp [hP.len]; omega
        refine ⟨hlen, ?_, .inr ⟨g, cur', fz, rfl, e1, h1, h2, ?_, ?_, ?_⟩⟩
        · intro q hq
          rw [← hcs] at hq
          simp only [List.mem_append] at hq
          rcases hq with (hq | hq) | hq
          · exact hP.one q (List.mem_of_mem_take hq)
          · exact List.all_eq_true.1 hone q hq
          · exact hP.one q (List.mem_of_mem_drop hq)
        · have : cur'.size = cur.size := by
            have := congrArg List.length e2
            simp at this; omega
          omega
        · rw [e2, ← hcs, ← h4]
          rw [List.take_append, List.take_append]
          simp only [List.length_take, List.length_append, Array.length_toList, List.take_take, List.drop_take]
          rw [show min (k * sz + f) cur.size = k * sz + f by omega, show min (n * sz) (k * sz + f) = k * sz + f by omega, show min (k * sz + f) (n * sz) = k * sz + f by omega, List.take_of_length_le (l := vs) (by omega), List.take_drop]
          rw [show k * sz + f + vs.length + (n * sz - (k * sz + f + vs.length)) = n * sz by omega, hl, List.drop_take]
        · intro o ho
          have : cur'.size = cur.size := by
            have := congrArg List.length e2
            simp at this; omega
          exact h5 o (by omega)) kk
end
end Go.Proofs.Ytckfjfnkombelaa
