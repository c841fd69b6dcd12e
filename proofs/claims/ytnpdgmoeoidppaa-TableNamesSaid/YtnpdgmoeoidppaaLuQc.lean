import Derived.Test.YtnpdgmoeoidppaaLsQc
import Derived.Shelf.SlSortCmp.NoneTotal
import Derived.Maps.RangeRun
/- A slice cut in place: what is behind the cut moved up, the rest cleared. -/
namespace Go.Proofs.Ytnpdgmoeoidppaa
open Go.RowKit Go.Shelf
set_option linter.unusedVariables false
set_option linter.unusedSimpArgs false

theorem cut_lists {cur F : List Value} {a b n : Nat} (hb : a + F.length = b) (h1 : b ≤ n) (h2 : n ≤ cur.length) : (cur.take a ++ F ++ cur.drop b).take n = (cur.take n).take a ++ F ++ (cur.take n).drop b := by
  rw [List.take_append, List.take_of_length_le (l := cur.take a ++ F) (by rw [List.length_append, List.length_take]; omega), List.take_take, Nat.min_eq_left (by omega)]
  congr 1
  rw [List.length_append, List.length_take, Nat.min_eq_left (by omega), hb, List.drop_take]
section
variable {x : Cx} {l : Fr} {L S : List Ch} {Q : Exit → Act → World → Prop} {ops : Array Oper} {rest : List Oper} {d : Nat} {ty : TypeId} {pos : String} {af : Array Edge} {gd : Option (Nat × Bool)}
theorem y_slice3 {y i1 i2 i3 : Operand} {A : Option Addr} {n c m k q sz bytes : Nat} {a1 a2 a3 : Int} {k1 k2 k3 : IntKind} {t e : TypeId} {agg : Bool} {z : Value} (h0 : x.P.underlying t = some (.slice e)) (he : TyI x.P e agg sz bytes z) (hy : ev l y = some (.slice A n c)) (hi1 : ev l i1 = some (.int k1 a1)) (hi2 : ev l i2 = some (.int k2 a2)) (hi3 : ev l i3 = some (.int k3 a3)) (e1 : a1 = (m : Int)) (e2 : a2 = (k : Int)) (e3 : a3 = (q : Int)) (b1 : m ≤ k) (b2 : k ≤ q) (hq : ∀ w, Hp x.ok0 x.w0 L S w → q ≤ c) :
    Yv x l L S ⟨some d, .slice t y (some i1) (some i2) (some i3), ty, pos, af, gd⟩ (.slice (if q = m then A else A.map (·.add (m * sz))) (k - m) (q - m)) := fun a w ha hw => by
  have h1 : x.P.underlying t = some (.slice (x.P.elem t)) := by rw [eZ h0]; exact h0
  have h2 := eZ h0
  subst e1 e2 e3
  have hc := hq w hw
  have e1 := run_slice_lhm (P := x.P) w t A n c h1 k1 k2 k3 (m : Int) (k : Int) (q : Int) (by omega) (by omega) (by omega) (by omega)
  simp [execOp, ha.ev hy, ha.ev hi1, ha.ev hi2, ha.ev hi3, run_sliceAt_slice (P := x.P) w t _ _ _ _ h1, e1, sliced, Result.andThen, h2, he.size w]
/-- What is behind a place is moved up, in place: the row is as long as it was. -/
theorem o_cut {α : Type} {enc : α → List Value} {y u : Operand} {t tx e : TypeId} {agg : Bool} {sz bytes c m j i : Nat} {z : Value} {A : Option Addr} {xs : List α} {L' : List Ch} (hE : Enc enc sz) (ht : x.P.underlying t = some (.slice e)) (htx : x.P.underlying tx = some (.slice e)) (he : TyI x.P e agg sz bytes z) (hz : Nat.beq z.cells.size sz = true)
    (hy : ev l y = some (.slice A (xs.take m).length c)) (hu : ev l u = some (.slice (sA A j c sz) (xs.drop j).length (c - j))) (hm : m ≤ j) (hj : j ≤ xs.length) (hi : SetAt L i (Ch.ls A c e sz enc xs) (Ch.ls A c e sz enc (xs.take m ++ xs.drop j ++ xs.drop (xs.length - (j - m)))) L') (hN : Nat.blt d x.N = true)
    (k : WL x ((d, .slice A (xs.length - (j - m)) c) :: l) L' S ops rest Q) : WL x l L S ops (⟨some d, .call { callee := .builtin .append, args := #[y, u], argTypes := #[t, tx] }, ty, pos, af, none⟩ :: rest) Q :=
  wl_val rfl rfl (fun _ => nofun) hN
    (fun a w ha hw => by
      have hP : SlP A xs.length c e sz (fl enc xs) w := hw.own _ hi.mem
      obtain ⟨i0, hi1, hi2, hi3, hi4⟩ := he.inf
      subst hi3
      have hs : Src x.P i0.size tx (.slice (sA A j c i0.size) (xs.drop j).length (c - j)) (xs.drop j).length (fl enc (xs.drop j)) w := RsP.src htx (rsP_drop hE hP.rs (by rcases hP.at_ with ⟨_, h2, h3⟩ | ⟨g, cur, fz, _, _, h2, _⟩ <;> omega) hj)
      have hln : (xs.take m).length + (xs.drop j).length = xs.length - (j - m) := by simp; omega
      have hl9 : (xs.take m ++ xs.drop j ++ xs.drop (xs.length - (j - m))).length = xs.length := by simp; omega
      rcases hP.at_ with ⟨rfl, h0, rfl⟩ | ⟨g, cur, fz, rfl, hg, h1, h2, h3, h4, h5⟩
      · have hx : xs = [] := List.length_eq_zero_iff.1 h0
        subst hx
        have hj0 : j = 0 := by simpa using hj
        have hm0 : m = 0 := by omega
        subst hj0 hm0
        have hcl := hs.cells
        have hsl := hs.len
        refine ⟨w, ?_, hw.upd hi (Upd.refl _ _) (by exact hP) (fun b hb => .inl hb)⟩
        simp only [execOp, resolve, invoke, builtin]
        simp only [List.drop_nil, List.length_nil] at hcl hsl
        have hfl : fl enc ([] : List α) = [] := rfl
        rw [hfl] at hcl
        have : (Builtin.append_ #[t, tx] ty #[.slice none 0 0, .slice (sA none 0 0 i0.size) 0 0]).run x.P w = .ok (.slice none 0 0) w := by
          simp [Builtin.append_, run_underlying ht, run_underlying htx, sizeOf, typeInfo, hi1, hsl, hcl]
        simp [ha.ev hy, ha.ev hu, this]
      · have hnl := hs.newsLen
        have hle : (xs.take m).length * i0.size + (xs.drop j).length * i0.size ≤ cur.size := by
          have : xs.length * i0.size ≤ c * i0.size := Nat.mul_le_mul_right _ h1
          have h9 : ((xs.take m).length + (xs.drop j).length) * i0.size ≤ xs.length * i0.size := Nat.mul_le_mul_right _ (by omega)
          rw [Nat.add_mul] at h9; omega
        have hq2 : ∀ q, q < (fl enc (xs.drop j)).length → 0 + (xs.take m).length * i0.size + q < cur.size := fun q hq => by rw [hnl] at hq; omega
        have hr := run_append_room_src (P := x.P) w t tx ty e i0 ht hi1 g 0 (xs.take m).length c _ (xs.drop j).length _ hs (by omega) (fun q hq => by
          have := hq2 q hq
          generalize 0 + (xs.take m).length * i0.size + q = o at this ⊢
          simp [World.cell?, hg, this]) (fun q hq => gm hg h5 (hq2 q hq))
        simp only [Nat.zero_add] at hr
        obtain ⟨cur', e1, e2, e3⟩ := dK (fl enc (xs.drop j)) ((xs.take m).length * i0.size) w cur hg (by omega)
        have hsz : cur'.size = cur.size := by
          have h9 := congrArg List.length e2
          have h8 : (fl enc (xs.drop j)).length + (xs.take m).length * i0.size ≤ cur.size := by rw [hnl]; omega
          generalize (fl enc (xs.drop j)) = F at h9 h8
          generalize (xs.take m).length * i0.size = o at h9 h8
          simp only [Array.length_toList, List.length_append, List.length_take, List.length_drop] at h9
          omega
        refine ⟨_, ?_, hw.upd hi (e3.mono (fun q _ hq => by rw [hq]; rfl)) ?_ (fun b hb => .inl hb)⟩
        · simp only [execOp, resolve, invoke, builtin]
          rw [hln] at hr
          have hye := ha.ev hy
          have hue := ha.ev hu
          generalize (xs.take m).length = n1 at hye hr ⊢
          generalize (xs.drop j).length = n2 at hue hr ⊢
          simp [hye, hue, hr]
        · show SlP _ (xs.take m ++ xs.drop j ++ xs.drop (xs.length - (j - m))).length c e i0.size (fl enc (xs.take m ++ xs.drop j ++ xs.drop (xs.length - (j - m)))) _
          rw [hl9]
          refine ⟨by rw [dD hE.len, hl9], fun v hv => hE.ones _ v hv, .inr ⟨g, cur', fz, rfl, e1, h1, h2, by omega, ?_, fun o ho => h5 o (by omega)⟩⟩
          have hml : (xs.take m).length = m := by rw [List.length_take]; omega
          have hdl : (fl enc (xs.drop j)).length = (xs.length - j) * i0.size := by rw [hnl, List.length_drop]
          have hcl : xs.length * i0.size ≤ cur.toList.length := by rw [Array.length_toList]; exact Nat.le_trans (Nat.mul_le_mul_right _ h1) h3
          have q2 : m * i0.size + (xs.length - j) * i0.size = (xs.length - (j - m)) * i0.size := by rw [← Nat.add_mul]; congr 1; omega
          have q3 : (xs.length - (j - m)) * i0.size ≤ xs.length * i0.size := Nat.mul_le_mul_right _ (by omega)
          rw [e2, hml, hdl, q2, cut_lists (by rw [hdl, q2]) q3 hcl, ← gg, ← gg, hG hE, fl_drop hE xs (xs.length - (j - m)), ← h4])
    k
theorem y_slice2 {y i1 i2 : Operand} {A : Option Addr} {n c m k sz bytes : Nat} {a1 a2 : Int} {k1 k2 : IntKind} {t e : TypeId} {agg : Bool} {z : Value} (h0 : x.P.underlying t = some (.slice e)) (he : TyI x.P e agg sz bytes z) (hy : ev l y = some (.slice A n c)) (hi1 : ev l i1 = some (.int k1 a1)) (hi2 : ev l i2 = some (.int k2 a2)) (e1 : a1 = (m : Int)) (e2 : a2 = (k : Int)) (b1 : m ≤ k) (hq : ∀ w, Hp x.ok0 x.w0 L S w → k ≤ c) :
    Yv x l L S ⟨some d, .slice t y (some i1) (some i2) none, ty, pos, af, gd⟩ (.slice (sA A m c sz) (k - m) (c - m)) := fun a w ha hw => by
  have h1 : x.P.underlying t = some (.slice (x.P.elem t)) := by rw [eZ h0]; exact h0
  have h2 := eZ h0
  subst e1 e2
  have hc := hq w hw
  have e1 := run_slice_lh (P := x.P) w t A n c h1 k1 k2 (m : Int) (k : Int) (by omega) (by omega) (by omega)
  simp [execOp, ha.ev hy, ha.ev hi1, ha.ev hi2, run_sliceAt_slice (P := x.P) w t _ _ _ _ h1, e1, sA, sliced, Result.andThen, h2, he.size w]
theorem zero_cells_mem {zs : Array Value} {n : Nat} {v : Value} (h : v ∈ (Builtin.zeroCells zs n).toList) : v ∈ zs.toList := by
  simp only [Builtin.zeroCells, Array.toList_map, List.mem_map, Array.mem_toList_iff, Array.mem_range] at h
  obtain ⟨i, hi, rfl⟩ := h
  have h0 : 0 < zs.size := by
    rcases Nat.eq_zero_or_pos zs.size with q | q
    · rw [q] at hi; omega
    · exact q
  have h1 : i % zs.size < zs.size := Nat.mod_lt _ h0
  rw [getElem!_pos zs (i % zs.size) h1]
  simp
/-- The rest of a row is cleared, and forgotten. -/
theorem o_clr {α : Type} {enc : α → List Value} {y : Operand} {t e : TypeId} {agg : Bool} {sz bytes c m n i : Nat} {z : Value} {A : Option Addr} {xs : List α} {L' : List Ch} (hE : Enc enc sz) (ht : x.P.underlying t = some (.slice e)) (he : TyI x.P e agg sz bytes z) (hz : Nat.beq z.cells.size sz = true) (hz1 : z.cells.toList.all (·.oneCell') = true)
    (hy : ev l y = some (.slice (sA A m c sz) n (c - m))) (hm : m ≤ xs.length) (hn : n = xs.length - m) (hi : SetAt L i (Ch.ls A c e sz enc xs) (Ch.ls A c e sz enc (xs.take m)) L')
    (k : WL x l L' S ops rest Q) : WL x l L S ops (⟨none, .call { callee := .builtin .clear, args := #[y], argTypes := #[t] }, ty, pos, af, none⟩ :: rest) Q :=
  f0 rfl (fun _ => nofun) fun a w ha hw => by
    have main : ∃ w', (execOp a.eval ⟨none, .call { callee := .builtin .clear, args := #[y], argTypes := #[t] }, ty, pos, af, none⟩).run x.P w = .ok (.value (.tuple #[])) w' ∧ Hp x.ok0 x.w0 L' S w' := by
      subst hn
      have hP : SlP A xs.length c e sz (fl enc xs) w := hw.own _ hi.mem
      have hl9 : (xs.take m).length = m := by simp; omega
      by_cases hnz : xs.length - m = 0
      · have hml : m = xs.length := by omega
        refine ⟨w, ?_, hw.upd hi (Upd.refl _ _) (by rw [hml, List.take_length]; exact hP) (fun b hb => .inl hb)⟩
        rw [hnz] at hy
        have : (Builtin.clear_ #[t] ty #[.slice (sA A m c sz) 0 (c - m)]).run x.P w = .ok (.tuple #[]) w := by
          cases sA A m c sz <;> simp [Builtin.clear_, run_underlying ht]
        simp only [execOp, resolve, invoke, builtin]
        simp [ha.ev hy, this]
      · rcases hP.at_ with ⟨rfl, h0, rfl⟩ | ⟨g, cur, fz, rfl, hg, h1, h2, h3, h4, h5⟩
        · omega
        · have hcm : ¬ c = m := by omega
          have hsA : sA (some ⟨g, 0, none⟩) m c sz = some ⟨g, m * sz, none⟩ := by
            rw [sA, if_neg hcm, Option.map_some, Addr.add_lit, Nat.zero_add]
          have hzs : z.cells.size = sz := Nat.eq_of_beq_eq_true hz
          have hlen : (Builtin.zeroCells z.cells (xs.length - m)).toList.length = (xs.length - m) * sz := by rw [Array.length_toList, size_zeroCells, hzs]
          have hle : m * sz + (xs.length - m) * sz ≤ cur.size := by
            rw [← Nat.add_mul]
            exact Nat.le_trans (Nat.mul_le_mul_right _ (by omega)) h3
          have hst := run_storeCells_cells (P := x.P) g (m * sz) (Builtin.zeroCells z.cells (xs.length - m)).toList 0 w (fun j hj => by simp [World.cell?, hg]; omega) (fun j hj => gm hg h5 (by omega)) (fun v hv => List.all_eq_true.1 hz1 v (zero_cells_mem hv))
          simp only [Nat.add_zero] at hst
          obtain ⟨q, hq⟩ : ∃ q, xs.length - m = q + 1 := ⟨xs.length - m - 1, by omega⟩
          have hr : (Builtin.clear_ #[t] ty #[.slice (some ⟨g, m * sz, none⟩) (xs.length - m) (c - m)]).run x.P w = .ok (.tuple #[]) (w.setCells g (m * sz) (Builtin.zeroCells z.cells (xs.length - m)).toList) := by
            rw [hq] at hst ⊢
            simp [Builtin.clear_, run_underlying ht, he.zero, hst]
          obtain ⟨cur', e1, e2, e3⟩ := dK (Builtin.zeroCells z.cells (xs.length - m)).toList (m * sz) w cur hg (by omega)
          have hsz : cur'.size = cur.size := by
            have := congrArg List.length e2
            simp only [Array.length_toList, List.length_append, List.length_take, List.length_drop] at this hlen ⊢
            omega
          rw [hsA] at hy
          refine ⟨_, ?_, hw.upd hi (e3.mono (fun q _ hq => by rw [hq]; rfl)) ?_ (fun b hb => .inl hb)⟩
          · simp only [execOp, resolve, invoke, builtin]
            simp [ha.ev hy, hr]
          · show SlP _ (xs.take m).length c e sz (fl enc (xs.take m)) _
            rw [hl9]
            refine ⟨by rw [dD hE.len, hl9], fun v hv => hE.ones _ v hv, .inr ⟨g, cur', fz, rfl, e1, by omega, h2, by omega, ?_, fun o ho => h5 o (by omega)⟩⟩
            have q1 : m * sz ≤ xs.length * sz := Nat.mul_le_mul_right _ hm
            rw [e2, hG hE, ← h4, List.append_assoc, List.take_append_of_le_length (by simp; omega), List.take_take, List.take_take, Nat.min_self, Nat.min_eq_left q1]
    obtain ⟨w', e1, e2⟩ := main
    rw [e1]
    exact k _ _ (ha.skip _) e2
end
end Go.Proofs.Ytnpdgmoeoidppaa

/- Slices sorted by the library's sort, whatever is compared. -/
namespace Go.Proofs.Ytnpdgmoeoidppaa
open Go.RowKit Go.Shelf
set_option linter.unusedVariables false
set_option linter.unusedSimpArgs false
set_option linter.unusedSectionVars false

theorem grow_of_upd {w w' : World} (h : Upd no w w') : ∃ q os', w' = Go.Sort.grow (w.drewN q) os' := by
  refine ⟨w'.drawn - w.drawn, w'.heap.extract w.heap.size w'.heap.size, ?_⟩
  have h1 : w'.heap = w.heap ++ w'.heap.extract w.heap.size w'.heap.size := by
    apply Array.ext_getElem?
    intro k
    rw [Array.getElem?_append]
    split
    · rename_i hk; exact h.block k hk id
    · rename_i hk
      rw [Array.getElem?_extract]
      split
      · congr 1; omega
      · rename_i h2
        exact Array.getElem?_eq_none (by omega)
  have h2 := h.drawn
  have h3 := h.os; have h4 := h.tape; have h5 := h.output
  cases w with
  | mk hp tp dr os ou =>
    cases w' with
    | mk hp' tp' dr' os' ou' =>
      simp only at h1 h2 h3 h4 h5
      subst h3 h4 h5
      show _ = ({ heap := hp ++ _, tape := _, drawn := _, os := _, output := _ } : World)
      congr 1
      · show dr' = dr + (dr' - dr); omega
theorem flatK_fl {α : Type} [Inhabited α] {enc : α → List Value} {k : Nat} (hE : Enc enc k) (xs : List α) : Go.Sort.flatK enc k xs.toArray = (fl enc xs).toArray := by
  have hl := dD hE.len xs
  apply Array.ext
  · simp [hl]
  · intro t h1 h2
    have h1' : t < xs.length * k := by simpa using h1
    have k0 : 0 < k := by
      rcases Nat.eq_zero_or_pos k with h | h
      · subst h; simp at h1'
      · exact h
    have hq : t / k < xs.length := by rw [Nat.div_lt_iff_lt_mul k0]; exact h1'
    have hr : t % k < k := Nat.mod_lt _ k0
    have h3 := fl_get (enc := enc) hE.len xs default hq hr
    rw [Nat.mul_comm, Nat.div_add_mod] at h3
    have h4 := Go.Sort.get_flatK enc k xs.toArray t (by simpa using h1')
    rw [getElem!_pos _ t h1] at h4
    rw [h4]
    have e1 : xs.toArray[t / k]! = xs.getD (t / k) default := by
      rw [List.getD_eq_getElem?_getD, List.getElem?_eq_getElem hq, getElem!_pos _ (t / k) (by simpa using hq)]; rfl
    have e2 : (fl enc xs).toArray[t]? = some ((fl enc xs).toArray[t]) := Array.getElem?_eq_getElem h2
    rw [List.getElem?_toArray, h3] at e2
    rw [e1]
    have e3 : t % k < (enc (xs.getD (t / k) default)).length := by rw [hE.len]; exact hr
    rw [List.getElem?_eq_getElem e3] at e2
    rw [getElem!_pos _ (t % k) e3]
    exact Option.some.inj e2
/-- What a row of cells holds behind a sort. -/
theorem slp_sorted {α : Type} [Inhabited α] {enc : α → List Value} {k : Nat} (hE : Enc enc k) {g c : Nat} {T : TypeId} {xs ys : List α} {w : World} (hc : SlP (some ⟨g, 0, none⟩) xs.length c T k (fl enc xs) w) (hl : ys.length = xs.length) (n : Nat) (os : Array Obj) :
    Go.Sort.HoldsK enc k w g 0 xs.toArray ∧ SlP (some ⟨g, 0, none⟩) xs.length c T k (fl enc ys) (sortWorldK enc k w g 0 n ys.toArray os) ∧ Upd (fun b => b = g) w (sortWorldK enc k w g 0 n ys.toArray os) ∧ g < w.heap.size := by
  rcases hc.at_ with ⟨h, _⟩ | ⟨g', cur, fz, hA, hg, h1, h2, h3, h4, h5⟩
  · cases h
  cases hA
  have hlt : g < w.heap.size := (Array.getElem?_eq_some_iff.1 hg).1
  have hcl : xs.length * k ≤ cur.size := Nat.le_trans (Nat.mul_le_mul_right k h1) h3
  have hH : Go.Sort.HoldsK enc k w g 0 xs.toArray := by
    show Go.Sort.Holds id w g 0 (Go.Sort.flatK enc k xs.toArray)
    rw [flatK_fl hE]
    intro j hj
    have hj' : j < (fl enc xs).length := by simpa using hj
    have hj2 : j < xs.length * k := by rw [← hc.len]; exact hj'
    refine ⟨?_, ?_⟩
    · simp only [World.cell?, hg, Nat.zero_add]
      have e : cur.toList[j]? = (fl enc xs)[j]? := by rw [← h4, List.getElem?_take, if_pos hj2]
      rw [List.getElem?_eq_getElem hj'] at e
      rw [getElem!_pos _ j hj]
      simpa using e
    · have := h5 j (by omega)
      simp [World.frozen?, hg]
      omega
  have hP : (sortWorldK enc k w g 0 n ys.toArray os).heap[g]? = some (.cells (Go.Sort.putCells id 0 (Go.Sort.flatK enc k ys.toArray) cur) T fz) := by
    show ((w.heap.modify g _) ++ os)[g]? = _
    rw [Array.getElem?_append_left (by simpa using hlt), Array.getElem?_modify, if_pos rfl, hg]; rfl
  refine ⟨hH, ⟨by rw [dD hE.len, hl], fun u hu => hE.ones ys u hu, .inr ⟨g, _, fz, rfl, hP, h1, h2, by simpa [Go.Sort.putCells] using h3, ?_, fun o ho => h5 o (by simpa [Go.Sort.putCells] using ho)⟩⟩, ⟨rfl, rfl, rfl, ?_, fun j hj hn => ?_, Nat.le_add_right _ _⟩, hlt⟩
  · rw [flatK_fl hE]
    apply List.ext_getElem?
    intro j
    rw [List.getElem?_take]
    have hfl : (fl enc ys).length = xs.length * k := by rw [dD hE.len, hl]
    split
    · rename_i hj
      rw [Array.getElem?_toList]
      simp only [Go.Sort.putCells, Array.getElem?_mapIdx]
      rw [Array.getElem?_eq_getElem (by omega : j < cur.size)]
      simp only [Option.map_some, Nat.zero_add, Nat.zero_le, true_and, Nat.sub_zero]
      rw [if_pos (by simpa [hfl] using hj)]
      rw [getElem!_pos _ j (by simpa [hfl] using hj), List.getElem?_eq_getElem (by omega)]
      simp
    · rename_i hj
      rw [List.getElem?_eq_none (by omega)]
  · show w.heap.size ≤ ((w.heap.modify g _) ++ os).size
    simp
  · show ((w.heap.modify g _) ++ os)[j]? = _
    rw [Array.getElem?_append_left (by simpa using hj), Array.getElem?_modify, if_neg (fun e => hn e.symm)]
section
variable {β : Type} {p : β → Prop} [Inhabited {x : β // p x}]
theorem lift_all {xs : List β} (h : ∀ x ∈ xs, p x) : ∃ ys : List {x // p x}, ys.map (·.1) = xs := ⟨xs.attachWith p h, by simp⟩
theorem fl_lift {enc : β → List Value} (ys : List {x // p x}) : fl (fun x : {x // p x} => enc x.1) ys = fl enc (ys.map (·.1)) := by simp [fl, Function.comp_def]
/-- slices.SortFunc. -/
theorem uc_sort {P : Program} {ρ : Ren} (M : SlLaysF0.n6 P ρ) (k : Nat) (aE : ∀ w, (isAgg (ρ.t 24)).run P w = .ok true w) (zE : ∀ w, (Go.sizeOf (ρ.t 24)).run P w = .ok k w) {enc : β → List Value} (hE : Enc enc k) (cf : β → β → Int) (hO : Go.Sort.SWO (α := {x : β // p x}) (ltOf fun x y : {x : β // p x} => cf x.1 y.1)) (g : Nat) (cb : Array Value)
    (eg : ∀ args w, (callFunc g args).run P w = .ok (.enter g args) w) (hcmp : ∀ x y : β, p x → p y → d4 P g (#[.agg (enc x).toArray, .agg (enc y).toArray] ++ cb) (.int .i64 (cf x y))) (T : TypeId) (A : Option Addr) (c : Nat) (xs : List β) (hp : ∀ x ∈ xs, p x) (hsz : xs.length < 4611686018427387904) :
    UC P (ρ.f 6) #[.slice A xs.length c, .func (.func g) #[] cb] [] (Ch.ls A c T k enc xs) (α := {ys : List β // ys.Perm xs ∧ ys.Pairwise fun a b => ¬ cf b a < 0}) (fun _ => .tuple #[]) (fun o => Ch.ls A c T k enc o.1) := by
  intro w hc hlt _ _
  rcases (show SlP A xs.length c T k (fl enc xs) w from hc).at_ with ⟨rfl, h0, _⟩ | ⟨g0, cur, fz, rfl, _⟩
  · have hx : xs = [] := List.length_eq_zero_iff.1 h0
    subst hx
    refine cw (AnyF.slices_SortFunc_none M none c _ w) fun e w' ⟨he, hw⟩ => ?_
    subst hw
    exact ⟨⟨[], .refl _, .nil⟩, he, Upd.refl _ _, hc, fun b hb => .inl hb⟩
  · obtain ⟨ys, rfl⟩ := lift_all hp
    have hE' : Enc (fun x : {x // p x} => enc x.1) k := ⟨fun a => hE.len a.1, fun a => hE.one a.1⟩
    have hc' : SlP (some ⟨g0, 0, none⟩) ys.length c T k (fl (fun x : {x // p x} => enc x.1) ys) w := by
      have h : SlP (some ⟨g0, 0, none⟩) (ys.map (·.1)).length c T k (fl enc (ys.map (·.1))) w := hc
      rw [List.length_map, ← fl_lift] at h; exact h
    have hl : ys.length = (ys.map (·.1)).length := (List.length_map _).symm
    have h9 := slp_sorted hE' hc' (ys := ys) rfl 0 #[]
    have hcall := AnyQ.slices_SortFunc M k aE zE (fun x : {x // p x} => enc x.1) hE'.len (fun x v hv => by
        have := hE'.ones [x] v (by simpa [fl] using hv); exact this) (fun x y => cf x.1 y.1) hO g cb g0 0 c ys.toArray w eg
      (fun m os dk _ x y => cw (hcmp x.1 y.1 x.2 y.2 _) fun e w' ⟨he, hu⟩ => ⟨he, grow_of_upd hu⟩) h9.1 h9.2.2.2 (by rw [← hl] at hsz; simpa using hsz)
    rw [List.size_toArray, hl] at hcall
    refine cw hcall fun e w' ⟨he, d', n, os, hperm, hsort, hw⟩ => ?_
    subst hw
    obtain ⟨ps, _, pp⟩ := hperm
    have hpl : d'.toList.Perm ys := by
      have e0 : (ys.map (·.1)).length = d'.size := by rw [ps]; simp
      have e1 : d'.extract 0 d'.size = d' := Array.extract_size ..
      have e2 : ys.toArray.extract 0 d'.size = ys.toArray := by rw [ps]; exact Array.extract_size ..
      rw [e0, e1, e2] at pp
      simpa using pp
    have h8 := slp_sorted hE' hc' (ys := d'.toList) (by simpa using ps) n os
    rw [Array.toArray_toList] at h8
    refine ⟨⟨d'.toList.map (·.1), hpl.map _, ?_⟩, he, h8.2.2.1.mono (fun b _ hb => by show Option.map _ _ = _; rw [hb]; rfl), ?_, fun b hb => .inl hb⟩
    · rw [List.pairwise_map, List.pairwise_iff_getElem]
      intro i j hi hj hij
      have j1 : d'.size = ys.length := by simpa using ps
      have j2 : j < d'.size := by simpa using hj
      have := hsort i j (Nat.zero_le _) hij (by rw [← hl]; omega)
      rw [ltOf, decide_eq_false_iff_not] at this
      have ei : d'[i]! = d'.toList[i] := by rw [getElem!_pos _ i (by simpa using hi)]; simp
      have ej : d'[j]! = d'.toList[j] := by rw [getElem!_pos _ j (by simpa using hj)]; simp
      rw [ei, ej] at this
      exact this
    · have h7 := h8.2.1
      rw [fl_lift] at h7
      have e3 : (d'.toList.map (·.1)).length = ys.length := by rw [List.length_map, hpl.length_eq]
      show SlP (some ⟨g0, 0, none⟩) (d'.toList.map (·.1)).length c T k (fl enc (d'.toList.map (·.1))) _
      rw [e3]; exact h7
end
end Go.Proofs.Ytnpdgmoeoidppaa

/- A map gone through; iterators whose order is open, or that turn what is theirs. -/
namespace Go.Proofs.Ytnpdgmoeoidppaa
open Go.RowKit Go.Shelf
set_option linter.unusedVariables false
set_option linter.unusedSimpArgs false

/-- What a map's block holds, of its pairs. -/
structure MpE {α β : Type} (encK : α → Value) (encV : β → Value) (m : List (α × β)) (es : Array MapEntry) (clk : Nat) : Prop where
  key : es.toList.map (·.key) = m.map (fun p => encK p.1)
  val : es.toList.map (·.val) = m.map (fun p => encV p.2)
  nd : (es.toList.map (·.born)).Nodup
  lt : ∀ e ∈ es.toList, e.born < clk
section
variable {x : Cx} {l : Fr} {L S : List Ch} {Q : Exit → Act → World → Prop} {ops : Array Oper} {rest : List Oper} {d : Nat} {ty : TypeId} {pos : String} {af : Array Edge} {gd : Option (Nat × Bool)}
end
section
variable {x : Cx} {l : Fr} {L S : List Ch} {Q : Exit → Act → World → Prop} {ops : Array Oper} {rest : List Oper} {d : Nat} {ty : TypeId} {pos : String} {af : Array Edge}
end
/-! What has been handed out, by places. -/
section
variable {α β : Type} {encK : α → Value} {encV : β → Value} {m : List (α × β)} {es : Array MapEntry} {clk : Nat}
theorem MpE.len (h : MpE encK encV m es clk) : es.toList.length = m.length := by have := congrArg List.length h.key; simpa using this
end
/-! Iterators of open order. -/
/-- .. yields what may be yielded, and at its end what is an end; D is its own. -/
def IterG (P : Program) (gf : FuncId) (lb : List Value) (Sx D D' : List Ch) {α : Type} (enc : α → List Value) (Adm Fin : List α → Prop) : Prop :=
  ∀ (lr : Nat) (σ : Type) (I Ix : List α → σ → Prop) (C : σ → Ch) (Sc : List Ch),
    (∀ pre x g, Adm (pre ++ [x]) → I pre g → Yd P lr (enc x).toArray Sc C g (I (pre ++ [x])) (Ix (pre ++ [x]))) →
    ∀ g, I [] g → UC P gf (.func (.yield lr) #[] #[] :: lb).toArray (Sx ++ Sc) (Ch.all (C g :: D))
      (fun o : {p : Value × σ // (∃ xs, Fin xs ∧ I xs p.2) ∨ ∃ pre, Adm pre ∧ Ix pre p.2} => o.1.1) (fun o => Ch.all (C o.1.2 :: D'))
theorem iterG_of_W {P : Program} {gf : FuncId} {fn : Func} {cd : Code} {lb : List Value} {Sx D D' : List Ch} {α : Type} {enc : α → List Value} {Adm Fin : List α → Prop} (N : Nat) (hf : P.funcs[gf]? = some fn) (hb : fn.body = some cd) (hn : fn.ntmps = N) (hN : Nat.ble (lb.length + 1) N = true)
    (h : ∀ (lr : Nat) (σ : Type) (I Ix : List α → σ → Prop) (C : σ → Ch) (Sc : List Ch), (∀ pre x g, Adm (pre ++ [x]) → I pre g → Yd P lr (enc x).toArray Sc C g (I (pre ++ [x])) (Ix (pre ++ [x]))) → ∀ g, I [] g → ∀ w,
      W ⟨P, none, N, [], (Ch.all (C g :: D)).ok, w⟩ (frm 0 (.func (.yield lr) #[] #[] :: lb)) (C g :: D) (Sx ++ Sc) cd (np (bodyPost P fn fun e w' => ∃ o : {p : Value × σ // (∃ xs, Fin xs ∧ I xs p.2) ∨ ∃ pre, Adm pre ∧ Ix pre p.2}, e = .returned o.1.1 ∧ Upd (Ch.all (C g :: D)).ok w w' ∧ (Ch.all (C o.1.2 :: D')).P w' ∧ ∀ b, (Ch.all (C o.1.2 :: D')).ok b → (Ch.all (C g :: D)).ok b ∨ (w.heap.size ≤ b ∧ b < w'.heap.size)))) :
    IterG P gf lb Sx D D' enc Adm Fin := fun lr σ I Ix C Sc hy g hg w hc hl hR hd =>
  calls_of_WL N hf hb hn hN (Hp.startAll hc hl hR hd) (h lr σ I Ix C Sc hy g hg w)
theorem c4 {σ α : Type} {I Ix : List α → σ → Prop} {Adm Fin : List α → Prop} {C : σ → Ch} {g : σ} {w w' : World} {S D D' : List Ch} (v : Value) {g' : σ} (h : (∃ xs, Fin xs ∧ I xs g') ∨ ∃ pre, Adm pre ∧ Ix pre g') (hw : Hp (Ch.all (C g :: D)).ok w (C g' :: D') S w') :
    ∃ o : {p : Value × σ // (∃ xs, Fin xs ∧ I xs p.2) ∨ ∃ pre, Adm pre ∧ Ix pre p.2}, Ending.returned v = .returned o.1.1 ∧ Upd (Ch.all (C g :: D)).ok w w' ∧ (Ch.all (C o.1.2 :: D')).P w' ∧ ∀ b, (Ch.all (C o.1.2 :: D')).ok b → (Ch.all (C g :: D)).ok b ∨ (w.heap.size ≤ b ∧ b < w'.heap.size) :=
  ⟨⟨(v, g'), h⟩, rfl, hw.toAll⟩
theorem all_ok {A B : List Ch} (b : Nat) : (Ch.all (Ch.all A :: B)).ok b ↔ (Ch.all (A ++ B)).ok b := by
  constructor
  · rintro ⟨c, hc, hb⟩
    rcases List.mem_cons.1 hc with rfl | hc
    · obtain ⟨d, hd, hdb⟩ := hb; exact ⟨d, List.mem_append_left _ hd, hdb⟩
    · exact ⟨c, List.mem_append_right _ hc, hb⟩
  · rintro ⟨c, hc, hb⟩
    rcases List.mem_append.1 hc with hc | hc
    · exact ⟨_, .head _, c, hc, hb⟩
    · exact ⟨c, .tail _ hc, hb⟩
theorem all_P {A B : List Ch} {w : World} : (Ch.all (Ch.all A :: B)).P w ↔ (Ch.all (A ++ B)).P w := by
  constructor
  · rintro ⟨h1, h2⟩
    obtain ⟨h3, h4⟩ := h1 _ (.head _)
    obtain ⟨h5, h6⟩ := List.pairwise_cons.1 h2
    refine ⟨fun c hc => (List.mem_append.1 hc).elim (h3 c) (fun q => h1 c (.tail _ q)), List.pairwise_append.2 ⟨h4, h6, fun a ha b hb k hk => h5 b hb k ⟨a, ha, hk⟩⟩⟩
  · rintro ⟨h1, h2⟩
    obtain ⟨h3, h4, h5⟩ := List.pairwise_append.1 h2
    refine ⟨fun c hc => ?_, List.pairwise_cons.2 ⟨fun b hb k ⟨a, ha, hk⟩ => h5 a ha b hb k hk, h4⟩⟩
    rcases List.mem_cons.1 hc with rfl | hc
    · exact ⟨fun c hc => h1 c (List.mem_append_left _ hc), h3⟩
    · exact h1 c (List.mem_append_right _ hc)
section
variable {x : Cx} {l : Fr} {L S : List Ch} {Q : Exit → Act → World → Prop}
theorem range_coreG {P : Program} {N : Nat} {ds : List Deferred} {a : Act} {W1 : World} {ok0 : Nat → Prop} {w0 : World} {gf : FuncId} {lb : List Value} {Sx Bk D D' : List Ch} {α : Type} {enc : α → List Value} {Adm Fin : List α → Prop} {lr : Nat} {r : Loop} {ps : List Nat} {σ : Type} {I : List α → σ → Prop} {Ij : Code → List α → σ → Prop} {Lf : σ → List Ch} {g0 : σ}
    (ha : Kn N ds l a) (hit : IterG P gf lb Sx D D' enc Adm Fin) (hSx : ∀ s ∈ Sx, s ∈ S) (hw : Hp ok0 w0 ((Ch.obj lr (.loop r) :: (Bk ++ Lf g0)) ++ D) S W1)
    (hst : r.state = .ready) (hpe : r.pending = none) (htm : r.tmps = a.tmps) (hpa : r.params = ps.toArray) (hps : ps.all (fun p => Nat.blt p N) = true) (hen : ∀ e, (enc e).length = ps.length) (hI0 : I [] g0)
    (hbody : ∀ pre e g, Adm (pre ++ [e]) → I pre g → ∀ okb wb, W ⟨P, some lr, N, [], okb, wb⟩ (g9 ps (enc e) l) (Ch.obj lr (.loop r) :: (Bk ++ Lf g)) S r.assign
      (Qasg P lr r.body (Qr ⟨P, some lr, N, [], okb, wb⟩ (Ch.obj lr (.loop { r with state := .busy }) :: Bk) (I (pre ++ [e])) (fun c => Ij c (pre ++ [e])) Lf S))) :
    Calls P gf (.func (.yield lr) #[] #[] :: lb).toArray W1 fun e w3 => ∃ v, e = .returned v ∧ ∃ j g', Hp ok0 w0 (Ch.obj lr (.loop { r with state := if Option.isNone j then .ready else .done, pending := j }) :: (Bk ++ Lf g')) S w3 ∧
      (match j with
       | none => ∃ xs, Fin xs ∧ I xs g'
       | some c => ∃ pre, Adm pre ∧ Ij c pre g') := by
  obtain ⟨rec, hrec⟩ : ∃ rec : Option Code → Loop, rec = fun j => { r with state := if Option.isNone j then .ready else .done, pending := j } := ⟨_, rfl⟩
  have hr0 : rec none = r := by rw [hrec]; show ({ r with state := .ready, pending := none } : Loop) = r; rw [← hst, ← hpe]
  let C : Option Code × σ → Ch := fun p => Ch.all (Ch.obj lr (.loop (rec p.1)) :: (Bk ++ Lf p.2))
  have hC0 : C (none, g0) = Ch.all (Ch.obj lr (.loop r) :: (Bk ++ Lf g0)) := by show Ch.all _ = _; rw [hr0]
  have := hit lr (Option Code × σ) (fun pre p => p.1 = none ∧ I pre p.2) (fun pre p => ∃ c, p.1 = some c ∧ Ij c pre p.2) C S ?_ (none, g0) ⟨rfl, hI0⟩ W1
    (by rw [hC0]; exact all_P.2 ⟨hw.own, hw.dj⟩) (by rw [hC0]; exact fun b hb => (all_ok b).1 hb |>.elim fun c h => hw.lt c h.1 b h.2) (fun s hs => hw.rdS ((List.mem_append.1 hs).elim (hSx s) id)) (by rw [hC0]; exact fun s hs b hb => (all_ok b).1 hb |>.elim fun c h => hw.sdj s ((List.mem_append.1 hs).elim (hSx s) id) c h.1 b h.2)
  · refine cw this ?_
    rintro e w3 ⟨⟨⟨v, j, g'⟩, ho⟩, rfl, hu, hp, hb⟩
    rw [hC0] at hu hb
    refine ⟨v, rfl, j, g', ?_, ?_⟩
    · have h9 := hw.all (L' := (Ch.obj lr (.loop (rec j)) :: (Bk ++ Lf g')) ++ D') (hu.mono fun b _ h => (all_ok b).1 h) (all_P.1 hp) (fun b h => (hb b ((all_ok b).2 h)).imp (all_ok b).1 id)
      have h8 := h9.weak (List.sublist_append_left _ _) (fun s hs => hs)
      rw [hrec] at h8
      exact h8
    · rcases ho with ⟨xs, hf, h1, h2⟩ | ⟨pre, h1, c, h2, h3⟩
      · simp only at h1; subst h1; exact ⟨xs, hf, h2⟩
      · simp only at h2; subst h2; exact ⟨pre, h1, h3⟩
  · rintro pre e ⟨j, g⟩ hxs ⟨h1, hI⟩ w1 hp hl hR hd
    simp only at h1 hI
    subst h1
    have hC : C (none, g) = Ch.all (Ch.obj lr (.loop r) :: (Bk ++ Lf g)) := by show Ch.all _ = _; rw [hr0]
    rw [hC] at hp hl hd
    have hh := Hp.startAll hp hl hR hd
    have hrl : w1.heap[lr]? = some (.loop r) := hh.own _ List.mem_cons_self
    have hy := run_yield (P := P) (args := (enc e).toArray) hrl (by rw [hpa]; simpa using hen e)
    refine ⟨_, _, _, _, hy, roundIn_of_wpIn trivial ?_⟩
    have hkz := kn_zipfr (N := N) ps (enc e) l a.tmps hps ha.sz ha.kn
    have hz : (r.params.zip (enc e).toArray).foldl (fun t (x : Nat × Value) => t.setIfInBounds x.1 x.2) r.tmps = (ps.zip (enc e)).foldl (fun t (x : Nat × Value) => t.setIfInBounds x.1 x.2) a.tmps := by
      rw [hpa, htm]
      simp [List.zip_toArray]
    have hW := hbody pre e g hxs hI (Ch.all (Ch.obj lr (.loop r) :: (Bk ++ Lf g))).ok w1
      { tmps := (ps.zip (enc e)).foldl (fun t (x : Nat × Value) => t.setIfInBounds x.1 x.2) a.tmps, defers := [] } w1 ⟨hkz.1, rfl, hkz.2⟩ hh
    have hW2 : r.assign.wpIn ((fw none).inRound lr) 0 P (Qasg P lr r.body (Qr ⟨P, some lr, N, [], (Ch.all (Ch.obj lr (.loop r) :: (Bk ++ Lf g))).ok, w1⟩ (Ch.obj lr (.loop { r with state := .busy }) :: Bk) (I (pre ++ [e])) (fun c => Ij c (pre ++ [e])) Lf S))
        { tmps := (r.params.zip (enc e).toArray).foldl (fun t (x : Nat × Value) => t.setIfInBounds x.1 x.2) r.tmps, defers := [] } w1 := by rw [hz]; exact hW
    refine Code.wpIn_mono ?_ hW2
    have fin : ∀ (jump : Option Code) (g' : σ) (w3 : World), Hp (Ch.all (Ch.obj lr (.loop r) :: (Bk ++ Lf g))).ok w1 (Ch.obj lr (.loop { r with state := .busy }) :: Bk ++ Lf g') S w3 →
        (Instr.endRound lr jump).run P w3 = .ok (.bool jump.isNone) (w3.putObj lr (.loop (rec jump))) ∧ Upd (C (none, g)).ok w1 (w3.putObj lr (.loop (rec jump))) ∧ (C (jump, g')).P (w3.putObj lr (.loop (rec jump))) ∧
        ∀ b, (C (jump, g')).ok b → (C (none, g)).ok b ∨ (w1.heap.size ≤ b ∧ b < (w3.putObj lr (.loop (rec jump))).heap.size) := fun jump g' w3 hw3 => by
      have hl3 : w3.heap[lr]? = some (.loop { r with state := .busy }) := hw3.own _ List.mem_cons_self
      have he := run_endRound (P := P) jump hl3
      have h4 := hw3.putObj (o' := .loop (rec jump)) SetAt.z
      rw [hC]
      refine ⟨?_, h4.toAll⟩
      rw [hrec]; exact he
    intro ex a1 w2 hq
    cases ex with
    | normal =>
      obtain ⟨w3, hbr, hb⟩ := hq
      refine ⟨w3, hbr, Code.wpIn_mono ?_ hb⟩
      intro e2 a3 w4 h
      cases e2 with
      | normal =>
        obtain ⟨g', h1, h2⟩ := h
        obtain ⟨f1, f2, f3, f4⟩ := fin none g' w4 h2
        exact ⟨_, _, f1, (none, g'), f2, f3, f4, .inl ⟨rfl, rfl, h1⟩⟩
      | ret =>
        obtain ⟨g', h1, h2⟩ := h
        obtain ⟨f1, f2, f3, f4⟩ := fin (some .ret) g' w4 h2
        exact ⟨_, _, f1, (some .ret, g'), f2, f3, f4, .inr ⟨rfl, .ret, rfl, h1⟩⟩
      | exit id =>
        obtain ⟨g', h1, h2⟩ := h
        obtain ⟨f1, f2, f3, f4⟩ := fin (some (.exit id)) g' w4 h2
        exact ⟨_, _, f1, (some (.exit id), g'), f2, f3, f4, .inr ⟨rfl, .exit id, rfl, h1⟩⟩
      | goto t =>
        obtain ⟨g', h1, h2⟩ := h
        obtain ⟨f1, f2, f3, f4⟩ := fin (some (.goto t)) g' w4 h2
        exact ⟨_, _, f1, (some (.goto t), g'), f2, f3, f4, .inr ⟨rfl, .goto t, rfl, h1⟩⟩
      | panic ch => exact h.elim
      | outgrown => exact h.elim
    | _ => exact hq.elim
/-- The statement, at an outermost loop, over such an iterator. -/
theorem w_rangeG {gop : Operand} {ps : List Nat} {assign body : Code} {gf : FuncId} {lb : List Value} {Sx D D' : List Ch} {α : Type} {enc : α → List Value} {Adm Fin : List α → Prop} {σ : Type} (I : List α → σ → Prop) (Ij : Code → List α → σ → Prop) (Lf : σ → List Ch) (g0 : σ)
    (hro : x.ro = none) (hg : ev l gop = some (.func (.func gf) #[] lb.toArray)) (hen : Enters x.P gf) (hit : IterG x.P gf lb Sx D D' enc Adm Fin) (hSx : ∀ s ∈ Sx, s ∈ S) (hps : ps.all (fun p => Nat.blt p x.N) = true) (henc : ∀ e, (enc e).length = ps.length) (hI0 : I [] g0) (hL : ∀ w, Hp x.ok0 x.w0 L S w → Hp x.ok0 x.w0 (Lf g0 ++ D) S w)
    (hbody : ∀ pre e g, Adm (pre ++ [e]) → I pre g → ∀ lr D r, r.state = .ready → ∀ okb wb, W ⟨x.P, some lr, x.N, [], okb, wb⟩ (g9 ps (enc e) l) (Ch.obj lr (.loop r) :: Ch.obj D (.deferred (some [])) :: Lf g) S assign
      (Qasg x.P lr body (Qr ⟨x.P, some lr, x.N, [], okb, wb⟩ [Ch.obj lr (.loop { r with state := .busy }), Ch.obj D (.deferred (some []))] (I (pre ++ [e])) (fun c => Ij c (pre ++ [e])) Lf S)))
    (hdone : ∀ g D, (∃ xs, Fin xs ∧ I xs g) → E ⟨x.P, none, x.N, { target := .collected D, args := #[] } :: x.ds, x.ok0, x.w0⟩ l (Ch.obj D (.deferred (some [])) :: Lf g) S .normal Q)
    (hstop : ∀ c pre g D, Adm pre → Ij c pre g → W ⟨x.P, none, x.N, { target := .collected D, args := #[] } :: x.ds, x.ok0, x.w0⟩ l (Ch.obj D (.deferred (some [])) :: Lf g) S c Q) :
    W x l L S (.rangeFunc gop ps.toArray assign body) Q := fun a w ha hw0 => by
  have hw := hL w hw0
  refine wpIn_rangeFunc ?_
  intro fn hfn
  have hround : (fw x.ro).round = none := hro
  rw [hround]
  have h1 := hw.alloc (.deferred (some []))
  have h2 := h1.alloc (.loop { state := .ready, pending := none, fn, tmps := a.tmps, params := ps.toArray, assign, body, defers := w.heap.size })
  have hsz : (w.alloc (.deferred (some []))).heap.size = w.heap.size + 1 := by simp
  rw [hsz] at h2
  refine ⟨w.heap.size + 1, _, _, { target := .fn (.func gf) lb.toArray, args := #[.func (.yield (w.heap.size + 1)) #[] #[]] }, (w.alloc (.deferred (some []))).alloc (.loop { state := .ready, pending := none, fn, tmps := a.tmps, params := ps.toArray, assign, body, defers := w.heap.size }), gf, #[.func (.yield (w.heap.size + 1)) #[] #[]] ++ lb.toArray, (w.alloc (.deferred (some []))).alloc (.loop { state := .ready, pending := none, fn, tmps := a.tmps, params := ps.toArray, assign, body, defers := w.heap.size }), run_enterLoop_outer _ _ _ _ _, ?_, fun _ _ => trivial, ?_, fun h => by simp [fw_dep] at h, ?_⟩
  · simp [resolve, ha.ev hg, Deferred.ofValue]; rfl
  · simp [invoke, hen _ _]
  · have hc := range_coreG (Bk := [Ch.obj w.heap.size (.deferred (some []))]) ha hit hSx h2 rfl rfl rfl rfl hps henc hI0 (fun pre e g hxs hI okb wb => hbody pre e g hxs hI _ _ _ rfl okb wb)
    have e1 : (Value.func (.yield (w.heap.size + 1)) #[] #[] :: lb).toArray = #[.func (.yield (w.heap.size + 1)) #[] #[]] ++ lb.toArray := by simp
    rw [e1] at hc
    refine fT (cw hc ?_)
    rintro e w3 ⟨v, rfl, j, g', h3, hj⟩
    have hl3 := h3.own _ List.mem_cons_self
    refine ⟨j, _, run_endLoop hl3 (by cases j <;> simp), ?_⟩
    have h4 := (h3.putObj (o' := .loop { state := .exhausted, pending := j, fn, tmps := a.tmps, params := ps.toArray, assign, body, defers := w.heap.size }) SetAt.z).weak (List.sublist_cons_self _ _) (fun s hs => hs)
    have hkn : Kn x.N ({ target := .collected w.heap.size, args := #[] } :: x.ds) l { a with defers := [{ target := .collected w.heap.size, args := #[] }] ++ a.defers } := ⟨ha.sz, by simp [ha.df], ha.kn⟩
    cases j with
    | none => exact hdone g' _ hj _ _ hkn h4
    | some c =>
      obtain ⟨pre, hxs, hI⟩ := hj
      have := hstop c pre g' _ hxs hI _ _ hkn h4
      rw [show fw x.ro = fw none by rw [hro]]
      exact this
end
end Go.Proofs.Ytnpdgmoeoidppaa
