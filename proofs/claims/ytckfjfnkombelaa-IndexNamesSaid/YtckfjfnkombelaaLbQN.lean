/- One rule for each kind of operation. -/
import Derived.Test.YtckfjfnkombelaaLaQN
namespace Go.Proofs.Ytckfjfnkombelaa
open Go.RowKit Go.Shelf

/-- What the walk wants of a type: is it laid out in several cells; its zero; how many cells, bytes. -/
structure TyI (P : Program) (t : TypeId) (agg : Bool) (sz bytes : Nat) (z : Value) : Prop where
  ag : ∀ w, (isAgg t).run P w = .ok agg w
  inf : ∃ i, P.info? t = some i ∧ i.zero = some z ∧ i.size = sz ∧ i.bytes = bytes
theorem TyI.mk' {P : Program} {t : TypeId} {agg : Bool} {sz bytes : Nat} {z : Value} (h : (P.info? t).map (fun i => (i.zero, i.size, i.bytes)) = some (some z, sz, bytes)) (ha : ∀ w, (isAgg t).run P w = .ok agg w) : TyI P t agg sz bytes z :=
  ⟨ha, info_parts h⟩
theorem TyI.zero {P : Program} {t : TypeId} {agg : Bool} {sz bytes : Nat} {z : Value} (h : TyI P t agg sz bytes z) (w : World) : (zeroValue t).run P w = .ok z w := by
  obtain ⟨i, h1, h2, h3, h4⟩ := h.inf
  simp [zeroValue, typeInfo, h1, h2]
theorem TyI.size {P : Program} {t : TypeId} {agg : Bool} {sz bytes : Nat} {z : Value} (h : TyI P t agg sz bytes z) (w : World) : (sizeOf t).run P w = .ok sz w := by
  obtain ⟨i, h1, h2, h3, h4⟩ := h.inf
  simp [sizeOf, typeInfo, h1, h3]
/-- Where a field lies. -/
def FA (P : Program) (s : TypeId) (f k : Nat) : Prop := ∀ b o w, (Instr.fieldAt s (.pointer (some ⟨b, o, none⟩)) f).run P w = .ok (.pointer (some ⟨b, o + k, none⟩)) w

def Op.isDefer : Op → Bool
  | .defer _ => true
  | _ => false
section ops
variable {x : Cx} {l : Fr} {L S : List Ch} {Q : Exit → Act → World → Prop} {ops : Array Oper} {rest : List Oper} {d : Nat} {ty : TypeId} {pos : String} {af : Array Edge} {gd : Option (Nat × Bool)}

/-- In every frame, every heap known so the operation yields v, and turns nothing. -/
def Yv (x : Cx) (l : Fr) (L S : List Ch) (o : Oper) (v : Value) : Prop := ∀ a w, Kn x.N x.ds l a → Hp x.ok0 x.w0 L S w → (execOp a.eval o).run x.P w = .ok (.value v) w
theorem Yv.eq {o : Oper} {v v' : Value} (h : Yv x l L S o v) (e : v = v') : Yv x l L S o v' := e ▸ h
theorem o_y {op : Op} {v : Value} (h : Yv x l L S ⟨some d, op, ty, pos, af, none⟩ v) (hd : Op.isDefer op = false) (hN : Nat.blt d x.N = true) (k : WL x ((d, v) :: l) L S ops rest Q) : WL x l L S ops (⟨some d, op, ty, pos, af, none⟩ :: rest) Q :=
  wl_val rfl rfl (fun c e => by rw [show op = _ from e] at hd; cases hd) hN (fun a w ha hw => ⟨w, h a w ha hw, hw⟩) k

theorem y_move {y : Operand} {v : Value} (hy : ev l y = some v) :
    Yv x l L S ⟨some d, .move y, ty, pos, af, gd⟩ (v) := fun a w ha hw => by simp [execOp, ha.ev hy]
theorem y_assign {y : Operand} {v : Value} (hy : ev l y = some v) :
    Yv x l L S ⟨some d, .assign y, ty, pos, af, gd⟩ (v) := fun a w ha hw => by simp [execOp, ha.ev hy]
theorem y_pick_t {c y z : Operand} {v : Value} (hc : ev l c = some (.bool true)) (hy : ev l y = some v) :
    Yv x l L S ⟨some d, .pick c y z, ty, pos, af, gd⟩ (v) := fun a w ha hw => by simp [execOp, ha.ev hy, ha.ev hc, asBool]
theorem y_pick_f {c y z : Operand} {v : Value} (hc : ev l c = some (.bool false)) (hz : ev l z = some v) :
    Yv x l L S ⟨some d, .pick c y z, ty, pos, af, gd⟩ (v) := fun a w ha hw => by simp [execOp, ha.ev hz, ha.ev hc, asBool]
theorem o_box {e : TypeId} {y : Operand} {v : Value} {cs : List Value} (hy : ev l y = some v) (hcs : v.cells = cs.toArray) (hN : Nat.blt d x.N = true)
    (k : ∀ b, WL x ((d, .pointer (some ⟨b, 0, none⟩)) :: l) (Ch.row b cs e :: L) S ops rest Q) : WL x l L S ops (⟨some d, .box e y, ty, pos, af, none⟩ :: rest) Q :=
  wl_valx (fun b => .pointer (some ⟨b, 0, none⟩)) (fun b => Ch.row b cs e :: L) (fun _ => S) rfl rfl (fun _ => nofun) hN
    (fun a w ha hw => ⟨w.heap.size, w.alloc (.cells cs.toArray e), by simp [execOp, ha.ev hy, Instr.box, newVar, newRow, hcs], hw.alloc _⟩) k
theorem o_alloc {e : TypeId} {agg : Bool} {sz bytes : Nat} {z : Value} {cs : List Value} (ht : TyI x.P e agg sz bytes z) (hcs : z.cells = cs.toArray) (hN : Nat.blt d x.N = true)
    (k : ∀ b, WL x ((d, .pointer (some ⟨b, 0, none⟩)) :: l) (Ch.row b cs e :: L) S ops rest Q) : WL x l L S ops (⟨some d, .alloc e, ty, pos, af, none⟩ :: rest) Q :=
  wl_valx (fun b => .pointer (some ⟨b, 0, none⟩)) (fun b => Ch.row b cs e :: L) (fun _ => S) rfl rfl (fun _ => nofun) hN
    (fun a w ha hw => ⟨w.heap.size, w.alloc (.cells cs.toArray e), by simp [execOp, Instr.alloc, newVar, newRow, hcs, ht.zero], hw.alloc _⟩) k
theorem y_field {s : TypeId} {y : Operand} {f b o n : Nat} (hf : FA x.P s f n) (hy : ev l y = some (.pointer (some ⟨b, o, none⟩))) :
    Yv x l L S ⟨some d, .fieldAddr s y f, ty, pos, af, gd⟩ (.pointer (some ⟨b, o + n, none⟩)) := fun a w ha hw => by simp [execOp, ha.ev hy, hf b o w]
theorem y_nilCheck {y : Operand} {p : Addr} (hy : ev l y = some (.pointer (some p))) :
    Yv x l L S ⟨some d, .nilCheck y, ty, pos, af, gd⟩ (.pointer (some p)) := fun a w ha hw => by simp [execOp, ha.ev hy]
/-! Cells. -/
theorem cell_row {w : World} {b : Nat} {cs : List Value} {T : TypeId} (h : (Ch.row b cs T).P w) (o : Nat) : w.cell? ⟨b, o, none⟩ = cs[o]? := by
  have h' : w.heap[b]? = some (.cells cs.toArray T (0, 0)) := h
  simp [World.cell?, h']
theorem run_load1 {P : Program} {t : TypeId} {sz bytes : Nat} {z v : Value} (ht : TyI P t false sz bytes z) {w : World} {ad : Addr} (h : w.cell? ad = some v) : (loadVar t ad).run P w = .ok v w := by
  simp [loadVar, ht.ag, h]
theorem run_loadN {P : Program} {t : TypeId} {sz bytes : Nat} {z : Value} (ht : TyI P t true sz bytes z) {w : World} {b o : Nat} {vs : List Value} (hl : vs.length = sz) (h : ∀ i v, vs[i]? = some v → w.cell? ⟨b, o + i, none⟩ = some v) :
    (loadVar t ⟨b, o, none⟩).run P w = .ok (.agg vs.toArray) w := by
  have := run_loadCells_list (P := P) w ⟨b, o, none⟩ vs (fun j v hv => by
    have := h j v hv
    unfold Addr.add
    by_cases e : j = 0
    · subst e; simpa using this
    · simpa [e] using this)
  rw [hl] at this
  simp [loadVar, ht.ag, ht.size, this]
/-- A load of one cell, of whatever the heap is known to hold there. -/
theorem y_load {t : TypeId} {sz bytes : Nat} {z : Value} {y : Operand} {ad : Addr} {v : Value} (ht : TyI x.P t false sz bytes z) (hy : ev l y = some (.pointer (some ad)))
    (h : ∀ w, Hp x.ok0 x.w0 L S w → w.cell? ad = some v) :
    Yv x l L S ⟨some d, .load t y, ty, pos, af, gd⟩ (v) := fun a w ha hw => by simp [execOp, ha.ev hy, Instr.loadAt, Instr.sureAddr, run_load1 ht (h w hw)]
theorem y_loads {t : TypeId} {sz bytes : Nat} {z : Value} {y : Operand} {b o : Nat} {vs : List Value} (ht : TyI x.P t true sz bytes z) (hy : ev l y = some (.pointer (some ⟨b, o, none⟩))) (hl : vs.length = sz)
    (h : ∀ w, Hp x.ok0 x.w0 L S w → ∀ i v, vs[i]? = some v → w.cell? ⟨b, o + i, none⟩ = some v) :
    Yv x l L S ⟨some d, .load t y, ty, pos, af, gd⟩ (.agg vs.toArray) := fun a w ha hw => by simp [execOp, ha.ev hy, Instr.loadAt, Instr.sureAddr, run_loadN ht hl (h w hw)]
/-- .. of a chunk of one's own. -/
theorem y_loadr {t T : TypeId} {sz bytes : Nat} {z : Value} {y : Operand} {b o : Nat} {cs : List Value} {v : Value} (i : Nat) (ht : TyI x.P t false sz bytes z) (hy : ev l y = some (.pointer (some ⟨b, o, none⟩)))
    (hi : L[i]? = some (Ch.row b cs T)) (hv : cs[o]? = some v) :
    Yv x l L S ⟨some d, .load t y, ty, pos, af, gd⟩ (v) :=
  y_load ht hy (fun w hw => by rw [cell_row (hw.own _ (List.mem_of_getElem? hi)) o]; exact hv)
theorem y_loadrs {t T : TypeId} {sz bytes : Nat} {z : Value} {y : Operand} {b o : Nat} {cs vs : List Value} (i : Nat) (ht : TyI x.P t true sz bytes z) (hy : ev l y = some (.pointer (some ⟨b, o, none⟩)))
    (hi : L[i]? = some (Ch.row b cs T)) (hv : (cs.drop o).take sz = vs) (hl : vs.length = sz) :
    Yv x l L S ⟨some d, .load t y, ty, pos, af, gd⟩ (.agg vs.toArray) :=
  y_loads ht hy hl (fun w hw j v hj => by
    rw [cell_row (hw.own _ (List.mem_of_getElem? hi)) (o + j)]
    rw [← hv] at hj
    have hlt : j < sz := by have := (List.getElem?_eq_some_iff.1 hj).1; simp at this; omega
    simpa [List.getElem?_take, hlt] using hj)
theorem store_row {P : Program} {w : World} {b o : Nat} {cs vs : List Value} {T : TypeId} (h : (Ch.row b cs T).P w) (hl : o + vs.length ≤ cs.length) (hone : ∀ v ∈ vs, v.oneCell' = true) :
    ∃ w', (storeCells ⟨b, o, none⟩ vs).run P w = .ok () w' ∧ (Ch.row b (cs.take o ++ vs ++ cs.drop (o + vs.length)) T).P w' ∧ Upd (fun k => k = b) w w' := by
  have h' : w.heap[b]? = some (.cells cs.toArray T (0, 0)) := h
  have e := run_storeCells_at (P := P) b o T vs 0 cs.toArray w h' (by simpa using hl) hone
  simp only [Nat.add_zero] at e
  refine ⟨_, e, ?_, ?_⟩
  · obtain ⟨hlt, hk⟩ := Array.getElem?_eq_some_iff.1 h'
    show (w.heap.modify b _)[b]? = some (.cells (cs.take o ++ vs ++ cs.drop (o + vs.length)).toArray T (0, 0))
    rw [Array.getElem?_eq_getElem (by rw [Array.size_modify]; exact hlt), Array.getElem_modify_self, hk]
  · refine ⟨rfl, rfl, rfl, ?_, fun k hk hn => ?_, Nat.le_refl _⟩
    · show w.heap.size ≤ (w.heap.modify b _).size
      rw [Array.size_modify]; exact Nat.le_refl _
    · show (w.heap.modify b _)[k]? = _
      rw [Array.getElem?_modify, if_neg (fun e => hn e.symm)]
/-- A store into a row of one's own. -/
theorem o_store {t T : TypeId} {agg : Bool} {sz bytes : Nat} {z : Value} {y u : Operand} {b o : Nat} {cs vs cs' : List Value} {v : Value} {L' : List Ch} {i : Nat} (ht : TyI x.P t agg sz bytes z) (hy : ev l y = some (.pointer (some ⟨b, o, none⟩))) (hu : ev l u = some v) (hvs : v.cells = vs.toArray)
    (hi : SetAt L i (Ch.row b cs T) (Ch.row b cs' T) L') (hl : vs.length = sz) (hlen : Nat.ble (o + sz) cs.length = true) (hcs : cs.take o ++ vs ++ cs.drop (o + vs.length) = cs') (hone : vs.all Value.oneCell' = true)
    (k : WL x l L' S ops rest Q) : WL x l L S ops (⟨none, .store t y u, ty, pos, af, none⟩ :: rest) Q :=
  wl_unit rfl rfl (fun _ => nofun) (fun a w ha hw => by
    obtain ⟨w', e, hp, hupd⟩ := store_row (P := x.P) (hw.own _ hi.mem) (vs := vs) (o := o) (by rw [hl]; exact Nat.le_of_ble_eq_true hlen) (List.all_eq_true.1 hone)
    rw [hcs] at hp
    refine ⟨w', ?_, hw.upd hi hupd hp (fun b hb => .inl hb)⟩
    have hs : v.cells.size = sz := by rw [hvs]; simpa using hl
    simp [execOp, ha.ev hy, ha.ev hu, Instr.storeAt, Instr.sureAddr, storeVar, ht.size, hs]
    rw [hvs, List.toList_toArray, e]; rfl) k

/-! Numbers. -/
theorem wrap_u8 {n : Int} (h1 : 0 ≤ n) (h2 : n ≤ 255) : IntKind.u8.wrap n = n := IntWalk.u8_in _ ⟨h1, h2⟩
theorem wrap_u64 {n : Int} (h1 : 0 ≤ n) (h2 : n ≤ 18446744073709551615) : IntKind.u64.wrap n = n := IntWalk.u64_in _ ⟨h1, h2⟩
theorem wrap_i64 {n : Int} (h1 : -9223372036854775808 ≤ n) (h2 : n ≤ 9223372036854775807) : IntKind.i64.wrap n = n := IntWalk.i64_in _ ⟨h1, h2⟩
theorem in64 {n : Int} (h1 : -9223372036854775808 ≤ n) (h2 : n ≤ 9223372036854775807) : IntKind.i64.wrap n = n := IntWalk.i64_in _ ⟨h1, h2⟩
theorem y_add {y z : Operand} {a b : Int} {k0 : IntKind} {yt zt : TypeId} (hy : ev l y = some (.int k0 a)) (hz : ev l z = some (.int k0 b)) :
    Yv x l L S ⟨some d, .binOp .add yt y z zt, ty, pos, af, gd⟩ (.int k0 (k0.wrap (a + b))) := fun a w ha hw => by simp [execOp, ha.ev hy, ha.ev hz, eqGuard, binOp, Op.intArith]
theorem y_sub {y z : Operand} {a b : Int} {k0 : IntKind} {yt zt : TypeId} (hy : ev l y = some (.int k0 a)) (hz : ev l z = some (.int k0 b)) :
    Yv x l L S ⟨some d, .binOp .sub yt y z zt, ty, pos, af, gd⟩ (.int k0 (k0.wrap (a - b))) := fun a w ha hw => by simp [execOp, ha.ev hy, ha.ev hz, eqGuard, binOp, Op.intArith]
/-- .. of an int, within bounds. -/
theorem y_addi {y z : Operand} {a b : Int} {yt zt : TypeId} (hy : ev l y = some (.int .i64 a)) (hz : ev l z = some (.int .i64 b)) (h1 : -9223372036854775808 ≤ a + b) (h2 : a + b ≤ 9223372036854775807) :
    Yv x l L S ⟨some d, .binOp .add yt y z zt, ty, pos, af, gd⟩ (.int .i64 (a + b)) := (y_add hy hz).eq (by rw [in64 h1 h2])
theorem y_subi {y z : Operand} {a b : Int} {yt zt : TypeId} (hy : ev l y = some (.int .i64 a)) (hz : ev l z = some (.int .i64 b)) (h1 : -9223372036854775808 ≤ a - b) (h2 : a - b ≤ 9223372036854775807) :
    Yv x l L S ⟨some d, .binOp .sub yt y z zt, ty, pos, af, gd⟩ (.int .i64 (a - b)) := (y_sub hy hz).eq (by rw [in64 h1 h2])
theorem y_shr {y z : Operand} {a b : Int} {k0 k1 : IntKind} {yt zt : TypeId} (hy : ev l y = some (.int k0 a)) (hz : ev l z = some (.int k1 b)) (hb : 0 ≤ b) :
    Yv x l L S ⟨some d, .binOp .shr yt y z zt, ty, pos, af, gd⟩ (.int k0 (a.fdiv (2 ^ min b.toNat k0.bits))) := fun a w ha hw => by
  have : ¬ b < 0 := by omega
  simp [execOp, ha.ev hy, ha.ev hz, eqGuard, binOp, Op.shift, this]
section cmp
variable {y z : Operand} {a b : Int} {k0 : IntKind} {yt zt : TypeId} (hy : ev l y = some (.int k0 a)) (hz : ev l z = some (.int k0 b))
include hy hz
theorem y_lss  :
    Yv x l L S ⟨some d, .binOp .lss yt y z zt, ty, pos, af, gd⟩ (.bool (decide (a < b))) := fun a w ha hw => by simp [execOp, ha.ev hy, ha.ev hz, eqGuard, binOp, Op.intCmp]
theorem y_leq  :
    Yv x l L S ⟨some d, .binOp .leq yt y z zt, ty, pos, af, gd⟩ (.bool (decide (a ≤ b))) := fun a w ha hw => by simp [execOp, ha.ev hy, ha.ev hz, eqGuard, binOp, Op.intCmp]
theorem y_gtr  :
    Yv x l L S ⟨some d, .binOp .gtr yt y z zt, ty, pos, af, gd⟩ (.bool (decide (b < a))) := fun a w ha hw => by simp [execOp, ha.ev hy, ha.ev hz, eqGuard, binOp, Op.intCmp]
theorem y_geq  :
    Yv x l L S ⟨some d, .binOp .geq yt y z zt, ty, pos, af, gd⟩ (.bool (decide (b ≤ a))) := fun a w ha hw => by simp [execOp, ha.ev hy, ha.ev hz, eqGuard, binOp, Op.intCmp]
theorem y_eql  :
    Yv x l L S ⟨some d, .binOp .eql yt y z zt, ty, pos, af, gd⟩ (.bool (decide (a = b))) := fun a w ha hw => by simp [execOp, ha.ev hy, ha.ev hz, eqGuard, binOp, Op.intCmp]; rfl
theorem y_neq  :
    Yv x l L S ⟨some d, .binOp .neq yt y z zt, ty, pos, af, gd⟩ (.bool (decide (a ≠ b))) := fun a w ha hw => by simp [execOp, ha.ev hy, ha.ev hz, eqGuard, binOp, Op.intCmp]; rfl
end cmp
abbrev Str := List UInt8
abbrev ls (s : ByteArray) : Str := s.data.toList
abbrev ba (l : Str) : ByteArray := ⟨⟨l⟩⟩
theorem ba_toList (l : Str) : (ba l).toList = l := by simp [ByteArray.toList_eq]
theorem y_eqls {y z : Operand} {s t : Str} {yt zt : TypeId} (hy : ev l y = some (.string (ba s))) (hz : ev l z = some (.string (ba t))) :
    Yv x l L S ⟨some d, .binOp .eql yt y z zt, ty, pos, af, gd⟩ (.bool (decide (s = t))) := fun a w ha hw => by
  have : decide (s = t) = ((ba s).toList == (ba t).toList) := by rw [ba_toList, ba_toList, Bool.eq_iff_iff]; simp
  rw [this]; simp [execOp, ha.ev hy, ha.ev hz, eqGuard, binOp, Op.stringOp]
theorem y_neqs {y z : Operand} {s t : Str} {yt zt : TypeId} (hy : ev l y = some (.string (ba s))) (hz : ev l z = some (.string (ba t))) :
    Yv x l L S ⟨some d, .binOp .neq yt y z zt, ty, pos, af, gd⟩ (.bool (decide (s ≠ t))) := fun a w ha hw => by
  have : decide (s ≠ t) = !((ba s).toList == (ba t).toList) := by rw [ba_toList, ba_toList, Bool.eq_iff_iff]; simp
  rw [this]; simp [execOp, ha.ev hy, ha.ev hz, eqGuard, binOp, Op.stringOp]
theorem ba_append (s t : Str) : ba s ++ ba t = ba (s ++ t) := by
  apply ByteArray.ext; simp [ByteArray.data_append]
theorem y_adds {y z : Operand} {s t : Str} {yt zt : TypeId} (hy : ev l y = some (.string (ba s))) (hz : ev l z = some (.string (ba t))) (hs : s.length + t.length ≤ 9223372036854775807) :
    Yv x l L S ⟨some d, .binOp .add yt y z zt, ty, pos, af, gd⟩ (.string (ba (s ++ t))) := fun a w ha hw => by
  have e1 : (ba s).size = s.length := rfl
  have e2 : (ba t).size = t.length := rfl
  have h0 : ¬ (((ba s).size + (ba t).size : Nat) : Int) > IntKind.i64.max := by
    have : IntKind.i64.max = 9223372036854775807 := by decide
    omega
  simp only [execOp, ha.ev hy, ha.ev hz, eqGuard, binOp, Op.stringOp]
  rw [if_neg h0, ← ba_append]
  simp
theorem y_not {y : Operand} {b : Bool} {yt : TypeId} (hy : ev l y = some (.bool b)) :
    Yv x l L S ⟨some d, .unOp .not yt y, ty, pos, af, gd⟩ (.bool (!b)) := fun a w ha hw => by simp [execOp, ha.ev hy, Op.unary]
theorem y_convii {y : Operand} {n : Int} {k1 k2 : IntKind} {t1 t2 : TypeId} (h1 : x.P.underlying t1 = some (.int k1)) (h2 : x.P.underlying t2 = some (.int k2)) (hy : ev l y = some (.int k1 n)) :
    Yv x l L S ⟨some d, .convert t1 t2 y, ty, pos, af, gd⟩ (.int k2 (k2.wrap n)) := fun a w ha hw => by simp [execOp, ha.ev hy, convert, run_underlying h1, run_underlying h2, Conv.intToInt]
theorem y_convi {y : Operand} {n : Int} {k1 k2 : IntKind} {t1 t2 : TypeId} (h1 : x.P.underlying t1 = some (.int k1)) (h2 : x.P.underlying t2 = some (.int k2)) (hy : ev l y = some (.int k1 n)) (hwr : k2.wrap n = n) :
    Yv x l L S ⟨some d, .convert t1 t2 y, ty, pos, af, gd⟩ (.int k2 n) := (y_convii h1 h2 hy).eq (by rw [hwr])
def evs (l : Fr) : List Operand → Option (List Value)
  | [] => some []
  | y :: r => match ev l y with
    | some v => match evs l r with
      | some vs => some (v :: vs)
      | none => none
    | none => none
theorem Kn.evs {N : Nat} {ds : List Deferred} {l : Fr} {a : Act} (h : Kn N ds l a) : ∀ {ys : List Operand} {vs : List Value}, evs l ys = some vs → ys.map a.eval = vs
  | [], vs, e => by cases e; rfl
  | y :: r, vs, e => by
    simp only [Go.Proofs.Ytckfjfnkombelaa.evs] at e
    split at e
    · rename_i v hv
      split at e
      · rename_i us hus
        cases e
        rw [List.map_cons, h.ev hv, h.evs hus]
      · cases e
    · cases e
theorem y_makeFunc {fn : Fn} {fi ca : List Operand} {vf vc : List Value} (hf : evs l fi = some vf) (hc : evs l ca = some vc) :
    Yv x l L S ⟨some d, .makeFunc fn fi.toArray ca.toArray, ty, pos, af, gd⟩ (.func fn vf.toArray vc.toArray) := fun a w ha hw => by simp [execOp, Instr.makeFunc, ha.evs hf, ha.evs hc]
theorem y_extract {y : Operand} {vs : List Value} {i : Nat} {v : Value} (hy : ev l y = some (.tuple vs.toArray)) (hi : vs[i]? = some v) :
    Yv x l L S ⟨some d, .extract y i, ty, pos, af, gd⟩ (v) := fun a w ha hw => by simp [execOp, ha.ev hy, Instr.extract, hi]
/-! Strings, slices. -/
/-- The octet at a place. -/
def bt (s : Str) (i : Nat) : Nat := (s.getD i 0).toNat
theorem bt_lt (s : Str) (i : Nat) : bt s i < 256 := UInt8.toNat_lt _
theorem len_pos {s : Str} (h : ¬ s = []) : 0 < s.length := List.length_pos_iff.2 h
theorem y_lens {y : Operand} {s : Str} {t : TypeId} (h1 : x.P.underlying t = some .string) (hy : ev l y = some (.string (ba s))) :
    Yv x l L S ⟨some d, .call { callee := .builtin .len, args := #[y], argTypes := #[t] }, ty, pos, af, gd⟩ (.int .i64 s.length) := fun a w ha hw => by
  have e1 : (ba s).size = s.length := rfl
  simp [execOp, resolve, invoke, builtin, Builtin.len_, run_underlying h1, ha.ev hy, goInt, e1]
theorem y_lenl {y : Operand} {A : Option Addr} {n c : Nat} {t e : TypeId} (h1 : x.P.underlying t = some (.slice e)) (hy : ev l y = some (.slice A n c)) :
    Yv x l L S ⟨some d, .call { callee := .builtin .len, args := #[y], argTypes := #[t] }, ty, pos, af, gd⟩ (.int .i64 n) := fun a w ha hw => by simp [execOp, resolve, invoke, builtin, Builtin.len_, run_underlying h1, ha.ev hy, goInt]
theorem y_indexs {y z : Operand} {s : Str} {i : Int} {k : Nat} {k0 : IntKind} {t : TypeId} (h1 : x.P.underlying t = some .string) (hy : ev l y = some (.string (ba s))) (hz : ev l z = some (.int k0 i)) (hk : i = (k : Int)) (hlt : k < s.length) :
    Yv x l L S ⟨some d, .index t y z, ty, pos, af, gd⟩ (.int .u8 (bt s k)) := fun a w ha hw => by
  subst hk
  have hlt' : k < (ba s).size := hlt
  have e : (ba s)[k]? = some (s[k]) := by simp [hlt']; rfl
  have e2 : bt s k = (s[k]).toNat := by
    unfold bt
    rw [List.getD_eq_getElem?_getD, List.getElem?_eq_getElem hlt]; rfl
  simp [execOp, ha.ev hy, ha.ev hz, Instr.index, asIntOf, run_underlying h1, e, e2]
theorem ba_extract (s : Str) (i j : Nat) : (ba s).extract i j = ba ((s.take j).drop i) := by
  apply ByteArray.ext
  simp [ByteArray.data_extract, List.drop_take]
theorem run_bounds_b {P : Program} {w : World} {isSlice : Bool} {len cap : Nat} {k1 k2 : IntKind} {i j : Int} (h0 : 0 ≤ i) (h1 : i ≤ j) (h2 : j ≤ cap) :
    (Instr.sliceBounds isSlice len cap (some (.int k1 i)) (some (.int k2 j)) none).run P w = .ok (i.toNat, j.toNat, cap) w := by
  have h3 : 0 ≤ j := by omega
  simp [Instr.sliceBounds, Instr.sliceBound, asIntOf, h0, h2, h3]
  omega
theorem run_bounds_lo {P : Program} {w : World} {isSlice : Bool} {len cap : Nat} {k1 : IntKind} {i : Int} (h0 : 0 ≤ i) (h1 : i ≤ len) :
    (Instr.sliceBounds isSlice len cap (some (.int k1 i)) none none).run P w = .ok (i.toNat, len, cap) w := by
  simp [Instr.sliceBounds, Instr.sliceBound, asIntOf, h0, h1]
theorem run_bounds_hi {P : Program} {w : World} {isSlice : Bool} {len cap : Nat} {k1 : IntKind} {j : Int} (h0 : 0 ≤ j) (h1 : j ≤ cap) :
    (Instr.sliceBounds isSlice len cap none (some (.int k1 j)) none).run P w = .ok (0, j.toNat, cap) w := by
  simp [Instr.sliceBounds, Instr.sliceBound, asIntOf, h0, h1]
theorem y_slices {y i1 j1 : Operand} {s : Str} {i j : Int} {m n : Nat} {k1 k2 : IntKind} {t : TypeId} (h1 : x.P.underlying t = some .string) (hy : ev l y = some (.string (ba s))) (hi : ev l i1 = some (.int k1 i)) (hj : ev l j1 = some (.int k2 j))
    (hm : i = (m : Int)) (hn : j = (n : Int)) (b1 : m ≤ n) (b2 : n ≤ s.length) :
    Yv x l L S ⟨some d, .slice t y (some i1) (some j1) none, ty, pos, af, gd⟩ (.string (ba ((s.take n).drop m))) := fun a w ha hw => by
  subst hm hn
  have e := run_bounds_b (P := x.P) (w := w) (isSlice := false) (len := s.length) (cap := s.length) (k1 := k1) (k2 := k2) (i := m) (j := n) (by omega) (by omega) (by omega)
  have e1 : (ba s).size = s.length := rfl
  simp [execOp, ha.ev hy, ha.ev hi, ha.ev hj, Instr.sliceAt, Instr.slice, run_underlying h1, e1, e, ba_extract]
theorem y_slices_lo {y i1 : Operand} {s : Str} {i : Int} {m : Nat} {k1 : IntKind} {t : TypeId} (h1 : x.P.underlying t = some .string) (hy : ev l y = some (.string (ba s))) (hi : ev l i1 = some (.int k1 i))
    (hm : i = (m : Int)) (b1 : m ≤ s.length) :
    Yv x l L S ⟨some d, .slice t y (some i1) none none, ty, pos, af, gd⟩ (.string (ba (s.drop m))) := fun a w ha hw => by
  subst hm
  have e := run_bounds_lo (P := x.P) (w := w) (isSlice := false) (len := s.length) (cap := s.length) (k1 := k1) (i := m) (by omega) (by omega)
  have e1 : (ba s).size = s.length := rfl
  have e2 := ba_extract s m s.length
  rw [List.take_length] at e2
  simp [execOp, ha.ev hy, ha.ev hi, Instr.sliceAt, Instr.slice, run_underlying h1, e1, e, e2]
theorem y_slices_hi {y j1 : Operand} {s : Str} {j : Int} {n : Nat} {k1 : IntKind} {t : TypeId} (h1 : x.P.underlying t = some .string) (hy : ev l y = some (.string (ba s))) (hj : ev l j1 = some (.int k1 j))
    (hn : j = (n : Int)) (b1 : n ≤ s.length) :
    Yv x l L S ⟨some d, .slice t y none (some j1) none, ty, pos, af, gd⟩ (.string (ba (s.take n))) := fun a w ha hw => by
  subst hn
  have e := run_bounds_hi (P := x.P) (w := w) (isSlice := false) (len := s.length) (cap := s.length) (k1 := k1) (j := n) (by omega) (by omega)
  have e1 : (ba s).size = s.length := rfl
  have e2 := ba_extract s 0 n
  simp [execOp, ha.ev hy, ha.ev hj, Instr.sliceAt, Instr.slice, run_underlying h1, e1, e, e2]
theorem y_indexAddr {y z : Operand} {b o n c : Nat} {i : Int} {k : Nat} {k0 : IntKind} {t e : TypeId} {agg : Bool} {sz bytes : Nat} {zv : Value} (h1 : x.P.underlying t = some (.slice e)) (he : TyI x.P e agg sz bytes zv) (hy : ev l y = some (.slice (some ⟨b, o, none⟩) n c)) (hz : ev l z = some (.int k0 i))
    (hk : i = (k : Int)) (hlt : k < n) : Yv x l L S ⟨some d, .indexAddr t y z, ty, pos, af, gd⟩ (.pointer (some ⟨b, o + k * sz, none⟩)) := fun a w ha hw => by
  subst hk
  have hadd : Addr.add ⟨b, o, none⟩ (k * sz) = ⟨b, o + k * sz, none⟩ := by
    unfold Addr.add; split
    · rename_i h0; rw [h0]; rfl
    · rfl
  simp [execOp, ha.ev hy, ha.ev hz, Instr.indexAt, asIntOf, run_underlying h1, he.size, hadd]
  intro h; omega
end ops
end Go.Proofs.Ytckfjfnkombelaa
