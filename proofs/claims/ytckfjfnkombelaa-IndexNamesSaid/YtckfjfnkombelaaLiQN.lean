/- Slices of elements. -/
import Derived.Test.YtckfjfnkombelaaLhQN
namespace Go.Proofs.Ytckfjfnkombelaa
open Go.RowKit Go.Shelf
set_option linter.unusedVariables false
set_option linter.unusedSimpArgs false

def encs (s : Str) : List Value := [.string (ba s)]
def enci (i : Int) : List Value := [.int .i64 i]
/-- A slice of one's own, of elements xs. -/
abbrev Ch.ls {α : Type} (A : Option Addr) (c : Nat) (e : TypeId) (sz : Nat) (enc : α → List Value) (xs : List α) : Ch := Ch.sl A xs.length c e sz (fl enc xs)
/-- .. that is read alone. -/
abbrev Ch.rd {α : Type} (A : Option Addr) (sz : Nat) (enc : α → List Value) (xs : List α) : Ch := Ch.rs A xs.length sz (fl enc xs)
/-- How elements are laid out. -/
structure Enc {α : Type} (enc : α → List Value) (sz : Nat) : Prop where
  len : ∀ a, (enc a).length = sz
  one : ∀ a, (enc a).all Value.oneCell' = true
theorem enc_b : Enc encb 1 := ⟨fun _ => rfl, fun _ => rfl⟩
theorem enc_s : Enc encs 1 := ⟨fun _ => rfl, fun _ => rfl⟩
theorem enc_i : Enc enci 1 := ⟨fun _ => rfl, fun _ => rfl⟩
theorem Enc.ones {α : Type} {enc : α → List Value} {sz : Nat} (h : Enc enc sz) (xs : List α) : ∀ u ∈ fl enc xs, u.oneCell' = true := fun u hu => by
  obtain ⟨l, hl, hul⟩ := List.mem_flatten.1 hu
  obtain ⟨a, _, rfl⟩ := List.mem_map.1 hl
  exact List.all_eq_true.1 (h.one a) u hul
section
variable {α : Type} {enc : α → List Value} {sz : Nat}
theorem fl_cons (a : α) (r : List α) : fl enc (a :: r) = enc a ++ fl enc r := rfl
theorem fl_split (h : ∀ a, (enc a).length = sz) : ∀ (xs : List α) (k : Nat), k ≤ xs.length → (fl enc xs).take (k * sz) = fl enc (xs.take k) ∧ (fl enc xs).drop (k * sz) = fl enc (xs.drop k)
  | xs, 0, _ => by simp [fl]
  | [], k + 1, hk => by simp at hk
  | a :: r, k + 1, hk => by
    obtain ⟨h1, h2⟩ := fl_split h r k (by simpa using hk)
    have e : (k + 1) * sz = (enc a).length + k * sz := by rw [h, Nat.add_mul, Nat.one_mul, Nat.add_comm]
    rw [fl_cons, e]
    constructor
    · rw [List.take_length_add_append, h1]; rfl
    · rw [List.drop_length_add_append, h2]; rfl
theorem fl_at (h : ∀ a, (enc a).length = sz) (xs : List α) (d : α) {k : Nat} (hk : k < xs.length) : (fl enc xs).drop (k * sz) = enc (xs.getD k d) ++ fl enc (xs.drop (k + 1)) := by
  rw [(fl_split h xs k (Nat.le_of_lt hk)).2, List.drop_eq_getElem_cons hk, fl_cons]
  congr 2
  simp [List.getD_eq_getElem?_getD, hk]
theorem fl_get (h : ∀ a, (enc a).length = sz) (xs : List α) (d : α) {k f : Nat} (hk : k < xs.length) (hf : f < sz) : (fl enc xs)[k * sz + f]? = (enc (xs.getD k d))[f]? := by
  have e := fl_at h xs d hk
  have : (fl enc xs)[k * sz + f]? = ((fl enc xs).drop (k * sz))[f]? := by rw [List.getElem?_drop]
  rw [this, e, List.getElem?_append_left (by rw [h]; exact hf)]
theorem fl_sub (h : ∀ a, (enc a).length = sz) (xs : List α) (d : α) {k f m : Nat} (hk : k < xs.length) (hf : f + m ≤ sz) : ((fl enc xs).drop (k * sz + f)).take m = ((enc (xs.getD k d)).drop f).take m := by
  rw [← List.drop_drop, fl_at h xs d hk, List.drop_append_of_le_length (by rw [h]; omega), List.take_append_of_le_length (by rw [List.length_drop, h]; omega)]
theorem fl_set (h : ∀ a, (enc a).length = sz) (xs : List α) (d a : α) {k f m : Nat} {vs : List Value} (hk : k < xs.length) (hf : f + m ≤ sz) (hv : (enc (xs.getD k d)).take f ++ vs ++ (enc (xs.getD k d)).drop (f + m) = enc a) :
    (fl enc xs).take (k * sz + f) ++ vs ++ (fl enc xs).drop (k * sz + f + m) = fl enc (xs.set k a) := by
  have e1 : (fl enc xs).take (k * sz + f) = fl enc (xs.take k) ++ (enc (xs.getD k d)).take f := by
    rw [List.take_add, (fl_split h xs k (Nat.le_of_lt hk)).1, fl_at h xs d hk, List.take_append_of_le_length (by rw [h]; omega)]
  have e2 : (fl enc xs).drop (k * sz + f + m) = (enc (xs.getD k d)).drop (f + m) ++ fl enc (xs.drop (k + 1)) := by
    rw [Nat.add_assoc, ← List.drop_drop, fl_at h xs d hk, List.drop_append_of_le_length (by rw [h]; omega)]
  rw [e1, e2, List.set_eq_take_append_cons_drop, if_pos hk]
  have e3 : fl enc (xs.take k ++ a :: xs.drop (k + 1)) = fl enc (xs.take k) ++ (enc a ++ fl enc (xs.drop (k + 1))) := by rw [← fl_append, fl_cons]
  rw [e3, ← hv]
  simp only [List.append_assoc]
end

section
variable {x : Cx} {l : Fr} {L S : List Ch} {Q : Exit → Act → World → Prop} {ops : Array Oper} {rest : List Oper} {d : Nat} {ty : TypeId} {pos : String} {af : Array Edge} {gd : Option (Nat × Bool)}
variable {α : Type} {enc : α → List Value} {xs : List α}
/-- The place of an element. -/
theorem y_ixm {y z : Operand} {A : Option Addr} {c k : Nat} {i : Int} {k0 : IntKind} {t e : TypeId} {agg : Bool} {sz bytes : Nat} {zv : Value} (h1 : x.P.underlying t = some (.slice e)) (he : TyI x.P e agg sz bytes zv) (hy : ev l y = some (.slice A xs.length c)) (hz : ev l z = some (.int k0 i))
    (hr : ∀ w, Hp x.ok0 x.w0 L S w → RsP A xs.length sz (fl enc xs) w) (hk : i = (k : Int)) (hlt : k < xs.length) : Yv x l L S ⟨some d, .indexAddr t y z, ty, pos, af, gd⟩ (.pointer (some ⟨Ab A, Ao A + k * sz, none⟩)) := y_ix h1 he hy hz hr hk hlt
/-- One cell of an element. -/
theorem y_ldm {t : TypeId} {sz' bytes : Nat} {z : Value} {y : Operand} {A : Option Addr} {sz k : Nat} {v : Value} (f : Nat) (hE : Enc enc sz) (dflt : α) (ht : TyI x.P t false sz' bytes z) (hy : ev l y = some (.pointer (some ⟨Ab A, Ao A + k * sz + f, none⟩))) (hr : ∀ w, Hp x.ok0 x.w0 L S w → RsP A xs.length sz (fl enc xs) w) (hk : k < xs.length) (hf : Nat.blt f sz = true)
    (hv : (enc (xs.getD k dflt))[f]? = some v) : Yv x l L S ⟨some d, .load t y, ty, pos, af, gd⟩ v :=
  y_ld ht hy hr hk (by rw [fl_get hE.len xs dflt hk (Nat.le_of_ble_eq_true hf)]; exact hv)
theorem y_ldm0 {t : TypeId} {sz' bytes : Nat} {z : Value} {y : Operand} {A : Option Addr} {sz k : Nat} {v : Value} (hE : Enc enc sz) (dflt : α) (ht : TyI x.P t false sz' bytes z) (hy : ev l y = some (.pointer (some ⟨Ab A, Ao A + k * sz, none⟩))) (hr : ∀ w, Hp x.ok0 x.w0 L S w → RsP A xs.length sz (fl enc xs) w) (hk : k < xs.length) (hf : Nat.blt 0 sz = true)
    (hv : (enc (xs.getD k dflt))[0]? = some v) : Yv x l L S ⟨some d, .load t y, ty, pos, af, gd⟩ v := y_ldm 0 hE dflt ht hy hr hk hf hv
/-- Several cells of an element. -/
theorem y_ldsm {t : TypeId} {m bytes : Nat} {z : Value} {y : Operand} {A : Option Addr} {sz k : Nat} {vs : List Value} (f : Nat) (hE : Enc enc sz) (dflt : α) (ht : TyI x.P t true m bytes z) (hy : ev l y = some (.pointer (some ⟨Ab A, Ao A + k * sz + f, none⟩))) (hr : ∀ w, Hp x.ok0 x.w0 L S w → RsP A xs.length sz (fl enc xs) w) (hk : k < xs.length) (hf : Nat.ble (f + m) sz = true)
    (hv : ((enc (xs.getD k dflt)).drop f).take m = vs) (hl : vs.length = m) : Yv x l L S ⟨some d, .load t y, ty, pos, af, gd⟩ (.agg vs.toArray) :=
  y_lds ht hy hr hk (by rw [fl_sub hE.len xs dflt hk (Nat.le_of_ble_eq_true hf)]; exact hv) hl
theorem y_ldsm0 {t : TypeId} {m bytes : Nat} {z : Value} {y : Operand} {A : Option Addr} {sz k : Nat} {vs : List Value} (hE : Enc enc sz) (dflt : α) (ht : TyI x.P t true m bytes z) (hy : ev l y = some (.pointer (some ⟨Ab A, Ao A + k * sz, none⟩))) (hr : ∀ w, Hp x.ok0 x.w0 L S w → RsP A xs.length sz (fl enc xs) w) (hk : k < xs.length) (hf : Nat.ble (0 + m) sz = true)
    (hv : ((enc (xs.getD k dflt)).drop 0).take m = vs) (hl : vs.length = m) : Yv x l L S ⟨some d, .load t y, ty, pos, af, gd⟩ (.agg vs.toArray) := y_ldsm 0 hE dflt ht hy hr hk hf hv hl
/-- A store into an element. -/
theorem o_stm {t e : TypeId} {agg : Bool} {m bytes : Nat} {z : Value} {y u : Operand} {A : Option Addr} {c sz k : Nat} {vs : List Value} {v : Value} {L' : List Ch} {i : Nat} (f : Nat) (hE : Enc enc sz) (dflt : α) (a : α) (ht : TyI x.P t agg m bytes z) (hy : ev l y = some (.pointer (some ⟨Ab A, Ao A + k * sz + f, none⟩))) (hu : ev l u = some v) (hvs : v.cells = vs.toArray)
    (hi : SetAt L i (Ch.ls A c e sz enc xs) (Ch.ls A c e sz enc (xs.set k a)) L') (hl : vs.length = m) (hk : k < xs.length) (hf : Nat.ble (f + m) sz = true) (hv : (enc (xs.getD k dflt)).take f ++ vs ++ (enc (xs.getD k dflt)).drop (f + m) = enc a) (hone : vs.all Value.oneCell' = true)
    (kk : WL x l L' S ops rest Q) : WL x l L S ops (⟨none, .store t y u, ty, pos, af, none⟩ :: rest) Q := by
  have hi' : SetAt L i (Ch.sl A xs.length c e sz (fl enc xs)) (Ch.sl A xs.length c e sz (fl enc (xs.set k a))) L' := by simpa only [Ch.ls, List.length_set] using hi
  exact o_stl (k := k) (f := f) ht hy hu hvs hi' hl hk (Nat.le_of_ble_eq_true hf) (fl_set hE.len xs dflt a hk (Nat.le_of_ble_eq_true hf) hv) hone kk
theorem o_stm0 {t e : TypeId} {agg : Bool} {m bytes : Nat} {z : Value} {y u : Operand} {A : Option Addr} {c sz k : Nat} {vs : List Value} {v : Value} {L' : List Ch} {i : Nat} (hE : Enc enc sz) (dflt : α) (a : α) (ht : TyI x.P t agg m bytes z) (hy : ev l y = some (.pointer (some ⟨Ab A, Ao A + k * sz, none⟩))) (hu : ev l u = some v) (hvs : v.cells = vs.toArray)
    (hi : SetAt L i (Ch.ls A c e sz enc xs) (Ch.ls A c e sz enc (xs.set k a)) L') (hl : vs.length = m) (hk : k < xs.length) (hf : Nat.ble (0 + m) sz = true) (hv : (enc (xs.getD k dflt)).take 0 ++ vs ++ (enc (xs.getD k dflt)).drop (0 + m) = enc a) (hone : vs.all Value.oneCell' = true)
    (kk : WL x l L' S ops rest Q) : WL x l L S ops (⟨none, .store t y u, ty, pos, af, none⟩ :: rest) Q := o_stm 0 hE dflt a ht hy hu hvs hi hl hk hf hv hone kk
/-- append. -/
theorem o_appm {y u : Operand} {t tx e : TypeId} {agg : Bool} {sz bytes c i : Nat} {z v : Value} {A : Option Addr} {L' : Option Addr → Nat → List Ch} (ys : List α) (ht : x.P.underlying t = some (.slice e)) (he : TyI x.P e agg sz bytes z) (hz : Nat.beq z.cells.size sz = true)
    (hy : ev l y = some (.slice A xs.length c)) (hu : ev l u = some v) (hi : ∀ A' c', SetAt L i (Ch.ls A c e sz enc xs) (Ch.ls A' c' e sz enc (xs ++ ys)) (L' A' c')) (hs : ∀ w, Hp x.ok0 x.w0 L S w → Src x.P sz tx v ys.length (fl enc ys) w)
    (hb : (xs.length + ys.length) * bytes ≤ 140737488355328) (hm : xs.length + ys.length ≤ 9223372036854775807) (hN : Nat.blt d x.N = true)
    (k : ∀ A' c', WL x ((d, .slice A' (xs ++ ys).length c') :: l) (L' A' c') S ops rest Q) : WL x l L S ops (⟨some d, .call { callee := .builtin .append, args := #[y, u], argTypes := #[t, tx] }, ty, pos, af, none⟩ :: rest) Q :=
  o_append ht he hz hy hu (fun A' c' => by have := hi A' c'; simp only [Ch.ls, List.length_append] at this; exact this) hs (fl_append enc xs ys) hb hm hN (fun A' c' => by have := k A' c'; rw [List.length_append] at this; exact this)
/-- Read rows, by their places. -/
theorem rd_S {w : World} (i : Nat) {c : Ch} (h : S[i]? = some c) (hw : Hp x.ok0 x.w0 L S w) : c.P w ∧ ∀ b, c.ok b → b < w.heap.size := hw.rdS (List.mem_of_getElem? h)
theorem rd_L {w : World} (i : Nat) {c : Ch} (h : L[i]? = some c) (hw : Hp x.ok0 x.w0 L S w) : c.P w ∧ ∀ b, c.ok b → b < w.heap.size := hw.rdL (List.mem_of_getElem? h)
theorem rd_Ls {w : World} {A : Option Addr} {n c sz : Nat} {e : TypeId} {cs : List Value} (i : Nat) (h : L[i]? = some (Ch.sl A n c e sz cs)) (hw : Hp x.ok0 x.w0 L S w) : (Ch.rs A n sz cs).P w ∧ ∀ b, (Ch.rs A n sz cs).ok b → b < w.heap.size := rd_slrs (hw.rdL (List.mem_of_getElem? h))
theorem o_callr0 {g : Nat} {ys : List Operand} {tys : Array TypeId} {vs : List Value} {Sx : List Ch} {β : Type} {V : β → Value} (has : evs l ys = some vs) (hen : Enters x.P g) (hN : Nat.blt d x.N = true)
    (hc : RC x.P g vs.toArray Sx V (fun _ => [])) (hr : ∀ w, Hp x.ok0 x.w0 L S w → Rd Sx w)
    (k : ∀ o, WL x ((d, V o) :: l) L S ops rest Q) : WL x l L S ops (⟨some d, .call { callee := .value (.func g), args := ys.toArray, argTypes := tys }, ty, pos, af, none⟩ :: rest) Q := o_callr has hen hN hc hr k
theorem o_callr1 {g : Nat} {ys : List Operand} {tys : Array TypeId} {vs : List Value} {Sx : List Ch} {β : Type} {V : β → Value} {C : β → Ch} (has : evs l ys = some vs) (hen : Enters x.P g) (hN : Nat.blt d x.N = true)
    (hc : RC x.P g vs.toArray Sx V (fun o => [C o])) (hr : ∀ w, Hp x.ok0 x.w0 L S w → Rd Sx w)
    (k : ∀ o, WL x ((d, V o) :: l) (C o :: L) S ops rest Q) : WL x l L S ops (⟨some d, .call { callee := .value (.func g), args := ys.toArray, argTypes := tys }, ty, pos, af, none⟩ :: rest) Q := o_callr has hen hN hc hr k
theorem o_callr2 {g : Nat} {ys : List Operand} {tys : Array TypeId} {vs : List Value} {Sx : List Ch} {β : Type} {V : β → Value} {C D : β → Ch} (has : evs l ys = some vs) (hen : Enters x.P g) (hN : Nat.blt d x.N = true)
    (hc : RC x.P g vs.toArray Sx V (fun o => [C o, D o])) (hr : ∀ w, Hp x.ok0 x.w0 L S w → Rd Sx w)
    (k : ∀ o, WL x ((d, V o) :: l) (C o :: D o :: L) S ops rest Q) : WL x l L S ops (⟨some d, .call { callee := .value (.func g), args := ys.toArray, argTypes := tys }, ty, pos, af, none⟩ :: rest) Q := o_callr has hen hN hc hr k
/-- A function that reads alone, and hands back plain values. -/
theorem o_callq {g : Nat} {ys : List Operand} {tys : Array TypeId} {vs : List Value} {Sx : List Ch} {v : Value} (has : evs l ys = some vs) (hen : Enters x.P g) (hN : Nat.blt d x.N = true)
    (hc : RC x.P g vs.toArray Sx (fun _ : Unit => v) (fun _ => [])) (hr : ∀ w, Hp x.ok0 x.w0 L S w → Rd Sx w)
    (k : WL x ((d, v) :: l) L S ops rest Q) : WL x l L S ops (⟨some d, .call { callee := .value (.func g), args := ys.toArray, argTypes := tys }, ty, pos, af, none⟩ :: rest) Q := o_callr has hen hN hc hr (fun _ => k)
theorem set_all : ∀ (vs : List Value) (off i : Nat) (cs : Array Value), off + i + vs.length ≤ cs.size →
    ((vs.zipIdx i).foldl (fun cs (p : Value × Nat) => cs.setIfInBounds (off + p.2) p.1) cs).toList = cs.toList.take (off + i) ++ vs ++ cs.toList.drop (off + i + vs.length)
  | [], off, i, cs, _ => by simp
  | v :: r, off, i, cs, h => by
    have hlt : off + i < cs.size := by simp at h; omega
    simp only [List.zipIdx_cons, List.foldl_cons]
    rw [set_all r off (i + 1) _ (by simp at h ⊢; omega)]
    simp only [Array.toList_setIfInBounds, List.length_cons]
    rw [← Nat.add_assoc, List.take_set, List.drop_set_of_lt (by omega)]
    have : List.take (off + i + 1) cs.toList = List.take (off + i) cs.toList ++ [cs[off + i]] := by
      rw [List.take_succ_eq_append_getElem (by simpa using hlt)]; rfl
    rw [this, List.set_append_right _ _ (by simp; omega)]
    simp
    rw [show off + i - min (off + i) cs.size = 0 by omega, List.set_cons_zero]
    simp [show off + i + 1 + r.length = off + i + (r.length + 1) by omega]
/-- Parts one behind the other. -/
def dense : Nat → List Value → List (Nat × Value)
  | _, [] => []
  | i, v :: r => (i, v) :: dense (i + 1) r
theorem fill_dense (sz : Nat) : ∀ (vs : List Value) (k : Nat) (cs : Array Value), (∀ v ∈ vs, v.cells.size = sz) → cs.size = (k + vs.length) * sz →
    ∃ r, Instr.fill (fun i => some (i * sz, sz)) cs (dense k vs) = some r ∧ r.toList = cs.toList.take (k * sz) ++ (vs.map (fun v => v.cells.toList)).flatten
  | [], k, cs, _, hs => ⟨cs, rfl, by simp at hs ⊢; rw [List.take_of_length_le (by simp; omega)]⟩
  | v :: r, k, cs, hv, hs => by
    have h1 : v.cells.size = sz := hv v List.mem_cons_self
    have hlen : k * sz + sz ≤ cs.size := by
      rw [hs, List.length_cons, Nat.add_mul, Nat.add_mul]; omega
    have hset := set_all v.cells.toList (k * sz) 0 cs (by simpa [h1] using hlen)
    obtain ⟨cs', hcs'⟩ : ∃ cs', v.cells.zipIdx.foldl (fun cs (p : Value × Nat) => cs.setIfInBounds (k * sz + p.2) p.1) cs = cs' := ⟨_, rfl⟩
    have hl' : cs'.toList = cs.toList.take (k * sz) ++ v.cells.toList ++ cs.toList.drop (k * sz + sz) := by
      rw [← hcs', ← Array.foldl_toList, Array.toList_zipIdx]
      simpa [h1] using hset
    have hsz' : cs'.size = cs.size := by
      have := congrArg List.length hl'
      simp [h1] at this; omega
    obtain ⟨q, hq1, hq2⟩ := fill_dense sz r (k + 1) cs' (fun u hu => hv u (List.mem_cons_of_mem _ hu)) (by rw [hsz', hs, List.length_cons]; congr 1; omega)
    refine ⟨q, ?_, ?_⟩
    · simp only [dense, Instr.fill]
      rw [if_neg (by simp [h1]; omega)]
      rw [hcs']; exact hq1
    · have hm : min (k * sz) cs.size = k * sz := by omega
      rw [hq2, hl', List.map_cons, List.flatten_cons, Nat.add_mul, Nat.one_mul]
      rw [List.take_append_of_le_length (by simp [h1, hm]), List.take_of_length_le (by simp [h1, hm])]
      simp
/-- A slice of elements told one behind the other. -/
theorem o_bsl {t e : TypeId} {len : Nat} {parts : List (Nat × Operand)} {vs : List Value} {agg : Bool} {sz bytes : Nat} {z : Value} (ys : List α) (hE : Enc enc sz) (hu : x.P.underlying t = some (.slice e)) (he : TyI x.P e agg sz bytes z) (hsmall : Nat.ble (len * sz) 16777216 = true) (hlen0 : Nat.ble len 16777216 = true)
    (hp : evp l parts = some (dense 0 vs)) (hl : vs.length = len) (hv : vs.map (fun v => v.cells.toList) = ys.map enc) (hN : Nat.blt d x.N = true)
    (k : ∀ A, WL x ((d, .slice A ys.length ys.length) :: l) (Ch.ls A ys.length e sz enc ys :: L) S ops rest Q) : WL x l L S ops (⟨some d, .buildSlice t len parts.toArray, ty, pos, af, none⟩ :: rest) Q := by
  have hy : ys.length = len := by rw [← hl]; have := congrArg List.length hv; simpa using this.symm
  subst hy
  obtain ⟨r, h1, h2⟩ := fill_dense sz vs 0 ((Array.range (ys.length * sz)).map (z.cells[· % z.cells.size]!)) (fun v hv' => by
    have hm : v.cells.toList ∈ ys.map enc := by rw [← hv]; exact List.mem_map.2 ⟨v, hv', rfl⟩
    obtain ⟨a, _, ha⟩ := List.mem_map.1 hm
    rw [← Array.length_toList, ← ha]; exact hE.len a) (by simp [hl])
  have hr : r = (fl enc ys).toArray := by
    apply Array.ext'
    rw [h2, hv]; simp [fl]
  subst hr
  refine o_buildSlice (cells := fl enc ys) hlen0 hu he hsmall hp h1 ?_ (List.all_eq_true.2 (hE.ones ys)) hN k
  rw [fl_length hE.len]; exact Nat.beq_refl _
end
end Go.Proofs.Ytckfjfnkombelaa
