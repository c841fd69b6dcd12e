import Derived.Test.YtnpdgmoeoidppaaGreatLeQx
import Derived.Lib.ConvBytes
import Derived.Laws.BytesString
import Derived.Laws.MakeOwn
import Derived.Great.BuildSlice
/- Contracts with memory, append, slices that are made, octets. -/
namespace Go.Proofs.YtnpdgmoeoidppaaGreat
open Go.RowKit Go.Shelf
set_option linter.unusedVariables false
set_option linter.unusedSimpArgs false

/-! Contracts. -/
/-- What is read alone is there. -/
def Rd (Sx : List Ch) (w : World) : Prop := ∀ s ∈ Sx, s.P w ∧ ∀ b, s.ok b → b < w.heap.size
/-- Chunks laid since. -/
structure News (w w' : World) (C : List Ch) : Prop where
  own : ∀ c ∈ C, c.P w'
  rg : ∀ c ∈ C, ∀ b, c.ok b → w.heap.size ≤ b ∧ b < w'.heap.size
  dj : C.Pairwise fun c d => ∀ b, c.ok b → ¬ d.ok b
/-- A call that turns nothing that lay, and hands back what it has laid. -/
def RC (P : Program) (f : FuncId) (args : Array Value) (Sx : List Ch) {α : Type} (V : α → Value) (C : α → List Ch) : Prop :=
  ∀ w, Rd Sx w → Calls P f args w fun e w' => ∃ o, e = .returned (V o) ∧ Upd no w w' ∧ News w w' (C o)
/-- A call that turns one chunk. -/
def UC (P : Program) (f : FuncId) (args : Array Value) (Sx : List Ch) (c : Ch) {α : Type} (V : α → Value) (c' : α → Ch) : Prop :=
  ∀ w, c.P w → (∀ b, c.ok b → b < w.heap.size) → Rd Sx w → (∀ s ∈ Sx, ∀ b, c.ok b → ¬ s.ok b) →
    Calls P f args w fun e w' => ∃ o, e = .returned (V o) ∧ Upd c.ok w w' ∧ (c' o).P w' ∧ ∀ b, (c' o).ok b → c.ok b ∨ (w.heap.size ≤ b ∧ b < w'.heap.size)
theorem rc_pure {P : Program} {f : FuncId} {args : Array Value} {v : Value} (h : RC P f args [] (fun _ : Unit => v) (fun _ => [])) : eC P f args v := fun w => cN (h w nofun) fun e w' ⟨_, he, hu, _⟩ => ⟨he, hu⟩
theorem aY {w : World} : Rd [] w := nofun
theorem az {s : Ch} {Sx : List Ch} {w : World} (h : s.P w ∧ ∀ b, s.ok b → b < w.heap.size) (k : Rd Sx w) : Rd (s :: Sx) w := List.forall_mem_cons.2 ⟨h, k⟩

section
variable {ok0 : Nat → Prop} {w0 : World} {L S : List Ch} {w w' : World}
theorem Hp.news {C : List Ch} (h : Hp ok0 w0 L S w) (u : Upd no w w') (n : News w w' C) : Hp ok0 w0 (C ++ L) S w' := by
  have k := h.ext u
  refine ⟨k.base, ?_, ?_, ?_, ?_, k.sh, k.slt, ?_⟩
  · intro c hc; rcases List.mem_append.1 hc with hc | hc
    · exact n.own c hc
    · exact k.own c hc
  · intro c hc b hb; rcases List.mem_append.1 hc with hc | hc
    · exact (n.rg c hc b hb).2
    · exact k.lt c hc b hb
  · intro c hc b hb; rcases List.mem_append.1 hc with hc | hc
    · exact .inr (Nat.le_trans h.base.size (n.rg c hc b hb).1)
    · exact k.ge c hc b hb
  · refine List.pairwise_append.2 ⟨n.dj, k.dj, fun c hc d hd b hb hb' => ?_⟩
    have := (n.rg c hc b hb).1
    have := h.lt d hd b hb'
    omega
  · intro s hs d hd b hb hsb
    rcases List.mem_append.1 hd with hd | hd
    · have := (n.rg d hd b hb).1
      have := h.slt s hs b hsb
      omega
    · exact k.sdj s hs d hd b hb hsb
theorem Hp.toNews (h : Hp no w0 L S w) : News w0 w L := ⟨h.own, fun c hc b hb => ⟨(h.ge c hc b hb).elim False.elim id, h.lt c hc b hb⟩, h.dj⟩
theorem Hp.rdL (h : Hp ok0 w0 L S w) {c : Ch} (hc : c ∈ L) : c.P w ∧ ∀ b, c.ok b → b < w.heap.size := ⟨h.own c hc, h.lt c hc⟩
theorem Hp.rdS (h : Hp ok0 w0 L S w) {c : Ch} (hc : c ∈ S) : c.P w ∧ ∀ b, c.ok b → b < w.heap.size := ⟨h.sh c hc, h.slt c hc⟩
theorem Hp.rd (h : Hp ok0 w0 L S w) : Rd S w := fun s hs => h.rdS hs
theorem rd_slrs {A : Option Addr} {n c : Nat} {e : TypeId} {sz : Nat} {cs : List Value} (h : (Ch.sl A n c e sz cs).P w ∧ ∀ b, (Ch.sl A n c e sz cs).ok b → b < w.heap.size) :
    (Ch.rs A n sz cs).P w ∧ ∀ b, (Ch.rs A n sz cs).ok b → b < w.heap.size := ⟨SlP.rs h.1, fun b hb => h.2 b hb.2⟩
theorem Hp.startU {Sx : List Ch} {c : Ch} (hc : c.P w) (hl : ∀ b, c.ok b → b < w.heap.size) (h : Rd Sx w) (hd : ∀ s ∈ Sx, ∀ b, c.ok b → ¬ s.ok b) : Hp c.ok w [c] Sx w :=
  ⟨Upd.refl _ _, by simpa using hc, by simpa using hl, fun d hd b hb => .inl (by simp at hd; subst hd; exact hb), by simp, fun s hs => (h s hs).1, fun s hs => (h s hs).2, by simpa using hd⟩
end

/-- A function's contract out of its body's walk. -/
theorem bK {P : Program} {f : FuncId} {fn : Func} {c : Code} {args : List Value} {Sx : List Ch} {α : Type} {V : α → Value} {C : α → List Ch} (N : Nat) (hf : P.funcs[f]? = some fn) (hb : fn.body = some c) (hn : fn.ntmps = N) (hN : Nat.ble args.length N = true)
    (h : ∀ w, W ⟨P, none, N, [], no, w⟩ (frm 0 args) [] Sx c (np (bodyPost P fn fun e w' => ∃ o, e = .returned (V o) ∧ Upd no w w' ∧ News w w' (C o)))) : RC P f args.toArray Sx V C := fun w hw =>
  bT N hf hb hn hN (fun s hs => (hw s hs).1) (fun s hs => (hw s hs).2) (h w)
theorem rc_of_WM {P : Program} {f : FuncId} {fn : Func} {c : Code} {args : List Value} {Sx : List Ch} {α : Type} {V : α → Value} {C : α → List Ch} (N : Nat) (hf : P.funcs[f]? = some fn) (hb : fn.body = some c) (hn : fn.ntmps = N) (hN : Nat.ble args.length N = true)
    (h : ∀ w, W ⟨P, none, N, [], no, w⟩ (frm 0 args) [] Sx c (np (bodyPostM (fw none) 0 P fn fun e w' => ∃ o, e = .returned (V o) ∧ Upd no w w' ∧ News w w' (C o)))) : RC P f args.toArray Sx V C := fun w hw =>
  calls_of_WM N hf hb hn hN (fun s hs => (hw s hs).1) (fun s hs => (hw s hs).2) (h w)
theorem calls_of_WL {P : Program} {f : FuncId} {fn : Func} {c : Code} {args : List Value} {w : World} {R : Ending → World → Prop} {ok0 : Nat → Prop} {L S : List Ch} (N : Nat) (hf : P.funcs[f]? = some fn) (hb : fn.body = some c) (hn : fn.ntmps = N) (hN : Nat.ble args.length N = true)
    (hh : Hp ok0 w L S w) (h : W ⟨P, none, N, [], ok0, w⟩ (frm 0 args) L S c (np (bodyPost P fn R))) : Calls P f args.toArray w R := by
  refine (callsIn_wide (n := 0)).1 (callsIn_of_wp hf hb trivial ?_)
  refine Code.wpIn_mono np_sub (h _ w ⟨?_, rfl, ?_⟩ hh)
  · have := Nat.le_of_ble_eq_true hN
    simp [hn]; omega
  · exact kn_frm _ _ args 0 (fun j v hj => by simpa using hj)
theorem il {P : Program} {f : FuncId} {fn : Func} {cd : Code} {args : List Value} {Sx : List Ch} {c : Ch} {α : Type} {V : α → Value} {c' : α → Ch} (N : Nat) (hf : P.funcs[f]? = some fn) (hb : fn.body = some cd) (hn : fn.ntmps = N) (hN : Nat.ble args.length N = true)
    (h : ∀ w, W ⟨P, none, N, [], c.ok, w⟩ (frm 0 args) [c] Sx cd (np (bodyPost P fn fun e w' => ∃ o, e = .returned (V o) ∧ Upd c.ok w w' ∧ (c' o).P w' ∧ ∀ b, (c' o).ok b → c.ok b ∨ (w.heap.size ≤ b ∧ b < w'.heap.size)))) : UC P f args.toArray Sx c V c' := fun w hc hl hw hd =>
  calls_of_WL N hf hb hn hN (Hp.startU hc hl hw hd) (h w)
theorem Hp.uc {c : Ch} {w0 w : World} {S : List Ch} {d : Ch} {L : List Ch} (h : Hp c.ok w0 (d :: L) S w) : Upd c.ok w0 w ∧ d.P w ∧ ∀ b, d.ok b → c.ok b ∨ (w0.heap.size ≤ b ∧ b < w.heap.size) :=
  ⟨h.base, h.own d List.mem_cons_self, fun b hb => (h.ge d List.mem_cons_self b hb).imp id fun hh => ⟨hh, h.lt d List.mem_cons_self b hb⟩⟩

section
variable {x : Cx} {l : Fr} {L S : List Ch} {Q : Exit → Act → World → Prop} {ops : Array Oper} {rest : List Oper} {d : Nat} {ty : TypeId} {pos : String} {af : Array Edge} {gd : Option (Nat × Bool)}
theorem o_callr {g : Nat} {ys : List Operand} {tys : Array TypeId} {vs : List Value} {Sx : List Ch} {α : Type} {V : α → Value} {C : α → List Ch} (has : evs l ys = some vs) (hen : Enters x.P g) (hN : Nat.blt d x.N = true)
    (hc : RC x.P g vs.toArray Sx V C) (hr : ∀ w, Hp x.ok0 x.w0 L S w → Rd Sx w)
    (k : ∀ o, WL x ((d, V o) :: l) (C o ++ L) S ops rest Q) : WL x l L S ops (⟨some d, .call { callee := .value (.func g), args := ys.toArray, argTypes := tys }, ty, pos, af, none⟩ :: rest) Q :=
  o_callf V (fun o => C o ++ L) (fun _ => S) has hen hN (fun w hw => cN (hc w (hr w hw)) fun e w' ⟨o, he, hu, hn⟩ => ⟨o, he, hw.news hu hn⟩) k
theorem o_callvr {g : Operand} {f : Nat} {first cap : Array Value} {ys : List Operand} {tys : Array TypeId} {vs : List Value} {args : Array Value} {Sx : List Ch} {α : Type} {V : α → Value} {C : α → List Ch} (hg : ev l g = some (.func (.func f) first cap)) (has : evs l ys = some vs)
    (hargs : first ++ vs.toArray ++ cap = args) (hen : Enters x.P f) (hN : Nat.blt d x.N = true) (hc : RC x.P f args Sx V C) (hr : ∀ w, Hp x.ok0 x.w0 L S w → Rd Sx w)
    (k : ∀ o, WL x ((d, V o) :: l) (C o ++ L) S ops rest Q) : WL x l L S ops (⟨some d, .call { callee := .value g, args := ys.toArray, argTypes := tys }, ty, pos, af, none⟩ :: rest) Q :=
  o_callv V (fun o => C o ++ L) (fun _ => S) hg has hargs hen hN (fun w hw => cN (hc w (hr w hw)) fun e w' ⟨o, he, hu, hn⟩ => ⟨o, he, hw.news hu hn⟩) k
theorem f0 {g : Nat} {ys : List Operand} {tys : Array TypeId} {vs : List Value} {Sx : List Ch} {c : Ch} {α : Type} {V : α → Value} {c' : α → Ch} {L' : α → List Ch} {i : Nat} (has : evs l ys = some vs) (hen : Enters x.P g) (hN : Nat.blt d x.N = true)
    (hc : UC x.P g vs.toArray Sx c V c') (hi : ∀ o, SetAt L i c (c' o) (L' o)) (hm : c ∈ L) (hr : ∀ s ∈ Sx, s ∈ S)
    (k : ∀ o, WL x ((d, V o) :: l) (L' o) S ops rest Q) : WL x l L S ops (⟨some d, .call { callee := .value (.func g), args := ys.toArray, argTypes := tys }, ty, pos, af, none⟩ :: rest) Q :=
  o_callf V L' (fun _ => S) has hen hN (fun w hw => cN (hc w (hw.own _ hm) (hw.lt _ hm) (fun s hs => hw.rdS (hr s hs)) (fun s hs => hw.sdj s (hr s hs) _ hm)) fun e w' ⟨o, he, hu, hp, hb⟩ => ⟨o, he, hw.upd (hi o) hu hp hb⟩) k
/-! append. -/
theorem RsP.first {P : Program} {A : Option Addr} {n c sz : Nat} {cs : List Value} {w : World} (h : RsP A n sz cs w) : (Builtin.firstCells sz n (.slice A n c)).run P w = .ok cs.toArray w := by
  cases A with
  | none =>
    rcases h.at_ with h0 | ⟨b, o, e, _⟩
    · have hz : cs = [] := List.length_eq_zero_iff.1 (by rw [h.len, h0, Nat.zero_mul])
      rw [hz]; exact run_firstCells_none w _ _ _ _
    · cases e
  | some a =>
    refine run_firstCells_some w sz n a n c cs h.len ?_
    intro j v hj
    have hj' := (List.getElem?_eq_some_iff.1 hj).1
    rcases h.at_ with h0 | ⟨b, o, e, hc⟩
    · have := h.len; rw [h0, Nat.zero_mul] at this; omega
    · cases e
      have := (hc j hj').trans hj
      unfold Addr.add; split
      · rename_i h0; subst h0; simpa using this
      · exact this
theorem RsP.src {P : Program} {A : Option Addr} {n c sz : Nat} {tx e' : TypeId} {cs : List Value} {w : World} (hk : P.underlying tx = some (.slice e')) (h : RsP A n sz cs w) : Src P sz tx (.slice A n c) n cs w :=
  ⟨.inl ⟨e', hk⟩, fun _ => rfl, h.first, (show RsP A n sz cs w.drew from ⟨h.len, h.one, h.at_⟩).first, h.len, h.one⟩
theorem run_app {P : Program} {t tx ty e : TypeId} {agg : Bool} {sz bytes n c m : Nat} {z v : Value} {A : Option Addr} {cs news : List Value} {w : World} (ht : P.underlying t = some (.slice e)) (he : TyI P e agg sz bytes z) (hz : Nat.beq z.cells.size sz = true)
    (hP : SlP A n c e sz cs w) (hs : Src P sz tx v m news w) (hb : (n + m) * bytes ≤ 140737488355328) (hm : n + m ≤ 9223372036854775807) :
    ∃ A' c' w', (Builtin.append_ #[t, tx] ty #[.slice A n c, v]).run P w = .ok (.slice A' (n + m) c') w' ∧ SlP A' (n + m) c' e sz (cs ++ news) w' ∧ Upd (fun k => A.map (·.block) = some k) w w' ∧
      ∀ k, A'.map (·.block) = some k → A.map (·.block) = some k ∨ (w.heap.size ≤ k ∧ k < w'.heap.size) := by
  obtain ⟨i, hi1, hi2, hi3, hi4⟩ := he.inf
  subst hi3 hi4
  have hz' : z.cells.size = i.size := Nat.eq_of_beq_eq_true hz
  have hone : ∀ u ∈ cs ++ news, u.oneCell' = true := fun u hu => (List.mem_append.1 hu).elim (hP.one u) (hs.one u)
  have hlen : (cs ++ news).length = (n + m) * i.size := by rw [List.length_append, hP.len, hs.newsLen, Nat.add_mul]
  by_cases hroom : n + m ≤ c
  · rcases hP.at_ with ⟨rfl, rfl, rfl⟩ | ⟨g, cur, fz, rfl, hg, h1, h2, h3, h4, h5⟩
    · obtain rfl : m = 0 := by omega
      have hn : news = [] := List.length_eq_zero_iff.1 (by rw [hs.newsLen, Nat.zero_mul])
      subst hn
      have hcs : cs = [] := List.length_eq_zero_iff.1 (by rw [hP.len, Nat.zero_mul])
      subst hcs
      refine ⟨none, 0, w, ?_, SlP.nil e i.size w, Upd.refl _ _, fun k hk => by cases hk⟩
      have h2 := hs.cells
      rcases hs.kind with ⟨e', hk⟩ | hk <;> simp [Builtin.append_, run_underlying ht, run_underlying hk, sizeOf, typeInfo, hi1, hs.len, h2]
    · have hle : n * i.size + m * i.size ≤ cur.size := by
        have : (n + m) * i.size ≤ c * i.size := Nat.mul_le_mul_right _ hroom
        rw [Nat.add_mul] at this; omega
      have hnl := hs.newsLen
      have hr := run_append_room_src (P := P) w t tx ty e i ht hi1 g 0 n c v m news hs hroom (fun j hj => by simp [World.cell?, hg]; omega) (fun j hj => iU hg h5 (by omega))
      simp only [Nat.zero_add] at hr
      obtain ⟨cur', e1, e2, e3⟩ := eR news (n * i.size) w cur hg (by omega)
      have hsz : cur'.size = cur.size := by
        have := congrArg List.length e2
        simp at this; omega
      refine ⟨_, _, _, hr, ⟨hlen, hone, .inr ⟨g, cur', fz, rfl, e1, hroom, h2, by omega, ?_, fun o ho => h5 o (by omega)⟩⟩, e3.mono (fun k _ hk => by rw [hk]; rfl), fun k hk => .inl hk⟩
      rw [e2, h4]
      rw [List.take_append_of_le_length (by rw [hlen]; exact Nat.le_refl _), List.take_of_length_le (by rw [hlen]; exact Nat.le_refl _)]
  · have hg : c < n + m := by omega
    have hfit := growslice_fits (bytes := i.bytes) hg hb
    have hold : (Builtin.firstCells i.size n (.slice A n c)).run P w.drew = .ok cs.toArray w.drew := (show RsP A n i.size cs w.drew from ⟨hP.len, hP.rs.one, hP.rs.at_⟩).first
    have hr := run_append_grow_src (P := P) w t tx ty e i z ht hi1 hi2 A n c cs hold v m news hs hg (by omega) hfit
    have hge := grownCap_ge w (n + m) c e
    have hle := grownCap_le_maxLen w (n + m) c e (by unfold maxLen; omega)
    refine ⟨_, _, _, hr, ?_, ?_, ?_⟩
    · refine SlP.new (fz := (0, 0)) (World.alloc_heap_new w.drew _) hlen hone hge hle ?_ ?_ (fun o _ => by simp)
      · have h0 : ((n + m) * i.size + (grownCap w (n + m) c e - (n + m)) * i.size) = grownCap w (n + m) c e * i.size := by
          rw [← Nat.add_mul]; congr 1; omega
        simp only [Array.size_append, List.size_toArray, size_zeroCells, hlen, hz']
        omega
      · rw [Array.toList_append, List.toList_toArray, List.take_append_of_le_length (by rw [hlen]; exact Nat.le_refl _), List.take_of_length_le (by rw [hlen]; exact Nat.le_refl _)]
    · exact ((Upd.refl _ w).drew).trans (Upd.alloc w.drew _) (fun _ _ h => h.elim) |>.mono (fun _ _ h => h)
    · intro k hk
      cases hk
      exact .inr ⟨Nat.le_refl _, by simp⟩
/-- What is appended, of what the heap is known to hold. -/
theorem o_append {y u : Operand} {t tx e : TypeId} {agg : Bool} {sz bytes n c m i : Nat} {z v : Value} {A : Option Addr} {cs news cs' : List Value} {L' : Option Addr → Nat → List Ch} (ht : x.P.underlying t = some (.slice e)) (he : TyI x.P e agg sz bytes z) (hz : Nat.beq z.cells.size sz = true)
    (hy : ev l y = some (.slice A n c)) (hu : ev l u = some v) (hi : ∀ A' c', SetAt L i (Ch.sl A n c e sz cs) (Ch.sl A' (n + m) c' e sz cs') (L' A' c')) (hs : ∀ w, Hp x.ok0 x.w0 L S w → Src x.P sz tx v m news w) (hcs : cs ++ news = cs')
    (hb : (n + m) * bytes ≤ 140737488355328) (hm : n + m ≤ 9223372036854775807) (hN : Nat.blt d x.N = true)
    (k : ∀ A' c', WL x ((d, .slice A' (n + m) c') :: l) (L' A' c') S ops rest Q) : WL x l L S ops (⟨some d, .call { callee := .builtin .append, args := #[y, u], argTypes := #[t, tx] }, ty, pos, af, none⟩ :: rest) Q :=
  ig (fun p : Option Addr × Nat => .slice p.1 (n + m) p.2) (fun p => L' p.1 p.2) (fun _ => S) rfl rfl (fun _ => nofun) hN
    (fun a w ha hw => by
      subst hcs
      obtain ⟨A', c', w', hr, h1, h2, h3⟩ := run_app (ty := ty) ht he hz (hw.own _ (hi none 0).mem) (hs w hw) hb hm
      refine ⟨(A', c'), w', ?_, hw.upd (hi A' c') h2 h1 h3⟩
      simp only [execOp, resolve, invoke, builtin]
      simp [ha.ev hy, ha.ev hu, hr]) (fun p => k p.1 p.2)
theorem d5 {P : Program} {ok0 : Nat → Prop} {w0 : World} {A : Option Addr} {n c c' : Nat} {e : TypeId} {sz : Nat} {tx e' : TypeId} {cs : List Value} (i : Nat) (hk : P.underlying tx = some (.slice e')) (h : L[i]? = some (Ch.sl A n c e sz cs)) : ∀ w, Hp ok0 w0 L S w → Src P sz tx (.slice A n c') n cs w :=
  fun w hw => RsP.src hk (SlP.rs (hw.own _ (List.mem_of_getElem? h)))
theorem je {P : Program} {ok0 : Nat → Prop} {w0 : World} {A : Option Addr} {n c sz : Nat} {tx e' : TypeId} {cs : List Value} (i : Nat) (hk : P.underlying tx = some (.slice e')) (h : S[i]? = some (Ch.rs A n sz cs)) : ∀ w, Hp ok0 w0 L S w → Src P sz tx (.slice A n c) n cs w :=
  fun w hw => RsP.src hk (hw.sh _ (List.mem_of_getElem? h))
/-- Cells of elements, one behind the other. -/
def fl {α : Type} (enc : α → List Value) (xs : List α) : List Value := (xs.map enc).flatten
theorem i4 {α : Type} (enc : α → List Value) (xs ys : List α) : fl enc xs ++ fl enc ys = fl enc (xs ++ ys) := by simp [fl]
theorem fl_one {α : Type} (f : α → Value) : ∀ xs : List α, fl (fun a => [f a]) xs = xs.map f
  | [] => rfl
  | a :: r => by have := fl_one f r; simp only [fl, List.map_cons, List.flatten_cons] at this ⊢; rw [this]; rfl
theorem eD {α : Type} {enc : α → List Value} {sz : Nat} (h : ∀ a, (enc a).length = sz) : ∀ xs : List α, (fl enc xs).length = xs.length * sz
  | [] => by simp [fl]
  | a :: r => by
    have := eD h r
    simp only [fl, List.map_cons, List.flatten_cons, List.length_append, List.length_cons, h] at this ⊢
    rw [this, Nat.add_mul, Nat.one_mul, Nat.add_comm]
def encb (b : UInt8) : List Value := [.int .u8 b.toNat]
abbrev bcs (s : a6) : List Value := fl encb s
theorem jk (s : a6) : bcs s = s.map fun b => Value.int .u8 b.toNat := fl_one _ s
theorem bcs_length (s : a6) : (bcs s).length = s.length := by rw [jk]; simp
theorem src_str {P : Program} {ok0 : Nat → Prop} {w0 : World} {tx : TypeId} {s : a6} (hk : P.underlying tx = some .string) : ∀ w, Hp ok0 w0 L S w → Src P 1 tx (.string (ba s)) s.length (bcs s) w := fun w _ => by rw [jk]; exact Src.ofString w hk (ba s)

/-! Slices that are made. -/
def evp (l : Fr) : List (Nat × Operand) → Option (List (Nat × Value))
  | [] => some []
  | (i, y) :: r => match ev l y with
    | some v => match evp l r with
      | some vs => some ((i, v) :: vs)
      | none => none
    | none => none
theorem Kn.evp {N : Nat} {ds : List Deferred} {l : Fr} {a : Act} (h : Kn N ds l a) : ∀ {ys : List (Nat × Operand)} {vs : List (Nat × Value)}, evp l ys = some vs → ys.map (fun p => (p.1, a.eval p.2)) = vs
  | [], vs, e => by cases e; rfl
  | (i, y) :: r, vs, e => by
    simp only [Go.Proofs.YtnpdgmoeoidppaaGreat.evp] at e
    split at e
    · rename_i v hv
      split at e
      · rename_i us hus
        cases e
        rw [List.map_cons, h.ev hv, h.evp hus]
      · cases e
    · cases e
theorem run_buildSlice' {P : Program} {w : World} {t e : TypeId} {len : Nat} {parts : Array (Nat × Value)} {cells : Array Value} {agg : Bool} {sz bytes : Nat} {z : Value} (hu : P.underlying t = some (.slice e)) (he : TyI P e agg sz bytes z) (hsmall : Nat.ble (len * sz) 16777216 = true)
    (h : Instr.fill (fun i => some (i * sz, sz)) ((Array.range (len * sz)).map (z.cells[· % z.cells.size]!)) parts.toList = some cells) :
    (Instr.buildSlice t len parts).run P w = .ok (.slice (some ⟨w.heap.size, 0, none⟩) len len) (w.alloc (.cells cells e)) := by
  obtain ⟨ie, h1, h2, h3, h4⟩ := he.inf
  subst h3
  have hs : ¬ len * ie.size > 2 ^ 24 := by have := Nat.le_of_ble_eq_true hsmall; omega
  by_cases hpos : len * ie.size = 0
  · rw [hpos] at h
    have hr0 : Array.range 0 = #[] := rfl
    rw [hr0, Array.map_empty] at h
    simp [Instr.buildSlice, run_underlying hu, sizeOf, typeInfo, zeroValue, h1, h2, hpos, newRow, hr0, h]
  · exact run_buildSlice w t e len parts cells ie z hu h1 h2 hs hpos h
theorem o_buildSlice {t e : TypeId} {len : Nat} (hlen0 : Nat.ble len 16777216 = true) {parts : List (Nat × Operand)} {vs : List (Nat × Value)} {cells : List Value} {agg : Bool} {sz bytes : Nat} {z : Value} (hu : x.P.underlying t = some (.slice e)) (he : TyI x.P e agg sz bytes z) (hsmall : Nat.ble (len * sz) 16777216 = true)
    (hp : evp l parts = some vs) (h : Instr.fill (fun i => some (i * sz, sz)) ((Array.range (len * sz)).map (z.cells[· % z.cells.size]!)) vs = some cells.toArray) (hl : Nat.beq cells.length (len * sz) = true) (hone : cells.all Value.oneCell' = true) (hN : Nat.blt d x.N = true)
    (k : ∀ A, WL x ((d, .slice A len len) :: l) (Ch.sl A len len e sz cells :: L) S ops rest Q) : WL x l L S ops (⟨some d, .buildSlice t len parts.toArray, ty, pos, af, none⟩ :: rest) Q :=
  ig (fun A => .slice A len len) (fun A => Ch.sl A len len e sz cells :: L) (fun _ => S) rfl rfl (fun _ => nofun) hN
    (fun a w ha hw => by
      have hv := ha.evp hp
      have hr := run_buildSlice' (w := w) (parts := vs.toArray) hu he hsmall h
      refine ⟨some ⟨w.heap.size, 0, none⟩, _, ?_, hw.fresh (Upd.alloc w (.cells cells.toArray e)) _ ?_ (fun b hb => by cases hb; exact Nat.le_refl _) (fun b hb => by cases hb; simp)⟩
      · have e1 : (parts.toArray.map fun (i, y) => (i, a.eval y)) = vs.toArray := by rw [List.map_toArray]; exact congrArg _ hv
        simp only [execOp]
        rw [e1]
        simp [hr]
      · have := Nat.le_of_ble_eq_true hsmall
        have hlen := Nat.eq_of_beq_eq_true hl
        refine SlP.new (World.alloc_heap_new w _) hlen (List.all_eq_true.1 hone) (Nat.le_refl _) ?_ (by simp [hlen]) (by simp [← hlen]) (fun o _ => by simp)
        have h16 : 16777216 ≤ maxLen := by decide
        exact Nat.le_trans (Nat.le_of_ble_eq_true hlen0) h16) k
theorem bP {t : TypeId} {parts : List (Nat × Operand)} {vs : List (Nat × Value)} {cells : List Value} (hp : evp l parts = some vs) (hb : x.P.built t vs = some cells.toArray) :
    Yv x l L S ⟨some d, .build t parts.toArray, ty, pos, af, gd⟩ (.agg cells.toArray) := fun a w ha hw => by
  have hv := ha.evp hp
  have e1 : (parts.toArray.map fun (i, y) => (i, a.eval y)) = vs.toArray := by rw [List.map_toArray]; exact congrArg _ hv
  simp only [execOp]
  rw [e1]
  simp [run_build w t vs.toArray cells.toArray hb]
/-! Octets. -/
theorem o_s2b {t1 t2 e : TypeId} {y : Operand} {s : a6} (h1 : x.P.underlying t1 = some .string) (h2 : x.P.underlying t2 = some (.slice e)) (he : x.P.underlying e = some (.int .u8)) (hs : s.length ≤ 9223372036854775807) (hy : ev l y = some (.string (ba s))) (hN : Nat.blt d x.N = true)
    (k : ∀ A c, WL x ((d, .slice A s.length c) :: l) (Ch.sl A s.length c e 1 (bcs s) :: L) S ops rest Q) : WL x l L S ops (⟨some d, .convert t1 t2 y, ty, pos, af, none⟩ :: rest) Q :=
  ig (fun p : Option Addr × Nat => .slice p.1 s.length p.2) (fun p => Ch.sl p.1 s.length p.2 e 1 (bcs s) :: L) (fun _ => S) rfl rfl (fun _ => nofun) hN
    (fun a w ha hw => by
      have hr := Lib.run_convert_string_bytes (P := x.P) w t1 t2 e (ba s) h1 h2 he
      have hge := grownCap_ge w s.length 0 e
      have hle := grownCap_le_maxLen w s.length 0 e (by unfold maxLen; omega)
      have hsz : (Lib.bytesCells w e (ba s)).size = grownCap w s.length 0 e := by
        simp [Lib.bytesCells]
        have : (ba s).size = s.length := rfl
        rw [this]; omega
      have hupd : Upd no w (Lib.bytesWorld w e (ba s)) := ⟨rfl, rfl, rfl, by rw [Lib.bytesWorld_size]; omega, fun k hk _ => Lib.bytesWorld_at_old w e _ k hk, by first | exact Nat.le_succ _ | exact Nat.le_refl _ | (unfold Lib.bytesWorld; exact Nat.le_succ _) | (unfold Lib.bytesWorld; split <;> first | exact Nat.le_succ _ | exact Nat.le_refl _)⟩
      refine ⟨(some ⟨w.heap.size, 0, none⟩, grownCap w s.length 0 e), Lib.bytesWorld w e (ba s), ?_, hw.fresh hupd (Ch.sl (some ⟨w.heap.size, 0, none⟩) s.length (grownCap w s.length 0 e) e 1 (bcs s)) ?_ (fun b hb => by cases hb; exact Nat.le_refl _) (fun b hb => by cases hb; show w.heap.size < (Lib.bytesWorld w e (ba s)).heap.size; rw [Lib.bytesWorld_size]; omega)⟩
      · simp only [execOp]
        rw [ha.ev hy]
        simp [hr]
        exact ⟨rfl, rfl⟩
      · refine SlP.new (Lib.bytesWorld_at_new w e (ba s)) (by simp [jk]) ?_ hge hle (by rw [hsz]; omega) ?_ (fun o ho => by omega)
        · intro u hu
          rw [jk] at hu
          obtain ⟨_, _, rfl⟩ := List.mem_map.1 hu
          rfl
        · simp [Lib.bytesCells, jk]) (fun p => k p.1 p.2)
theorem push_all : ∀ (s : a6) (acc : ByteArray), (s.map fun b => (b.toNat : Int)).foldl (fun r n => r.push (UInt8.ofNat n.toNat)) acc = ba (acc.data.toList ++ s)
  | [], acc => by simp
  | b :: r, acc => by
    rw [List.map_cons, List.foldl_cons, push_all r]
    simp
theorem y_b2s {t1 t2 e : TypeId} {y : Operand} {A : Option Addr} {n c : Nat} {s : a6} (h1 : x.P.underlying t1 = some (.slice e)) (h2 : x.P.underlying t2 = some .string) (he : x.P.underlying e = some (.int .u8)) (hy : ev l y = some (.slice A n c)) (hr : ∀ w, Hp x.ok0 x.w0 L S w → RsP A n 1 (bcs s) w) :
    Yv x l L S ⟨some d, .convert t1 t2 y, ty, pos, af, gd⟩ (.string (ba s)) := fun a w ha hw => by
  have h := hr w hw
  have e0 := run_convert_bytes_string (P := x.P) w t1 t2 e A n c h1 he h2
  simp only [execOp, ha.ev hy]
  have hn : s.length = n := by have := h.len; rw [bcs_length] at this; omega
  rcases h.at_ with h0 | ⟨b, off, rfl, hc⟩
  · subst h0
    have hs : s = [] := List.length_eq_zero_iff.1 hn
    subst hs
    cases A with
    | none =>
      have : (Conv.bytesToString (.slice none 0 c)).run x.P w = .ok (.string .empty) w := by simp [Conv.bytesToString]
      simp [e0, this]
      rfl
    | some q =>
      have := run_bytesToString (P := x.P) w q 0 c [] (run_loadCells_list w q [] (fun j v hj => by cases hj))
      simp [e0, this]
      rfl
  · have hl : (loadCells ⟨b, off, none⟩ n).run x.P w = .ok ((s.map fun b => (b.toNat : Int)).map (Value.int .u8)).toArray w := by
      have := run_loadCells_list (P := x.P) w ⟨b, off, none⟩ (bcs s) (fun j v hj => by
        have := (hc j (List.getElem?_eq_some_iff.1 hj).1).trans hj
        unfold Addr.add; split
        · rename_i h0; subst h0; simpa using this
        · exact this)
      rw [bcs_length, hn] at this
      rw [this]
      simp [jk, Function.comp_def]
    have := run_bytesToString (P := x.P) w ⟨b, off, none⟩ n c _ hl
    rw [push_all] at this
    simp [e0, this]
end
end Go.Proofs.YtnpdgmoeoidppaaGreat

/- A range over a function: iterators' contracts, calls of yield, the statement. -/
namespace Go.Proofs.YtnpdgmoeoidppaaGreat
open Go.RowKit Go.Shelf
set_option linter.unusedVariables false
set_option linter.unusedSimpArgs false

/-- A round, as the iterator's own walk meets it: chunk C g turns to some C g'. -/
def Yd (P : Program) (lr : Nat) (args : Array Value) (Sc : List Ch) {σ : Type} (C : σ → Ch) (g : σ) (It Ix : σ → Prop) : Prop :=
  ∀ W1, (C g).P W1 → (∀ b, (C g).ok b → b < W1.heap.size) → Rd Sc W1 → (∀ s ∈ Sc, ∀ b, (C g).ok b → ¬ s.ok b) →
    YieldAt (fw none) 0 P lr args W1 fun e W' => ∃ g', Upd (C g).ok W1 W' ∧ (C g').P W' ∧ (∀ b, (C g').ok b → (C g).ok b ∨ (W1.heap.size ≤ b ∧ b < W'.heap.size)) ∧
      ((e = .returned (.bool true) ∧ It g') ∨ (e = .returned (.bool false) ∧ Ix g'))
/-- The function gf, with what its closure holds, is an iterator: it yields each of xs, one behind the other, and stops where it is told so. -/
def Iter (P : Program) (gf : FuncId) (lb : List Value) (Sx : List Ch) {α : Type} (enc : α → List Value) (xs : List α) : Prop :=
  ∀ (lr : Nat) (σ : Type) (I Ix : List α → σ → Prop) (C : σ → Ch) (Sc : List Ch),
    (∀ pre x post g, xs = pre ++ x :: post → I pre g → Yd P lr (enc x).toArray Sc C g (I (pre ++ [x])) (Ix (pre ++ [x]))) →
    ∀ g, I [] g → UC P gf (.func (.yield lr) #[] #[] :: lb).toArray (Sx ++ Sc) (C g)
      (fun o : {p : Value × σ // I xs p.2 ∨ ∃ pre post, xs = pre ++ post ∧ Ix pre p.2} => o.1.1) (fun o => C o.1.2)

section
variable {x : Cx} {l : Fr} {L S : List Ch} {Q : Exit → Act → World → Prop} {ops : Array Oper} {rest : List Oper} {d : Nat} {ty : TypeId} {pos : String} {af : Array Edge}
/-- A call of yield. -/
theorem iQ {gop : Operand} {ys : List Operand} {tys : Array TypeId} {vs : List Value} {lr i : Nat} {Sc : List Ch} {σ : Type} {C : σ → Ch} {g : σ} {It Ix : σ → Prop} {L' : σ → List Ch} (hg : ev l gop = some (.func (.yield lr) #[] #[])) (has : evs l ys = some vs)
    (hy : Yd x.P lr vs.toArray Sc C g It Ix) (hi : ∀ g', SetAt L i (C g) (C g') (L' g')) (hr : ∀ s ∈ Sc, s ∈ S) (hN : Nat.blt d x.N = true)
    (kt : ∀ g', It g' → WL x ((d, .bool true) :: l) (L' g') S ops rest Q) (kf : ∀ g', Ix g' → WL x ((d, .bool false) :: l) (L' g') S ops rest Q) :
    WL x l L S ops (⟨some d, .call { callee := .value gop, args := ys.toArray, argTypes := tys }, ty, pos, af, none⟩ :: rest) Q :=
  iX rfl (fun _ => nofun) fun a w ha hw => by
    have hm := (hi g).mem
    obtain ⟨fn, tmps, assign, body, h1, h2⟩ := hy w (hw.own _ hm) (hw.lt _ hm) (fun s hs => hw.rdS (hr s hs)) (fun s hs => hw.sdj s (hr s hs) _ hm)
    have e : (execOp a.eval ⟨some d, .call { callee := .value gop, args := ys.toArray, argTypes := tys }, ty, pos, af, none⟩).run x.P w = .ok (.round lr fn tmps assign body) w := by
      have e1 : (ys.map a.eval) = vs := ha.evs has
      simp [execOp, resolve, ha.ev hg, Deferred.ofValue, e1, invoke, h1]
    rw [e]
    refine ⟨fun h => by simp [fw_dep] at h, ?_⟩
    have h3 : RoundIn (fw x.ro) 0 x.P lr fn tmps assign body w _ := h2
    refine h3.mono ?_
    rintro e' w' ⟨g', hu, hp, hb, ⟨rfl, hI⟩ | ⟨rfl, hI⟩⟩
    · exact kt g' hI _ _ (ha.put (Nat.le_of_ble_eq_true hN) _) (hw.upd (hi g') hu hp hb)
    · exact kf g' hI _ _ (ha.put (Nat.le_of_ble_eq_true hN) _) (hw.upd (hi g') hu hp hb)

/-! The statement. -/
def Ch.all (L : List Ch) : Ch := ⟨fun b => ∃ c ∈ L, c.ok b, fun w => (∀ c ∈ L, c.P w) ∧ L.Pairwise (fun (c d : Ch) => ∀ b : Nat, c.ok b → ¬ d.ok b), fun w w' h hk => ⟨fun c hc => c.st w w' (h.1 c hc) fun b hb => hk b ⟨c, hc, hb⟩, h.2⟩⟩
theorem Hp.all {ok0 : Nat → Prop} {w0 : World} {L L' S : List Ch} {w w' : World} (h : Hp ok0 w0 L S w) (u : Upd (Ch.all L).ok w w') (hp : (Ch.all L').P w') (hb : ∀ b, (Ch.all L').ok b → (Ch.all L).ok b ∨ (w.heap.size ≤ b ∧ b < w'.heap.size)) : Hp ok0 w0 L' S w' := by
  refine ⟨h.base.trans u (fun k hk hck => ?_), hp.1, ?_, ?_, hp.2, ?_, ?_, ?_⟩
  · obtain ⟨c, hc, hck⟩ := hck
    rcases h.ge c hc k hck with h1 | h1
    · exact h1
    · omega
  · intro c hc b hcb
    rcases hb b ⟨c, hc, hcb⟩ with ⟨d, hd, hdb⟩ | h1
    · exact Nat.lt_of_lt_of_le (h.lt d hd b hdb) u.size
    · exact h1.2
  · intro c hc b hcb
    rcases hb b ⟨c, hc, hcb⟩ with ⟨d, hd, hdb⟩ | h1
    · exact h.ge d hd b hdb
    · exact .inr (Nat.le_trans h.base.size h1.1)
  · exact fun s hs => s.st w w' (h.sh s hs) fun b hb' => u.block b (h.slt s hs b hb') fun ⟨c, hc, hcb⟩ => h.sdj s hs c hc b hcb hb'
  · exact fun s hs b hb' => Nat.lt_of_lt_of_le (h.slt s hs b hb') u.size
  · intro s hs c hc b hcb hsb
    rcases hb b ⟨c, hc, hcb⟩ with ⟨d, hd, hdb⟩ | h1
    · exact h.sdj s hs d hd b hdb hsb
    · have := h.slt s hs b hsb; omega
theorem Hp.toAll {L L' S : List Ch} {w w' : World} (h : Hp (Ch.all L).ok w L' S w') : Upd (Ch.all L).ok w w' ∧ (Ch.all L').P w' ∧ ∀ b, (Ch.all L').ok b → (Ch.all L).ok b ∨ (w.heap.size ≤ b ∧ b < w'.heap.size) :=
  ⟨h.base, ⟨h.own, h.dj⟩, fun b ⟨c, hc, hb⟩ => (h.ge c hc b hb).imp id fun h1 => ⟨h1, h.lt c hc b hb⟩⟩
theorem Hp.startAll {L S : List Ch} {w : World} (hp : (Ch.all L).P w) (hl : ∀ b, (Ch.all L).ok b → b < w.heap.size) (hS : Rd S w) (hd : ∀ s ∈ S, ∀ b, (Ch.all L).ok b → ¬ s.ok b) : Hp (Ch.all L).ok w L S w :=
  ⟨Upd.refl _ _, hp.1, fun c hc b hb => hl b ⟨c, hc, hb⟩, fun c hc b hb => .inl ⟨c, hc, hb⟩, hp.2, fun s hs => (hS s hs).1, fun s hs => (hS s hs).2, fun s hs c hc b hb => hd s hs b ⟨c, hc, hb⟩⟩
theorem Hp.putObj {ok0 : Nat → Prop} {w0 : World} {L L' S : List Ch} {w : World} {i lr : Nat} {o o' : Obj} (h : Hp ok0 w0 L S w) (hi : SetAt L i (Ch.obj lr o) (Ch.obj lr o') L') : Hp ok0 w0 L' S (w.putObj lr o') := by
  have hl : w.heap[lr]? = some o := h.own _ hi.mem
  refine h.upd hi ⟨rfl, rfl, rfl, by simp, fun k _ hn => World.putObj_heap_other (fun e => hn e), Nat.le_refl _⟩ (World.putObj_heap_same (Array.getElem?_eq_some_iff.1 hl).1) (fun b hb => .inl hb)

def jQ : List Nat → List Value → Fr → Fr
  | p :: ps, v :: vs, l => jQ ps vs ((p, v) :: l)
  | _, _, l => l
theorem kn_zipfr {N : Nat} : ∀ (ps : List Nat) (vs : List Value) (l : Fr) (t : Array Value), ps.all (fun p => Nat.blt p N) = true → t.size = N → (∀ k v, look l k = some v → t[k]? = some v) →
    ((ps.zip vs).foldl (fun t (p, v) => t.setIfInBounds p v) t).size = N ∧ ∀ k v, look (jQ ps vs l) k = some v → ((ps.zip vs).foldl (fun t (p, v) => t.setIfInBounds p v) t)[k]? = some v
  | [], vs, l, t, _, hs, hk => by simpa [jQ] using ⟨hs, hk⟩
  | p :: ps, [], l, t, _, hs, hk => by simpa [jQ] using ⟨hs, hk⟩
  | p :: ps, v :: vs, l, t, hp, hs, hk => by
    simp only [List.all_cons, Bool.and_eq_true] at hp
    simp only [jQ, List.zip_cons_cons, List.foldl_cons]
    refine kn_zipfr ps vs _ _ hp.2 (by simp [hs]) fun k u hu => ?_
    simp only [look] at hu
    have hlt : p < t.size := by rw [hs]; exact Nat.le_of_ble_eq_true hp.1
    cases e : Nat.beq p k with
    | true =>
      rw [e] at hu; cases hu
      rw [← Nat.eq_of_beq_eq_true e]
      simp [hlt]
    | false =>
      rw [e] at hu
      rw [Array.getElem?_setIfInBounds_ne (Nat.ne_of_beq_eq_false e)]
      exact hk k u hu

/-- What is asked when the assignments ahead of a round have ended: the record is told busy, the body is walked. -/
def Qasg (P : Program) (lr : Nat) (body : Code) (Q : Exit → Act → World → Prop) : Exit → Act → World → Prop :=
  Exit.then (fun a₁ w₁ => ∃ w₂, (Instr.beginRound lr).run P w₁ = .ok () w₂ ∧ body.wpIn (fw (some lr)) 0 P Q a₁ w₂) (fun _ _ _ => False)
theorem e_begin {lr i : Nat} {r : Loop} {L' : List Ch} {body : Code} (hro : x.ro = some lr) (hrd : r.state = .ready) (hi : SetAt L i (Ch.obj lr (.loop r)) (Ch.obj lr (.loop { r with state := .busy })) L') (h : W x l L' S body Q) : E x l L S .normal (Qasg x.P lr body Q) := fun a w ha hw => by
  have hl : w.heap[lr]? = some (.loop r) := hw.own _ hi.mem
  exact ⟨_, run_beginRound hl hrd, hro ▸ h a _ ha (hw.putObj hi)⟩
/-- How a round may be left. -/
def Qr (x : Cx) (Bk : List Ch) {σ : Type} (It : σ → Prop) (Ij : Code → σ → Prop) (Lf : σ → List Ch) (S : List Ch) : Exit → Act → World → Prop
  | .normal, _, w => ∃ g', It g' ∧ Hp x.ok0 x.w0 (Bk ++ Lf g') S w
  | .ret, _, w => ∃ g', Ij .ret g' ∧ Hp x.ok0 x.w0 (Bk ++ Lf g') S w
  | .exit id, _, w => ∃ g', Ij (.exit id) g' ∧ Hp x.ok0 x.w0 (Bk ++ Lf g') S w
  | .goto t, _, w => ∃ g', Ij (.goto t) g' ∧ Hp x.ok0 x.w0 (Bk ++ Lf g') S w
  | .panic _, _, _ => False
  | .outgrown, _, _ => False
theorem fq {Bk : List Ch} {σ : Type} {It : σ → Prop} {Ij : Code → σ → Prop} {Lf : σ → List Ch} {S' : List Ch} (g' : σ) (h : It g') (hh : ∀ w, Hp x.ok0 x.w0 L S w → Hp x.ok0 x.w0 (Bk ++ Lf g') S' w) : E x l L S .normal (Qr x Bk It Ij Lf S') := fun _ w _ hw => ⟨g', h, hh w hw⟩
/-- The call of the iterator, the record being laid. -/
theorem range_core {P : Program} {N : Nat} {ds : List Deferred} {a : Act} {W1 : World} {ok0 : Nat → Prop} {w0 : World} {gf : FuncId} {lb : List Value} {Sx Bk : List Ch} {α : Type} {enc : α → List Value} {xs : List α} {lr : Nat} {r : Loop} {ps : List Nat} {σ : Type} {I : List α → σ → Prop} {Ij : Code → List α → σ → Prop} {Lf : σ → List Ch} {g0 : σ}
    (ha : Kn N ds l a) (hit : Iter P gf lb Sx enc xs) (hSx : ∀ s ∈ Sx, s ∈ S) (hw : Hp ok0 w0 (Ch.obj lr (.loop r) :: (Bk ++ Lf g0)) S W1)
    (hst : r.state = .ready) (hpe : r.pending = none) (htm : r.tmps = a.tmps) (hpa : r.params = ps.toArray) (hps : ps.all (fun p => Nat.blt p N) = true) (hen : ∀ e, (enc e).length = ps.length) (hI0 : I [] g0)
    (hbody : ∀ pre e post g, xs = pre ++ e :: post → I pre g → ∀ okb wb, W ⟨P, some lr, N, [], okb, wb⟩ (jQ ps (enc e) l) (Ch.obj lr (.loop r) :: (Bk ++ Lf g)) S r.assign
      (Qasg P lr r.body (Qr ⟨P, some lr, N, [], okb, wb⟩ (Ch.obj lr (.loop { r with state := .busy }) :: Bk) (I (pre ++ [e])) (fun c => Ij c (pre ++ [e])) Lf S))) :
    Calls P gf (.func (.yield lr) #[] #[] :: lb).toArray W1 fun e w3 => ∃ v, e = .returned v ∧ ∃ j g', Hp ok0 w0 (Ch.obj lr (.loop { r with state := if Option.isNone j then .ready else .done, pending := j }) :: (Bk ++ Lf g')) S w3 ∧
      (match j with
       | none => I xs g'
       | some c => ∃ pre post, xs = pre ++ post ∧ Ij c pre g') := by
  obtain ⟨rec, hrec⟩ : ∃ rec : Option Code → Loop, rec = fun j => { r with state := if Option.isNone j then .ready else .done, pending := j } := ⟨_, rfl⟩
  have hr0 : rec none = r := by rw [hrec]; show ({ r with state := .ready, pending := none } : Loop) = r; rw [← hst, ← hpe]
  let C : Option Code × σ → Ch := fun p => Ch.all (Ch.obj lr (.loop (rec p.1)) :: (Bk ++ Lf p.2))
  have hC0 : C (none, g0) = Ch.all (Ch.obj lr (.loop r) :: (Bk ++ Lf g0)) := by show Ch.all _ = _; rw [hr0]
  have := hit lr (Option Code × σ) (fun pre p => p.1 = none ∧ I pre p.2) (fun pre p => ∃ c, p.1 = some c ∧ Ij c pre p.2) C S ?_ (none, g0) ⟨rfl, hI0⟩ W1
    (by rw [hC0]; exact ⟨hw.own, hw.dj⟩) (by rw [hC0]; exact fun b ⟨c, hc, hb⟩ => hw.lt c hc b hb) (fun s hs => hw.rdS ((List.mem_append.1 hs).elim (hSx s) id)) (by rw [hC0]; exact fun s hs b ⟨c, hc, hb⟩ => hw.sdj s ((List.mem_append.1 hs).elim (hSx s) id) c hc b hb)
  · refine cN this ?_
    rintro e w3 ⟨⟨⟨v, j, g'⟩, ho⟩, rfl, hu, hp, hb⟩
    rw [hC0] at hu hb
    refine ⟨v, rfl, j, g', ?_, ?_⟩
    · have := hw.all (L' := Ch.obj lr (.loop (rec j)) :: (Bk ++ Lf g')) hu hp hb
      rw [hrec] at this
      exact this
    · rcases ho with ⟨h1, h2⟩ | ⟨pre, post, h1, c, h2, h3⟩
      · simp only at h1; subst h1; exact h2
      · simp only at h2; subst h2; exact ⟨pre, post, h1, h3⟩
  · rintro pre e post ⟨j, g⟩ hxs ⟨h1, hI⟩ w1 hp hl hR hd
    simp only at h1 hI
    subst h1
    have hC : C (none, g) = Ch.all (Ch.obj lr (.loop r) :: (Bk ++ Lf g)) := by show Ch.all _ = _; rw [hr0]
    rw [hC] at hp hl hd
    have hh := Hp.startAll hp hl hR hd
    have hrl : w1.heap[lr]? = some (.loop r) := hh.own _ List.mem_cons_self
    have hy := run_yield (P := P) (args := (enc e).toArray) hrl (by rw [hpa]; simpa using hen e)
    refine ⟨_, _, _, _, hy, roundIn_of_wpIn trivial ?_⟩
    have hkz := kn_zipfr (N := N) ps (enc e) l a.tmps hps ha.sz ha.kn
    have hz : (r.params.zip (enc e).toArray).foldl (fun t (x : Nat × Value) => t.setIfInBounds x.1 x.2) r.tmps = (ps.zip (enc e)).foldl (fun t (x : Nat × Value) => t.setIfInBounds x.1 x.2) a.tmps := by
      rw [hpa, htm]
      simp [List.zip_toArray]
    have hW := hbody pre e post g hxs hI (Ch.all (Ch.obj lr (.loop r) :: (Bk ++ Lf g))).ok w1
      { tmps := (ps.zip (enc e)).foldl (fun t (x : Nat × Value) => t.setIfInBounds x.1 x.2) a.tmps, defers := [] } w1 ⟨hkz.1, rfl, hkz.2⟩ hh
    have hW2 : r.assign.wpIn ((fw none).inRound lr) 0 P (Qasg P lr r.body (Qr ⟨P, some lr, N, [], (Ch.all (Ch.obj lr (.loop r) :: (Bk ++ Lf g))).ok, w1⟩ (Ch.obj lr (.loop { r with state := .busy }) :: Bk) (I (pre ++ [e])) (fun c => Ij c (pre ++ [e])) Lf S))
        { tmps := (r.params.zip (enc e).toArray).foldl (fun t (x : Nat × Value) => t.setIfInBounds x.1 x.2) r.tmps, defers := [] } w1 := by rw [hz]; exact hW
    refine Code.wpIn_mono ?_ hW2
    have fin : ∀ (jump : Option Code) (g' : σ) (w3 : World), Hp (Ch.all (Ch.obj lr (.loop r) :: (Bk ++ Lf g))).ok w1 (Ch.obj lr (.loop { r with state := .busy }) :: Bk ++ Lf g') S w3 →
        (Instr.endRound lr jump).run P w3 = .ok (.bool jump.isNone) (w3.putObj lr (.loop (rec jump))) ∧ Upd (C (none, g)).ok w1 (w3.putObj lr (.loop (rec jump))) ∧ (C (jump, g')).P (w3.putObj lr (.loop (rec jump))) ∧
        ∀ b, (C (jump, g')).ok b → (C (none, g)).ok b ∨ (w1.heap.size ≤ b ∧ b < (w3.putObj lr (.loop (rec jump))).heap.size) := fun jump g' w3 hw3 => by
      have hl3 : w3.heap[lr]? = some (.loop { r with state := .busy }) := hw3.own _ List.mem_cons_self
      have he := run_endRound (P := P) jump hl3
      have h4 := hw3.putObj (o' := .loop (rec jump)) SetAt.z
      rw [hC]
      refine ⟨?_, h4.toAll⟩
      rw [hrec]; exact he
    intro ex a1 w2 hq
    cases ex with
    | normal =>
      obtain ⟨w3, hbr, hb⟩ := hq
      refine ⟨w3, hbr, Code.wpIn_mono ?_ hb⟩
      intro e2 a3 w4 h
      cases e2 with
      | normal =>
        obtain ⟨g', h1, h2⟩ := h
        obtain ⟨f1, f2, f3, f4⟩ := fin none g' w4 h2
        exact ⟨_, _, f1, (none, g'), f2, f3, f4, .inl ⟨rfl, rfl, h1⟩⟩
      | ret =>
        obtain ⟨g', h1, h2⟩ := h
        obtain ⟨f1, f2, f3, f4⟩ := fin (some .ret) g' w4 h2
        exact ⟨_, _, f1, (some .ret, g'), f2, f3, f4, .inr ⟨rfl, .ret, rfl, h1⟩⟩
      | exit id =>
        obtain ⟨g', h1, h2⟩ := h
        obtain ⟨f1, f2, f3, f4⟩ := fin (some (.exit id)) g' w4 h2
        exact ⟨_, _, f1, (some (.exit id), g'), f2, f3, f4, .inr ⟨rfl, .exit id, rfl, h1⟩⟩
      | goto t =>
        obtain ⟨g', h1, h2⟩ := h
        obtain ⟨f1, f2, f3, f4⟩ := fin (some (.goto t)) g' w4 h2
        exact ⟨_, _, f1, (some (.goto t), g'), f2, f3, f4, .inr ⟨rfl, .goto t, rfl, h1⟩⟩
      | panic ch => exact h.elim
      | outgrown => exact h.elim
    | _ => exact hq.elim

/-- The statement, at an outermost loop. -/
theorem w_range {gop : Operand} {ps : List Nat} {assign body : Code} {gf : FuncId} {lb : List Value} {Sx : List Ch} {α : Type} {enc : α → List Value} {xs : List α} {σ : Type} (I : List α → σ → Prop) (Ij : Code → List α → σ → Prop) (Lf : σ → List Ch) (g0 : σ)
    (hro : x.ro = none) (hg : ev l gop = some (.func (.func gf) #[] lb.toArray)) (hen : Enters x.P gf) (hit : Iter x.P gf lb Sx enc xs) (hSx : ∀ s ∈ Sx, s ∈ S) (hps : ps.all (fun p => Nat.blt p x.N) = true) (henc : ∀ e, (enc e).length = ps.length) (hI0 : I [] g0) (hL : L = Lf g0)
    (hbody : ∀ pre e post g, xs = pre ++ e :: post → I pre g → ∀ lr D r, r.state = .ready → ∀ okb wb, W ⟨x.P, some lr, x.N, [], okb, wb⟩ (jQ ps (enc e) l) (Ch.obj lr (.loop r) :: Ch.obj D (.deferred (some [])) :: Lf g) S assign
      (Qasg x.P lr body (Qr ⟨x.P, some lr, x.N, [], okb, wb⟩ [Ch.obj lr (.loop { r with state := .busy }), Ch.obj D (.deferred (some []))] (I (pre ++ [e])) (fun c => Ij c (pre ++ [e])) Lf S)))
    (hdone : ∀ g D, I xs g → E ⟨x.P, none, x.N, { target := .collected D, args := #[] } :: x.ds, x.ok0, x.w0⟩ l (Ch.obj D (.deferred (some [])) :: Lf g) S .normal Q)
    (hstop : ∀ c pre post g D, xs = pre ++ post → Ij c pre g → W ⟨x.P, none, x.N, { target := .collected D, args := #[] } :: x.ds, x.ok0, x.w0⟩ l (Ch.obj D (.deferred (some [])) :: Lf g) S c Q) :
    W x l L S (.rangeFunc gop ps.toArray assign body) Q := fun a w ha hw => by
  subst hL
  refine wpIn_rangeFunc ?_
  intro fn hfn
  have hround : (fw x.ro).round = none := hro
  rw [hround]
  have h1 := hw.alloc (.deferred (some []))
  obtain ⟨r, hr⟩ : ∃ r : Loop, r = { state := .ready, pending := none, fn, tmps := a.tmps, params := ps.toArray, assign, body, defers := w.heap.size } := ⟨_, rfl⟩
  have h2 := h1.alloc (.loop r)
  have hsz : (w.alloc (.deferred (some []))).heap.size = w.heap.size + 1 := by simp
  rw [hsz] at h2
  rw [hr] at h2
  refine ⟨w.heap.size + 1, _, _, { target := .fn (.func gf) lb.toArray, args := #[.func (.yield (w.heap.size + 1)) #[] #[]] }, (w.alloc (.deferred (some []))).alloc (.loop { state := .ready, pending := none, fn, tmps := a.tmps, params := ps.toArray, assign, body, defers := w.heap.size }), gf, #[.func (.yield (w.heap.size + 1)) #[] #[]] ++ lb.toArray, (w.alloc (.deferred (some []))).alloc (.loop { state := .ready, pending := none, fn, tmps := a.tmps, params := ps.toArray, assign, body, defers := w.heap.size }), run_enterLoop_outer _ _ _ _ _, ?_, fun _ _ => trivial, ?_, fun h => by simp [fw_dep] at h, ?_⟩
  · simp [resolve, ha.ev hg, Deferred.ofValue]; rfl
  · simp [invoke, hen _ _]
  · have hc := range_core (Bk := [Ch.obj w.heap.size (.deferred (some []))]) ha hit hSx h2 rfl rfl rfl rfl hps henc hI0 (fun pre e post g hxs hI okb wb => hbody pre e post g hxs hI _ _ _ rfl okb wb)
    have e1 : (Value.func (.yield (w.heap.size + 1)) #[] #[] :: lb).toArray = #[.func (.yield (w.heap.size + 1)) #[] #[]] ++ lb.toArray := by simp
    rw [e1] at hc
    refine iN (cN hc ?_)
    rintro e w3 ⟨v, rfl, j, g', h3, hj⟩
    have hl3 := h3.own _ List.mem_cons_self
    refine ⟨j, _, run_endLoop hl3 (by cases j <;> simp), ?_⟩
    have h4 := (h3.putObj (o' := .loop { state := .exhausted, pending := j, fn, tmps := a.tmps, params := ps.toArray, assign, body, defers := w.heap.size }) SetAt.z).weak (List.sublist_cons_self _ _) (fun s hs => hs)
    have hkn : Kn x.N ({ target := .collected w.heap.size, args := #[] } :: x.ds) l { a with defers := [{ target := .collected w.heap.size, args := #[] }] ++ a.defers } := ⟨ha.sz, by simp [ha.df], ha.kn⟩
    cases j with
    | none => exact hdone g' _ hj _ _ hkn h4
    | some c =>
      obtain ⟨pre, post, hxs, hI⟩ := hj
      have := hstop c pre post g' _ hxs hI _ _ hkn h4
      rw [show fw x.ro = fw none by rw [hro]]
      exact this
end
end Go.Proofs.YtnpdgmoeoidppaaGreat
