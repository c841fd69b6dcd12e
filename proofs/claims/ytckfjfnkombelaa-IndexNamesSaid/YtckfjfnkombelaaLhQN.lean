/- Equality of pointers, slices; memory seen as octets; strings.Builder. -/
import Derived.Test.YtckfjfnkombelaaLgQN
import Derived.LaidEqlPtr
import Derived.Laws.Externs
import Derived.Lib.UnsafeStr
import Derived.Lib.Builder
namespace Go.Proofs.Ytckfjfnkombelaa
open Go.RowKit Go.Shelf
set_option linter.unusedVariables false
set_option linter.unusedSimpArgs false

section
variable {x : Cx} {l : Fr} {L S : List Ch} {Q : Exit → Act → World → Prop} {ops : Array Oper} {rest : List Oper} {d : Nat} {ty : TypeId} {pos : String} {af : Array Edge} {gd : Option (Nat × Bool)}
/-- An equality that the model settles so, whatever lies in memory. -/
def EqB (P : Program) (t : TypeId) (v u : Value) (b : Bool) : Prop := ∀ d w, (Op.equalIn (d + 1) t v u).run P w = .ok b w
def plainV : Value → Bool
  | .pointer _ => true
  | .slice _ _ _ => true
  | .func _ _ _ => true
  | .nilFunc => true
  | .map _ => true
  | _ => false
theorem y_eqg {y z : Operand} {v u : Value} {b : Bool} {yt zt : TypeId} (h : EqB x.P yt v u b) (hp : plainV v = true) (hy : ev l y = some v) (hz : ev l z = some u) :
    Yv x l L S ⟨some d, .binOp .eql yt y z zt, ty, pos, af, gd⟩ (.bool b) := fun a w ha hw => by
  simp only [execOp, ha.ev hy, ha.ev hz]
  have he : (Op.equal yt v u).run x.P w = .ok b w := h 9999 w
  cases v <;> simp [plainV] at hp <;> simp [eqGuard, binOp, he]
theorem y_neg {y z : Operand} {v u : Value} {b : Bool} {yt zt : TypeId} (h : EqB x.P yt v u b) (hp : plainV v = true) (hy : ev l y = some v) (hz : ev l z = some u) :
    Yv x l L S ⟨some d, .binOp .neq yt y z zt, ty, pos, af, gd⟩ (.bool (!b)) := fun a w ha hw => by
  simp only [execOp, ha.ev hy, ha.ev hz]
  have he : (Op.equal yt v u).run x.P w = .ok b w := h 9999 w
  cases v <;> simp [plainV] at hp <;> simp [eqGuard, binOp, he]
theorem eqb_pn {P : Program} {t e : TypeId} (h : P.underlying t = some (.pointer e)) (a : Option Addr) : EqB P t (.pointer a) (.pointer none) a.isNone := fun d w => by
  cases a <;> simp [Op.equalIn, run_underlying h]
theorem eqb_sn {P : Program} {t e : TypeId} (h : P.underlying t = some (.slice e)) (a : Option Addr) (n c : Nat) : EqB P t (.slice a n c) (.slice none 0 0) a.isNone := fun d w => by
  cases a <;> simp [Op.equalIn, run_underlying h]
theorem eqb_ps {P : Program} {t e : TypeId} {agg : Bool} {sz bytes : Nat} {z : Value} (h : P.underlying t = some (.pointer e)) (he : TyI P e agg sz bytes z) (a : Addr) : EqB P t (.pointer (some a)) (.pointer (some a)) true := fun d w => by
  obtain ⟨i, h1, h2, h3, h4⟩ := he.inf
  simp [Op.equalIn, run_underlying h, sizeOf, typeInfo, h1, run_sameAddr_same]
theorem y_eqp {y z : Operand} {a : Option Addr} {yt zt e : TypeId} (h : x.P.underlying yt = some (.pointer e)) (hy : ev l y = some (.pointer a)) (hz : ev l z = some (.pointer none)) :
    Yv x l L S ⟨some d, .binOp .eql yt y z zt, ty, pos, af, gd⟩ (.bool a.isNone) := y_eqg (eqb_pn h a) rfl hy hz
theorem y_neps {y z : Operand} {a : Addr} {yt zt e : TypeId} {agg : Bool} {sz bytes : Nat} {zv : Value} (h : x.P.underlying yt = some (.pointer e)) (he : TyI x.P e agg sz bytes zv) (hy : ev l y = some (.pointer (some a))) (hz : ev l z = some (.pointer (some a))) :
    Yv x l L S ⟨some d, .binOp .neq yt y z zt, ty, pos, af, gd⟩ (.bool false) := y_neg (eqb_ps h he a) rfl hy hz
theorem y_eqsn {y z : Operand} {A : Option Addr} {n c : Nat} {yt zt e : TypeId} (h : x.P.underlying yt = some (.slice e)) (hy : ev l y = some (.slice A n c)) (hz : ev l z = some (.slice none 0 0)) :
    Yv x l L S ⟨some d, .binOp .eql yt y z zt, ty, pos, af, gd⟩ (.bool A.isNone) := y_eqg (eqb_sn h A n c) rfl hy hz
/-! unsafe.Pointer and back. -/
theorem y_tou {y : Operand} {b n : Nat} {t1 t2 t e : TypeId} {agg : Bool} {sz bytes : Nat} {z : Value} (h1 : x.P.underlying t1 = some (.pointer t)) (h2 : x.P.underlying t2 = some .unsafePointer) (ht : TyI x.P t agg sz bytes z) (hz : Nat.beq sz 0 = false) (hn : 0 < n) (hy : ev l y = some (.pointer (some ⟨b, 0, none⟩)))
    (hs : ∀ w, Hp x.ok0 x.w0 L S w → w.shape? b = some (e, n)) : Yv x l L S ⟨some d, .convert t1 t2 y, ty, pos, af, gd⟩ (.pointer (some ⟨b, 0, none⟩)) := fun a w ha hw => by
  obtain ⟨i, e1, e2, e3, e4⟩ := ht.inf
  have := Lib.run_to_unsafe (P := x.P) w ⟨b, 0, none⟩ h1 h2 e1 (by rw [e3]; exact Nat.ne_of_beq_eq_false hz) (hs w hw) hn
  simp [execOp, ha.ev hy, this]
theorem y_fromu {y : Operand} {b n : Nat} {t1 t2 t e : TypeId} {agg : Bool} {sz bytes : Nat} {z : Value} (h1 : x.P.underlying t1 = some .unsafePointer) (h2 : x.P.underlying t2 = some (.pointer t)) (ht : TyI x.P t agg sz bytes z) (hlies : liesAt x.P x.P.depth e (n / x.P.cellsOf e) 0 t 1 = true) (hy : ev l y = some (.pointer (some ⟨b, 0, none⟩)))
    (hs : ∀ w, Hp x.ok0 x.w0 L S w → w.shape? b = some (e, n)) : Yv x l L S ⟨some d, .convert t1 t2 y, ty, pos, af, gd⟩ (.pointer (some ⟨b, 0, none⟩)) := fun a w ha hw => by
  obtain ⟨i, e1, e2, e3, e4⟩ := ht.inf
  have := Lib.run_from_unsafe (P := x.P) w ⟨b, 0, none⟩ h1 h2 e1 (hs w hw) hlies
  simp [execOp, ha.ev hy, this]
theorem shape_row {b : Nat} {cs : List Value} {T : TypeId} (i : Nat) (hi : L[i]? = some (Ch.row b cs T)) : ∀ w, Hp x.ok0 x.w0 L S w → w.shape? b = some (T, cs.length) := fun w hw => by
  have h : w.heap[b]? = some (.cells cs.toArray T (0, 0)) := hw.own _ (List.mem_of_getElem? hi)
  simp [World.shape?, h]
theorem shape_rown {b n : Nat} {cs : List Value} {T : TypeId} (i : Nat) (hi : L[i]? = some (Ch.row b cs T)) (hn : cs.length = n) : ∀ w, Hp x.ok0 x.w0 L S w → w.shape? b = some (T, n) := hn ▸ shape_row i hi
/-- A function that the machine stands in for. -/
theorem o_ext {g : Nat} {ys : List Operand} {tys : Array TypeId} {vs : List Value} {v : Value} (has : evs l ys = some vs) (hx : ∀ w, (callFunc g vs.toArray).run x.P w = .ok (.value v) w) (hN : Nat.blt d x.N = true)
    (k : WL x ((d, v) :: l) L S ops rest Q) : WL x l L S ops (⟨some d, .call { callee := .value (.func g), args := ys.toArray, argTypes := tys }, ty, pos, af, none⟩ :: rest) Q :=
  wl_val rfl rfl (fun _ => nofun) hN (fun a w ha hw => ⟨w, by
    have e1 : (ys.map a.eval) = vs := ha.evs has
    have e2 : a.eval (.func g) = .func (.func g) #[] #[] := ha.ev rfl
    simp [execOp, resolve, e2, Deferred.ofValue, e1, invoke, hx], hw⟩) k

/-! strings.Builder. -/
def Ch.bld (T e : TypeId) (b : Nat) (A : Option Addr) (c : Nat) (s : Str) : Ch :=
  ⟨fun k => k = b ∨ A.map (·.block) = some k, fun w => A.map (·.block) ≠ some b ∧ (∃ p : Value, (p = .pointer none ∨ p = .pointer (some ⟨b, 0, none⟩)) ∧ w.heap[b]? = some (.cells #[p, .slice A s.length c] T (0, 0))) ∧ SlP A s.length c e 1 (bcs s) w,
   fun w w' ⟨h0, ⟨p, h1, h2⟩, h3⟩ hk => ⟨h0, ⟨p, h1, (hk b (.inl rfl)).trans h2⟩, (Ch.sl A s.length c e 1 (bcs s)).st w w' h3 fun k h => hk k (.inr h)⟩⟩
theorem w_bldo {T e : TypeId} {b : Nat} {A : Option Addr} {c : Nat} {s : Str} {cd : Code} (h : ∀ p : Value, (p = .pointer none ∨ p = .pointer (some ⟨b, 0, none⟩)) → W x l (Ch.row b [p, .slice A s.length c] T :: Ch.sl A s.length c e 1 (bcs s) :: L) S cd Q) :
    W x l (Ch.bld T e b A c s :: L) S cd Q := fun a w ha hw => by
  obtain ⟨h0, ⟨p, h1, h2⟩, h3⟩ := hw.own _ List.mem_cons_self
  have hw' := hw
  refine h p h1 a w ha ⟨hw.base, ?_, ?_, ?_, ?_, hw.sh, hw.slt, ?_⟩
  · intro c hc
    simp only [List.mem_cons] at hc
    rcases hc with rfl | rfl | hc
    · exact h2
    · exact h3
    · exact hw.own c (List.mem_cons_of_mem _ hc)
  · intro c hc b hb
    simp only [List.mem_cons] at hc
    rcases hc with rfl | rfl | hc
    · exact hw.lt _ List.mem_cons_self b (.inl hb)
    · exact hw.lt _ List.mem_cons_self b (.inr hb)
    · exact hw.lt c (List.mem_cons_of_mem _ hc) b hb
  · intro c hc b hb
    simp only [List.mem_cons] at hc
    rcases hc with rfl | rfl | hc
    · exact hw.ge _ List.mem_cons_self b (.inl hb)
    · exact hw.ge _ List.mem_cons_self b (.inr hb)
    · exact hw.ge c (List.mem_cons_of_mem _ hc) b hb
  · have hd := List.pairwise_cons.1 hw.dj
    refine .cons ?_ (.cons ?_ hd.2)
    · intro c hc k hk hk'
      rcases List.mem_cons.1 hc with rfl | hc
      · exact h0 (by rw [← show k = b from hk]; exact hk')
      · exact hd.1 c hc k (.inl hk) hk'
    · exact fun c hc k hk => hd.1 c hc k (.inr hk)
  · intro s hs c hc k hk
    simp only [List.mem_cons] at hc
    rcases hc with rfl | rfl | hc
    · exact hw.sdj s hs _ List.mem_cons_self k (.inl hk)
    · exact hw.sdj s hs _ List.mem_cons_self k (.inr hk)
    · exact hw.sdj s hs c (List.mem_cons_of_mem _ hc) k hk
theorem Hp.bldc {ok0 : Nat → Prop} {w0 w : World} {T e : TypeId} {b n : Nat} {A : Option Addr} {c : Nat} {s : Str} {cs : List Value} {p : Value} (hp : p = .pointer none ∨ p = .pointer (some ⟨b, 0, none⟩)) (hn : n = s.length) (hcs : cs = bcs s) (hw : Hp ok0 w0 (Ch.row b [p, .slice A n c] T :: Ch.sl A n c e 1 cs :: L) S w) : Hp ok0 w0 (Ch.bld T e b A c s :: L) S w := by
  subst hn hcs
  have hd := List.pairwise_cons.1 hw.dj
  have hd2 := List.pairwise_cons.1 hd.2
  refine ⟨hw.base, ?_, ?_, ?_, .cons ?_ hd2.2, hw.sh, hw.slt, ?_⟩
  · intro c hc
    rcases List.mem_cons.1 hc with rfl | hc
    · exact ⟨fun h => hd.1 _ List.mem_cons_self b rfl h, ⟨p, hp, hw.own _ List.mem_cons_self⟩, hw.own _ (.tail _ List.mem_cons_self)⟩
    · exact hw.own c (.tail _ (.tail _ hc))
  · intro c hc k hk
    rcases List.mem_cons.1 hc with rfl | hc
    · rcases hk with hk | hk
      · exact hw.lt _ List.mem_cons_self k hk
      · exact hw.lt _ (.tail _ List.mem_cons_self) k hk
    · exact hw.lt c (.tail _ (.tail _ hc)) k hk
  · intro c hc k hk
    rcases List.mem_cons.1 hc with rfl | hc
    · rcases hk with hk | hk
      · exact hw.ge _ List.mem_cons_self k hk
      · exact hw.ge _ (.tail _ List.mem_cons_self) k hk
    · exact hw.ge c (.tail _ (.tail _ hc)) k hk
  · intro c hc k hk
    rcases hk with hk | hk
    · exact hd.1 c (.tail _ hc) k hk
    · exact hd2.1 c hc k hk
  · intro s hs c hc k hk
    rcases List.mem_cons.1 hc with rfl | hc
    · rcases hk with hk | hk
      · exact hw.sdj s hs _ List.mem_cons_self k hk
      · exact hw.sdj s hs _ (.tail _ List.mem_cons_self) k hk
    · exact hw.sdj s hs c (.tail _ (.tail _ hc)) k hk
/-- A row of two cells is a new builder. -/
theorem Hp.bldn {ok0 : Nat → Prop} {w0 w : World} {T : TypeId} {b : Nat} (e : TypeId) (hw : Hp ok0 w0 (Ch.row b [.pointer none, .slice none 0 0] T :: L) S w) : Hp ok0 w0 (Ch.bld T e b none 0 [] :: L) S w := by
  have hd := List.pairwise_cons.1 hw.dj
  have hsl : Hp ok0 w0 (Ch.row b [.pointer none, .slice none 0 0] T :: Ch.sl none 0 0 e 1 [] :: L) S w :=
    ⟨hw.base, by
      intro c hc
      simp only [List.mem_cons] at hc
      rcases hc with rfl | rfl | hc
      · exact hw.own _ List.mem_cons_self
      · exact SlP.nil e 1 w
      · exact hw.own c (.tail _ hc), by
      intro c hc k hk
      simp only [List.mem_cons] at hc
      rcases hc with rfl | rfl | hc
      · exact hw.lt _ List.mem_cons_self k hk
      · cases hk
      · exact hw.lt c (.tail _ hc) k hk, by
      intro c hc k hk
      simp only [List.mem_cons] at hc
      rcases hc with rfl | rfl | hc
      · exact hw.ge _ List.mem_cons_self k hk
      · cases hk
      · exact hw.ge c (.tail _ hc) k hk, by
      refine .cons ?_ (.cons (fun c hc k hk => by cases hk) hd.2)
      intro c hc k hk hk'
      rcases List.mem_cons.1 hc with rfl | hc
      · cases hk'
      · exact hd.1 c hc k hk hk', hw.sh, hw.slt, by
      intro s hs c hc k hk
      simp only [List.mem_cons] at hc
      rcases hc with rfl | rfl | hc
      · exact hw.sdj s hs _ List.mem_cons_self k hk
      · cases hk
      · exact hw.sdj s hs c (.tail _ hc) k hk⟩
  exact Hp.bldc (.inl rfl) rfl rfl hsl
/-- A row of a slice's own, frozen or not. -/
structure SfP (A : Option Addr) (n c : Nat) (e : TypeId) (cs : List Value) (w : World) : Prop where
  len : cs.length = n
  at_ : (A = none ∧ n = 0 ∧ c = 0) ∨ ∃ g cur fz, A = some ⟨g, 0, none⟩ ∧ w.heap[g]? = some (.cells cur e fz) ∧ n ≤ c ∧ c ≤ maxLen ∧ c ≤ cur.size ∧ cur.toList.take n = cs
def Ch.sf (A : Option Addr) (n c : Nat) (e : TypeId) (cs : List Value) : Ch :=
  ⟨fun k => A.map (·.block) = some k, SfP A n c e cs, fun w w' h hk => ⟨h.len, h.at_.imp id fun ⟨g, cur, fz, hA, hg, r⟩ => ⟨g, cur, fz, hA, (hk g (by rw [hA]; rfl)).trans hg, r⟩⟩⟩
theorem SlP.sf {A : Option Addr} {n c : Nat} {e : TypeId} {cs : List Value} {w : World} (h : SlP A n c e 1 cs w) : SfP A n c e cs w :=
  ⟨by simpa using h.len, h.at_.imp id fun ⟨g, cur, fz, hA, hg, h1, h2, h3, h4, _⟩ => ⟨g, cur, fz, hA, hg, h1, h2, by simpa using h3, by simpa using h4⟩⟩
theorem w_sf {a : Ch} {A : Option Addr} {n c : Nat} {e : TypeId} {cs : List Value} {cd : Code} (h : W x l (a :: Ch.sf A n c e cs :: L) S cd Q) : W x l (a :: Ch.sl A n c e 1 cs :: L) S cd Q :=
  w_heap (fun w hw => hw.turn (c' := Ch.sf A n c e cs) (.s .z) (fun hp => SlP.sf hp) (fun _ h => h)) h
/-- unsafe.SliceData. -/
theorem o_usd {s : Str} {y : Operand} {A : Option Addr} {n c : Nat} {t e : TypeId} (hty : x.P.underlying ty = some (.pointer e)) (hy : ev l y = some (.slice A n c)) (hP : ∀ w, Hp x.ok0 x.w0 L S w → SfP A n c e (bcs s) w) (hN : Nat.blt d x.N = true)
    (k : ∀ q, (0 < n → q = A) → WL x ((d, .pointer q) :: l) L S ops rest Q) : WL x l L S ops (⟨some d, .call { callee := .builtin .unsafeSliceData, args := #[y], argTypes := #[t] }, ty, pos, af, none⟩ :: rest) Q :=
  wl_valx (fun q : {q : Option Addr // 0 < n → q = A} => .pointer q.1) (fun _ => L) (fun _ => S) rfl rfl (fun _ => nofun) hN
    (fun a w ha hw => by
      have h := hP w hw
      rcases h.at_ with ⟨rfl, rfl, rfl⟩ | ⟨g, cur, fz, rfl, hg, h1, h2, h3, h4⟩
      · refine ⟨⟨none, fun _ => rfl⟩, w, ?_, hw⟩
        have := Lib.run_unsafeSliceData_nil (P := x.P) w #[t] ty 0 0
        simp [execOp, resolve, invoke, builtin, ha.ev hy, this]
      · by_cases hc : c = 0
        · subst hc
          have h0 : n = 0 := by omega
          subst h0
          refine ⟨⟨some ⟨w.heap.size, 0, none⟩, fun h => absurd h (Nat.lt_irrefl 0)⟩, _, ?_, hw.ext (Upd.alloc w (.view ⟨g, 0, none⟩ e))⟩
          have := Lib.run_unsafeSliceData_zero (P := x.P) w #[t] ty e hty ⟨g, 0, none⟩ 0 (e, cur.size) (by simp [World.shape?, hg])
          simp [execOp, resolve, invoke, builtin, ha.ev hy, this]
        · refine ⟨⟨some ⟨g, 0, none⟩, fun _ => rfl⟩, w, ?_, hw⟩
          have := Lib.run_unsafeSliceData_row (P := x.P) w #[t] ty ⟨g, 0, none⟩ n c hc
          simp [execOp, resolve, invoke, builtin, ha.ev hy, this]) (fun q => k q.1 q.2)
/-- unsafe.String: the row is left. -/
theorem o_us {y z : Operand} {q A : Option Addr} {c i : Nat} {pt it e : TypeId} {s : Str} {L' : List Ch} (hp : x.P.underlying pt = some (.pointer e)) (hc : x.P.cellsOf e = 1) (hy : ev l y = some (.pointer q)) (hz : ev l z = some (.int .i64 s.length)) (hq : 0 < s.length → q = A) (hi : SetAt L i (Ch.sf A s.length c e (bcs s)) (Ch.sf A s.length c e (bcs s)) L')
    (hN : Nat.blt d x.N = true) (k : WL x ((d, .string (ba s)) :: l) L' S ops rest Q) : WL x l L S ops (⟨some d, .call { callee := .builtin .unsafeString, args := #[y, z], argTypes := #[pt, it] }, ty, pos, af, none⟩ :: rest) Q :=
  wl_val rfl rfl (fun _ => nofun) hN (fun a w ha hw => by
    have h : SfP A s.length c e (bcs s) w := hw.own _ hi.mem
    by_cases h0 : s = []
    · subst h0
      refine ⟨w, ?_, hw.upd hi (Upd.refl _ _) h (fun b hb => .inl hb)⟩
      have := Lib.run_unsafeString_none (P := x.P) w pt it ty q
      simp [execOp, resolve, invoke, builtin, ha.ev hy, ha.ev hz]
      rw [show (Value.int .i64 0) = .int .i64 (0 : Int) from rfl, this]
      rfl
    · have hl : 0 < s.length := List.length_pos_iff.2 h0
      rcases h.at_ with ⟨_, h1, _⟩ | ⟨g, cur, fz, rfl, hg, h1, h2, h3, h4⟩
      · omega
      · have hcells : ∀ j u, s[j]? = some u → w.cell? ((⟨g, 0, none⟩ : Addr).add j) = some (.int .u8 u.toNat) := fun j u hj => by
          have hj' := (List.getElem?_eq_some_iff.1 hj).1
          have h9 : (bcs s)[j]? = some (.int .u8 u.toNat) := by simp [bcs_eq, hj]
          rw [← h4, List.getElem?_take, if_pos hj'] at h9
          have : w.cell? ⟨g, j, none⟩ = some (.int .u8 u.toNat) := by
            simp [World.cell?, hg]
            simpa using h9
          unfold Addr.add; split
          · rename_i h0; subst h0; exact this
          · simpa using this
        have hr := Lib.run_unsafeString_row (P := x.P) w pt it ty e hp hc g cur.size (by simp [World.shape?, hg]) s h0 (by omega) (by unfold maxLen at h2; omega) hcells
        refine ⟨w.freeze ⟨g, 0, none⟩ s.length, ?_, hw.upd hi ?_ ?_ (fun b hb => .inl hb)⟩
        · simp [execOp, resolve, invoke, builtin, ha.ev hy, ha.ev hz, hq hl, hr]
        · refine ⟨by simp [World.freeze, h0], by simp [World.freeze, h0], by simp [World.freeze, h0], ?_, fun k _ hk => ?_, by simp [World.freeze, h0]⟩
          · simp [World.freeze, h0]
          · have hne : g ≠ k := fun e => hk (by rw [e]; rfl)
            simp [World.freeze, h0, Array.getElem?_modify, hne]
        · obtain ⟨hlt, hk⟩ := Array.getElem?_eq_some_iff.1 hg
          have hfz : ∃ fz', (w.freeze ⟨g, 0, none⟩ s.length).heap[g]? = some (.cells cur e fz') := by
            obtain ⟨lo, hi⟩ := fz
            have hn : s.length ≠ 0 := by omega
            simp only [World.freeze, if_neg hn]
            rw [Array.getElem?_eq_getElem (by rw [Array.size_modify]; exact hlt), Array.getElem_modify_self, hk]
            exact ⟨_, rfl⟩
          obtain ⟨fz', hfz⟩ := hfz
          exact ⟨h.len, .inr ⟨g, cur, fz', rfl, hfz, h1, h2, h3, h4⟩⟩) k
end
end Go.Proofs.Ytckfjfnkombelaa
