import Derived.Test.YtnpdgmoeoidppaaGreatLgQx
import Derived.LaidEqlPtr
import Derived.Laws.Externs
import Derived.Lib.UnsafeStr
import Derived.Lib.Builder
/- Equality of pointers, slices; memory seen as octets; strings.Builder. -/
namespace Go.Proofs.YtnpdgmoeoidppaaGreat
open Go.RowKit Go.Shelf
set_option linter.unusedVariables false
set_option linter.unusedSimpArgs false

section
variable {x : Cx} {l : Fr} {L S : List Ch} {Q : Exit → Act → World → Prop} {ops : Array Oper} {rest : List Oper} {d : Nat} {ty : TypeId} {pos : String} {af : Array Edge} {gd : Option (Nat × Bool)}
/-- An equality that the model settles so, whatever lies in memory. -/
def EqB (P : Program) (t : TypeId) (v u : Value) (b : Bool) : Prop := ∀ d w, (Op.equalIn (d + 1) t v u).run P w = .ok b w
def plainV : Value → Bool
  | .pointer _ => true
  | .slice _ _ _ => true
  | .func _ _ _ => true
  | .nilFunc => true
  | .map _ => true
  | _ => false
theorem y_eqg {y z : Operand} {v u : Value} {b : Bool} {yt zt : TypeId} (h : EqB x.P yt v u b) (hp : plainV v = true) (hy : ev l y = some v) (hz : ev l z = some u) :
    Yv x l L S ⟨some d, .binOp .eql yt y z zt, ty, pos, af, gd⟩ (.bool b) := fun a w ha hw => by
  simp only [execOp, ha.ev hy, ha.ev hz]
  have he : (Op.equal yt v u).run x.P w = .ok b w := h 9999 w
  cases v <;> simp [plainV] at hp <;> simp [eqGuard, binOp, he]
theorem y_neg {y z : Operand} {v u : Value} {b : Bool} {yt zt : TypeId} (h : EqB x.P yt v u b) (hp : plainV v = true) (hy : ev l y = some v) (hz : ev l z = some u) :
    Yv x l L S ⟨some d, .binOp .neq yt y z zt, ty, pos, af, gd⟩ (.bool (!b)) := fun a w ha hw => by
  simp only [execOp, ha.ev hy, ha.ev hz]
  have he : (Op.equal yt v u).run x.P w = .ok b w := h 9999 w
  cases v <;> simp [plainV] at hp <;> simp [eqGuard, binOp, he]
theorem eqb_pn {P : Program} {t e : TypeId} (h : P.underlying t = some (.pointer e)) (a : Option Addr) : EqB P t (.pointer a) (.pointer none) a.isNone := fun d w => by
  cases a <;> simp [Op.equalIn, run_underlying h]
theorem eqb_sn {P : Program} {t e : TypeId} (h : P.underlying t = some (.slice e)) (a : Option Addr) (n c : Nat) : EqB P t (.slice a n c) (.slice none 0 0) a.isNone := fun d w => by
  cases a <;> simp [Op.equalIn, run_underlying h]
theorem eqb_ps {P : Program} {t e : TypeId} {agg : Bool} {sz bytes : Nat} {z : Value} (h : P.underlying t = some (.pointer e)) (he : TyI P e agg sz bytes z) (a : Addr) : EqB P t (.pointer (some a)) (.pointer (some a)) true := fun d w => by
  obtain ⟨i, h1, h2, h3, h4⟩ := he.inf
  simp [Op.equalIn, run_underlying h, sizeOf, typeInfo, h1, run_sameAddr_same]
theorem y_eqp {y z : Operand} {a : Option Addr} {yt zt e : TypeId} (h : x.P.underlying yt = some (.pointer e)) (hy : ev l y = some (.pointer a)) (hz : ev l z = some (.pointer none)) :
    Yv x l L S ⟨some d, .binOp .eql yt y z zt, ty, pos, af, gd⟩ (.bool a.isNone) := y_eqg (eqb_pn h a) rfl hy hz
theorem y_neps {y z : Operand} {a : Addr} {yt zt e : TypeId} {agg : Bool} {sz bytes : Nat} {zv : Value} (h : x.P.underlying yt = some (.pointer e)) (he : TyI x.P e agg sz bytes zv) (hy : ev l y = some (.pointer (some a))) (hz : ev l z = some (.pointer (some a))) :
    Yv x l L S ⟨some d, .binOp .neq yt y z zt, ty, pos, af, gd⟩ (.bool false) := y_neg (eqb_ps h he a) rfl hy hz
theorem y_eqsn {y z : Operand} {A : Option Addr} {n c : Nat} {yt zt e : TypeId} (h : x.P.underlying yt = some (.slice e)) (hy : ev l y = some (.slice A n c)) (hz : ev l z = some (.slice none 0 0)) :
    Yv x l L S ⟨some d, .binOp .eql yt y z zt, ty, pos, af, gd⟩ (.bool A.isNone) := y_eqg (eqb_sn h A n c) rfl hy hz
/-! unsafe.Pointer and back. -/
theorem y_tou {y : Operand} {b n : Nat} {t1 t2 t e : TypeId} {agg : Bool} {sz bytes : Nat} {z : Value} (h1 : x.P.underlying t1 = some (.pointer t)) (h2 : x.P.underlying t2 = some .unsafePointer) (ht : TyI x.P t agg sz bytes z) (hz : Nat.beq sz 0 = false) (hn : 0 < n) (hy : ev l y = some (.pointer (some ⟨b, 0, none⟩)))
    (hs : ∀ w, Hp x.ok0 x.w0 L S w → w.shape? b = some (e, n)) : Yv x l L S ⟨some d, .convert t1 t2 y, ty, pos, af, gd⟩ (.pointer (some ⟨b, 0, none⟩)) := fun a w ha hw => by
  obtain ⟨i, e1, e2, e3, e4⟩ := ht.inf
  have := Lib.run_to_unsafe (P := x.P) w ⟨b, 0, none⟩ h1 h2 e1 (by rw [e3]; exact Nat.ne_of_beq_eq_false hz) (hs w hw) hn
  simp [execOp, ha.ev hy, this]
theorem y_fromu {y : Operand} {b n : Nat} {t1 t2 t e : TypeId} {agg : Bool} {sz bytes : Nat} {z : Value} (h1 : x.P.underlying t1 = some .unsafePointer) (h2 : x.P.underlying t2 = some (.pointer t)) (ht : TyI x.P t agg sz bytes z) (hlies : liesAt x.P x.P.depth e (n / x.P.cellsOf e) 0 t 1 = true) (hy : ev l y = some (.pointer (some ⟨b, 0, none⟩)))
    (hs : ∀ w, Hp x.ok0 x.w0 L S w → w.shape? b = some (e, n)) : Yv x l L S ⟨some d, .convert t1 t2 y, ty, pos, af, gd⟩ (.pointer (some ⟨b, 0, none⟩)) := fun a w ha hw => by
  obtain ⟨i, e1, e2, e3, e4⟩ := ht.inf
  have := Lib.run_from_unsafe (P := x.P) w ⟨b, 0, none⟩ h1 h2 e1 (hs w hw) hlies
  simp [execOp, ha.ev hy, this]
theorem shape_row {b : Nat} {cs : List Value} {T : TypeId} (i : Nat) (hi : L[i]? = some (Ch.row b cs T)) : ∀ w, Hp x.ok0 x.w0 L S w → w.shape? b = some (T, cs.length) := fun w hw => by
  have h : w.heap[b]? = some (.cells cs.toArray T (0, 0)) := hw.own _ (List.mem_of_getElem? hi)
  simp [World.shape?, h]
theorem shape_rown {b n : Nat} {cs : List Value} {T : TypeId} (i : Nat) (hi : L[i]? = some (Ch.row b cs T)) (hn : cs.length = n) : ∀ w, Hp x.ok0 x.w0 L S w → w.shape? b = some (T, n) := hn ▸ shape_row i hi
/-- A function that the machine stands in for. -/
theorem o_ext {g : Nat} {ys : List Operand} {tys : Array TypeId} {vs : List Value} {v : Value} (has : evs l ys = some vs) (hx : ∀ w, (callFunc g vs.toArray).run x.P w = .ok (.value v) w) (hN : Nat.blt d x.N = true)
    (k : WL x ((d, v) :: l) L S ops rest Q) : WL x l L S ops (⟨some d, .call { callee := .value (.func g), args := ys.toArray, argTypes := tys }, ty, pos, af, none⟩ :: rest) Q :=
  wl_val rfl rfl (fun _ => nofun) hN (fun a w ha hw => ⟨w, by
    have e1 : (ys.map a.eval) = vs := ha.evs has
    have e2 : a.eval (.func g) = .func (.func g) #[] #[] := ha.ev rfl
    simp [execOp, resolve, e2, Deferred.ofValue, e1, invoke, hx], hw⟩) k

/-! strings.Builder. -/
def Ch.bld (T e : TypeId) (b : Nat) (A : Option Addr) (c : Nat) (s : a6) : Ch :=
  ⟨fun k => k = b ∨ A.map (·.block) = some k, fun w => A.map (·.block) ≠ some b ∧ (∃ p : Value, (p = .pointer none ∨ p = .pointer (some ⟨b, 0, none⟩)) ∧ w.heap[b]? = some (.cells #[p, .slice A s.length c] T (0, 0))) ∧ SlP A s.length c e 1 (bcs s) w,
   fun w w' ⟨h0, ⟨p, h1, h2⟩, h3⟩ hk => ⟨h0, ⟨p, h1, (hk b (.inl rfl)).trans h2⟩, (Ch.sl A s.length c e 1 (bcs s)).st w w' h3 fun k h => hk k (.inr h)⟩⟩
theorem w_bldo {T e : TypeId} {b : Nat} {A : Option Addr} {c : Nat} {s : a6} {cd : Code} (h : ∀ p : Value, (p = .pointer none ∨ p = .pointer (some ⟨b, 0, none⟩)) → W x l (Ch.row b [p, .slice A s.length c] T :: Ch.sl A s.length c e 1 (bcs s) :: L) S cd Q) :
    W x l (Ch.bld T e b A c s :: L) S cd Q := fun a w ha hw => by
  obtain ⟨h0, ⟨p, h1, h2⟩, h3⟩ := hw.own _ List.mem_cons_self
  have hw' := hw
  refine h p h1 a w ha ⟨hw.base, ?_, ?_, ?_, ?_, hw.sh, hw.slt, ?_⟩
  · intro c hc
    simp only [List.mem_cons] at hc
    rcases hc with rfl | rfl | hc
    · exact h2
    · exact h3
    · exact hw.own c (List.mem_cons_of_mem _ hc)
  · intro c hc b hb
    simp only [List.mem_cons] at hc
    rcases hc with rfl | rfl | hc
    · exact hw.lt _ List.mem_cons_self b (.inl hb)
    · exact hw.lt _ List.mem_cons_self b (.inr hb)
    · exact hw.lt c (List.mem_cons_of_mem _ hc) b hb
  · intro c hc b hb
    simp only [List.mem_cons] at hc
    rcases hc with rfl | rfl | hc
    · exact hw.ge _ List.mem_cons_self b (.inl hb)
    · exact hw.ge _ List.mem_cons_self b (.inr hb)
    · exact hw.ge c (List.mem_cons_of_mem _ hc) b hb
  · have hd := List.pairwise_cons.1 hw.dj
    refine .cons ?_ (.cons ?_ hd.2)
    · intro c hc k hk hk'
      rcases List.mem_cons.1 hc with rfl | hc
      · exact h0 (by rw [← show k = b from hk]; exact hk')
      · exact hd.1 c hc k (.inl hk) hk'
    · exact fun c hc k hk => hd.1 c hc k (.inr hk)
  · intro s hs c hc k hk
    simp only [List.mem_cons] at hc
    rcases hc with rfl | rfl | hc
    · exact hw.sdj s hs _ List.mem_cons_self k (.inl hk)
    · exact hw.sdj s hs _ List.mem_cons_self k (.inr hk)
    · exact hw.sdj s hs c (List.mem_cons_of_mem _ hc) k hk
theorem Hp.bldc {ok0 : Nat → Prop} {w0 w : World} {T e : TypeId} {b n : Nat} {A : Option Addr} {c : Nat} {s : a6} {cs : List Value} {p : Value} (hp : p = .pointer none ∨ p = .pointer (some ⟨b, 0, none⟩)) (hn : n = s.length) (hcs : cs = bcs s) (hw : Hp ok0 w0 (Ch.row b [p, .slice A n c] T :: Ch.sl A n c e 1 cs :: L) S w) : Hp ok0 w0 (Ch.bld T e b A c s :: L) S w := by
  subst hn hcs
  have hd := List.pairwise_cons.1 hw.dj
  have hd2 := List.pairwise_cons.1 hd.2
  refine ⟨hw.base, ?_, ?_, ?_, .cons ?_ hd2.2, hw.sh, hw.slt, ?_⟩
  · intro c hc
    rcases List.mem_cons.1 hc with rfl | hc
    · exact ⟨fun h => hd.1 _ List.mem_cons_self b rfl h, ⟨p, hp, hw.own _ List.mem_cons_self⟩, hw.own _ (.tail _ List.mem_cons_self)⟩
    · exact hw.own c (.tail _ (.tail _ hc))
  · intro c hc k hk
    rcases List.mem_cons.1 hc with rfl | hc
    · rcases hk with hk | hk
      · exact hw.lt _ List.mem_cons_self k hk
      · exact hw.lt _ (.tail _ List.mem_cons_self) k hk
    · exact hw.lt c (.tail _ (.tail _ hc)) k hk
  · intro c hc k hk
    rcases List.mem_cons.1 hc with rfl | hc
    · rcases hk with hk | hk
      · exact hw.ge _ List.mem_cons_self k hk
      · exact hw.ge _ (.tail _ List.mem_cons_self) k hk
    · exact hw.ge c (.tail _ (.tail _ hc)) k hk
  · intro c hc k hk
    rcases hk with hk | hk
    · exact hd.1 c (.tail _ hc) k hk
    · exact hd2.1 c hc k hk
  · intro s hs c hc k hk
    rcases List.mem_cons.1 hc with rfl | hc
    · rcases hk with hk | hk
      · exact hw.sdj s hs _ List.mem_cons_self k hk
      · exact hw.sdj s hs _ (.tail _ List.mem_cons_self) k hk
    · exact hw.sdj s hs c (.tail _ (.tail _ hc)) k hk
/-- A row of two cells is a new builder. -/
theorem Hp.bldn {ok0 : Nat → Prop} {w0 w : World} {T : TypeId} {b : Nat} (e : TypeId) (hw : Hp ok0 w0 (Ch.row b [.pointer none, .slice none 0 0] T :: L) S w) : Hp ok0 w0 (Ch.bld T e b none 0 [] :: L) S w := by
  have hd := List.pairwise_cons.1 hw.dj
  have hsl : Hp ok0 w0 (Ch.row b [.pointer none, .slice none 0 0] T :: Ch.sl none 0 0 e 1 [] :: L) S w :=
    ⟨hw.base, by
      intro c hc
      simp only [List.mem_cons] at hc
      rcases hc with rfl | rfl | hc
      · exact hw.own _ List.mem_cons_self
      · exact SlP.nil e 1 w
      · exact hw.own c (.tail _ hc), by
      intro c hc k hk
      simp only [List.mem_cons] at hc
      rcases hc with rfl | rfl | hc
      · exact hw.lt _ List.mem_cons_self k hk
      · cases hk
      · exact hw.lt c (.tail _ hc) k hk, by
      intro c hc k hk
      simp only [List.mem_cons] at hc
      rcases hc with rfl | rfl | hc
      · exact hw.ge _ List.mem_cons_self k hk
      · cases hk
      · exact hw.ge c (.tail _ hc) k hk, by
      refine .cons ?_ (.cons (fun c hc k hk => by cases hk) hd.2)
      intro c hc k hk hk'
      rcases List.mem_cons.1 hc with rfl | hc
      · cases hk'
      · exact hd.1 c hc k hk hk', hw.sh, hw.slt, by
      intro s hs c hc k hk
      simp only [List.mem_cons] at hc
      rcases hc with rfl | rfl | hc
      · exact hw.sdj s hs _ List.mem_cons_self k hk
      · cases hk
      · exact hw.sdj s hs c (.tail _ hc) k hk⟩
  exact Hp.bldc (.inl rfl) rfl rfl hsl
/-- A row of a slice's own, frozen or not. -/
structure SfP (A : Option Addr) (n c : Nat) (e : TypeId) (cs : List Value) (w : World) : Prop where
  len : cs.length = n
  at_ : (A = none ∧ n = 0 ∧ c = 0) ∨ ∃ g cur fz, A = some ⟨g, 0, none⟩ ∧ w.heap[g]? = some (.cells cur e fz) ∧ n ≤ c ∧ c ≤ maxLen ∧ c ≤ cur.size ∧ cur.toList.take n = cs
def Ch.sf (A : Option Addr) (n c : Nat) (e : TypeId) (cs : List Value) : Ch :=
  ⟨fun k => A.map (·.block) = some k, SfP A n c e cs, fun w w' h hk => ⟨h.len, h.at_.imp id fun ⟨g, cur, fz, hA, hg, r⟩ => ⟨g, cur, fz, hA, (hk g (by rw [hA]; rfl)).trans hg, r⟩⟩⟩
theorem SlP.sf {A : Option Addr} {n c : Nat} {e : TypeId} {cs : List Value} {w : World} (h : SlP A n c e 1 cs w) : SfP A n c e cs w :=
  ⟨by simpa using h.len, h.at_.imp id fun ⟨g, cur, fz, hA, hg, h1, h2, h3, h4, _⟩ => ⟨g, cur, fz, hA, hg, h1, h2, by simpa using h3, by simpa using h4⟩⟩
theorem w_sf {a : Ch} {A : Option Addr} {n c : Nat} {e : TypeId} {cs : List Value} {cd : Code} (h : W x l (a :: Ch.sf A n c e cs :: L) S cd Q) : W x l (a :: Ch.sl A n c e 1 cs :: L) S cd Q :=
  cz (fun w hw => hw.turn (c' := Ch.sf A n c e cs) (.s .z) (fun hp => SlP.sf hp) (fun _ h => h)) h
/-- unsafe.SliceData. -/
theorem o_usd {s : a6} {y : Operand} {A : Option Addr} {n c : Nat} {t e : TypeId} (hty : x.P.underlying ty = some (.pointer e)) (hy : ev l y = some (.slice A n c)) (hP : ∀ w, Hp x.ok0 x.w0 L S w → SfP A n c e (bcs s) w) (hN : Nat.blt d x.N = true)
    (k : ∀ q, (0 < n → q = A) → WL x ((d, .pointer q) :: l) L S ops rest Q) : WL x l L S ops (⟨some d, .call { callee := .builtin .unsafeSliceData, args := #[y], argTypes := #[t] }, ty, pos, af, none⟩ :: rest) Q :=
  ig (fun q : {q : Option Addr // 0 < n → q = A} => .pointer q.1) (fun _ => L) (fun _ => S) rfl rfl (fun _ => nofun) hN
    (fun a w ha hw => by
      have h := hP w hw
      rcases h.at_ with ⟨rfl, rfl, rfl⟩ | ⟨g, cur, fz, rfl, hg, h1, h2, h3, h4⟩
      · refine ⟨⟨none, fun _ => rfl⟩, w, ?_, hw⟩
        have := Lib.run_unsafeSliceData_nil (P := x.P) w #[t] ty 0 0
        simp [execOp, resolve, invoke, builtin, ha.ev hy, this]
      · by_cases hc : c = 0
        · subst hc
          have h0 : n = 0 := by omega
          subst h0
          refine ⟨⟨some ⟨w.heap.size, 0, none⟩, fun h => absurd h (Nat.lt_irrefl 0)⟩, _, ?_, hw.ext (Upd.alloc w (.view ⟨g, 0, none⟩ e))⟩
          have := Lib.run_unsafeSliceData_zero (P := x.P) w #[t] ty e hty ⟨g, 0, none⟩ 0 (e, cur.size) (by simp [World.shape?, hg])
          simp [execOp, resolve, invoke, builtin, ha.ev hy, this]
        · refine ⟨⟨some ⟨g, 0, none⟩, fun _ => rfl⟩, w, ?_, hw⟩
          have := Lib.run_unsafeSliceData_row (P := x.P) w #[t] ty ⟨g, 0, none⟩ n c hc
          simp [execOp, resolve, invoke, builtin, ha.ev hy, this]) (fun q => k q.1 q.2)
/-- unsafe.String: the row is left. -/
theorem o_us {y z : Operand} {q A : Option Addr} {c i : Nat} {pt it e : TypeId} {s : a6} {L' : List Ch} (hp : x.P.underlying pt = some (.pointer e)) (hc : x.P.cellsOf e = 1) (hy : ev l y = some (.pointer q)) (hz : ev l z = some (.int .i64 s.length)) (hq : 0 < s.length → q = A) (hi : SetAt L i (Ch.sf A s.length c e (bcs s)) (Ch.sf A s.length c e (bcs s)) L')
    (hN : Nat.blt d x.N = true) (k : WL x ((d, .string (ba s)) :: l) L' S ops rest Q) : WL x l L S ops (⟨some d, .call { callee := .builtin .unsafeString, args := #[y, z], argTypes := #[pt, it] }, ty, pos, af, none⟩ :: rest) Q :=
  wl_val rfl rfl (fun _ => nofun) hN (fun a w ha hw => by
    have h : SfP A s.length c e (bcs s) w := hw.own _ hi.mem
    by_cases h0 : s = []
    · subst h0
      refine ⟨w, ?_, hw.upd hi (Upd.refl _ _) h (fun b hb => .inl hb)⟩
      have := Lib.run_unsafeString_none (P := x.P) w pt it ty q
      simp [execOp, resolve, invoke, builtin, ha.ev hy, ha.ev hz]
      rw [show (Value.int .i64 0) = .int .i64 (0 : Int) from rfl, this]
      rfl
    · have hl : 0 < s.length := List.length_pos_iff.2 h0
      rcases h.at_ with ⟨_, h1, _⟩ | ⟨g, cur, fz, rfl, hg, h1, h2, h3, h4⟩
      · omega
      · have hcells : ∀ j u, s[j]? = some u → w.cell? ((⟨g, 0, none⟩ : Addr).add j) = some (.int .u8 u.toNat) := fun j u hj => by
          have hj' := (List.getElem?_eq_some_iff.1 hj).1
          have h9 : (bcs s)[j]? = some (.int .u8 u.toNat) := by simp [jk, hj]
          rw [← h4, List.getElem?_take, if_pos hj'] at h9
          have : w.cell? ⟨g, j, none⟩ = some (.int .u8 u.toNat) := by
            simp [World.cell?, hg]
            simpa using h9
          unfold Addr.add; split
          · rename_i h0; subst h0; exact this
          · simpa using this
        have hr := Lib.run_unsafeString_row (P := x.P) w pt it ty e hp hc g cur.size (by simp [World.shape?, hg]) s h0 (by omega) (by unfold maxLen at h2; omega) hcells
        refine ⟨w.freeze ⟨g, 0, none⟩ s.length, ?_, hw.upd hi ?_ ?_ (fun b hb => .inl hb)⟩
        · simp [execOp, resolve, invoke, builtin, ha.ev hy, ha.ev hz, hq hl, hr]
        · refine ⟨by simp [World.freeze, h0], by simp [World.freeze, h0], by simp [World.freeze, h0], ?_, fun k _ hk => ?_, by simp [World.freeze, h0]⟩
          · simp [World.freeze, h0]
          · have hne : g ≠ k := fun e => hk (by rw [e]; rfl)
            simp [World.freeze, h0, Array.getElem?_modify, hne]
        · obtain ⟨hlt, hk⟩ := Array.getElem?_eq_some_iff.1 hg
          have hfz : ∃ fz', (w.freeze ⟨g, 0, none⟩ s.length).heap[g]? = some (.cells cur e fz') := by
            obtain ⟨lo, hi⟩ := fz
            have hn : s.length ≠ 0 := by omega
            simp only [World.freeze, if_neg hn]
            rw [Array.getElem?_eq_getElem (by rw [Array.size_modify]; exact hlt), Array.getElem_modify_self, hk]
            exact ⟨_, rfl⟩
          obtain ⟨fz', hfz⟩ := hfz
          exact ⟨h.len, .inr ⟨g, cur, fz', rfl, hfz, h1, h2, h3, h4⟩⟩) k
end
end Go.Proofs.YtnpdgmoeoidppaaGreat

/- Slices of elements. -/
namespace Go.Proofs.YtnpdgmoeoidppaaGreat
open Go.RowKit Go.Shelf
set_option linter.unusedVariables false
set_option linter.unusedSimpArgs false

def dD (s : a6) : List Value := [.string (ba s)]
def fh (i : Int) : List Value := [.int .i64 i]
/-- A slice of one's own, of elements xs. -/
abbrev Ch.ls {α : Type} (A : Option Addr) (c : Nat) (e : TypeId) (sz : Nat) (enc : α → List Value) (xs : List α) : Ch := Ch.sl A xs.length c e sz (fl enc xs)
/-- .. that is read alone. -/
abbrev Ch.rd {α : Type} (A : Option Addr) (sz : Nat) (enc : α → List Value) (xs : List α) : Ch := Ch.rs A xs.length sz (fl enc xs)
/-- How elements are laid out. -/
structure Enc {α : Type} (enc : α → List Value) (sz : Nat) : Prop where
  len : ∀ a, (enc a).length = sz
  one : ∀ a, (enc a).all Value.oneCell' = true
theorem enc_b : Enc encb 1 := ⟨fun _ => rfl, fun _ => rfl⟩
theorem bV : Enc dD 1 := ⟨fun _ => rfl, fun _ => rfl⟩
theorem fL : Enc fh 1 := ⟨fun _ => rfl, fun _ => rfl⟩
theorem Enc.ones {α : Type} {enc : α → List Value} {sz : Nat} (h : Enc enc sz) (xs : List α) : ∀ u ∈ fl enc xs, u.oneCell' = true := fun u hu => by
  obtain ⟨l, hl, hul⟩ := List.mem_flatten.1 hu
  obtain ⟨a, _, rfl⟩ := List.mem_map.1 hl
  exact List.all_eq_true.1 (h.one a) u hul
section
variable {α : Type} {enc : α → List Value} {sz : Nat}
theorem fl_cons (a : α) (r : List α) : fl enc (a :: r) = enc a ++ fl enc r := rfl
theorem fl_split (h : ∀ a, (enc a).length = sz) : ∀ (xs : List α) (k : Nat), k ≤ xs.length → (fl enc xs).take (k * sz) = fl enc (xs.take k) ∧ (fl enc xs).drop (k * sz) = fl enc (xs.drop k)
  | xs, 0, _ => by simp [fl]
  | [], k + 1, hk => by simp at hk
  | a :: r, k + 1, hk => by
    obtain ⟨h1, h2⟩ := fl_split h r k (by simpa using hk)
    have e : (k + 1) * sz = (enc a).length + k * sz := by rw [h, Nat.add_mul, Nat.one_mul, Nat.add_comm]
    rw [fl_cons, e]
    constructor
    · rw [List.take_length_add_append, h1]; rfl
    · rw [List.drop_length_add_append, h2]; rfl
theorem fl_at (h : ∀ a, (enc a).length = sz) (xs : List α) (d : α) {k : Nat} (hk : k < xs.length) : (fl enc xs).drop (k * sz) = enc (xs.getD k d) ++ fl enc (xs.drop (k + 1)) := by
  rw [(fl_split h xs k (Nat.le_of_lt hk)).2, List.drop_eq_getElem_cons hk, fl_cons]
  congr 2
  simp [List.getD_eq_getElem?_getD, hk]
theorem fl_get (h : ∀ a, (enc a).length = sz) (xs : List α) (d : α) {k f : Nat} (hk : k < xs.length) (hf : f < sz) : (fl enc xs)[k * sz + f]? = (enc (xs.getD k d))[f]? := by
  have e := fl_at h xs d hk
  have : (fl enc xs)[k * sz + f]? = ((fl enc xs).drop (k * sz))[f]? := by rw [List.getElem?_drop]
  rw [this, e, List.getElem?_append_left (by rw [h]; exact hf)]
theorem fl_sub (h : ∀ a, (enc a).length = sz) (xs : List α) (d : α) {k f m : Nat} (hk : k < xs.length) (hf : f + m ≤ sz) : ((fl enc xs).drop (k * sz + f)).take m = ((enc (xs.getD k d)).drop f).take m := by
  rw [← List.drop_drop, fl_at h xs d hk, List.drop_append_of_le_length (by rw [h]; omega), List.take_append_of_le_length (by rw [List.length_drop, h]; omega)]
theorem fl_set (h : ∀ a, (enc a).length = sz) (xs : List α) (d a : α) {k f m : Nat} {vs : List Value} (hk : k < xs.length) (hf : f + m ≤ sz) (hv : (enc (xs.getD k d)).take f ++ vs ++ (enc (xs.getD k d)).drop (f + m) = enc a) :
    (fl enc xs).take (k * sz + f) ++ vs ++ (fl enc xs).drop (k * sz + f + m) = fl enc (xs.set k a) := by
  have e1 : (fl enc xs).take (k * sz + f) = fl enc (xs.take k) ++ (enc (xs.getD k d)).take f := by
    rw [List.take_add, (fl_split h xs k (Nat.le_of_lt hk)).1, fl_at h xs d hk, List.take_append_of_le_length (by rw [h]; omega)]
  have e2 : (fl enc xs).drop (k * sz + f + m) = (enc (xs.getD k d)).drop (f + m) ++ fl enc (xs.drop (k + 1)) := by
    rw [Nat.add_assoc, ← List.drop_drop, fl_at h xs d hk, List.drop_append_of_le_length (by rw [h]; omega)]
  rw [e1, e2, List.set_eq_take_append_cons_drop, if_pos hk]
  have e3 : fl enc (xs.take k ++ a :: xs.drop (k + 1)) = fl enc (xs.take k) ++ (enc a ++ fl enc (xs.drop (k + 1))) := by rw [← i4, fl_cons]
  rw [e3, ← hv]
  simp only [List.append_assoc]
end

section
variable {x : Cx} {l : Fr} {L S : List Ch} {Q : Exit → Act → World → Prop} {ops : Array Oper} {rest : List Oper} {d : Nat} {ty : TypeId} {pos : String} {af : Array Edge} {gd : Option (Nat × Bool)}
variable {α : Type} {enc : α → List Value} {xs : List α}
/-- The place of an element. -/
theorem bB {y z : Operand} {A : Option Addr} {c k : Nat} {i : Int} {k0 : IntKind} {t e : TypeId} {agg : Bool} {sz bytes : Nat} {zv : Value} (h1 : x.P.underlying t = some (.slice e)) (he : TyI x.P e agg sz bytes zv) (hy : ev l y = some (.slice A xs.length c)) (hz : ev l z = some (.int k0 i))
    (hr : ∀ w, Hp x.ok0 x.w0 L S w → RsP A xs.length sz (fl enc xs) w) (hk : i = (k : Int)) (hlt : k < xs.length) : Yv x l L S ⟨some d, .indexAddr t y z, ty, pos, af, gd⟩ (.pointer (some ⟨Ab A, Ao A + k * sz, none⟩)) := y_ix h1 he hy hz hr hk hlt
/-- One cell of an element. -/
theorem y_ldm {t : TypeId} {sz' bytes : Nat} {z : Value} {y : Operand} {A : Option Addr} {sz k : Nat} {v : Value} (f : Nat) (hE : Enc enc sz) (dflt : α) (ht : TyI x.P t false sz' bytes z) (hy : ev l y = some (.pointer (some ⟨Ab A, Ao A + k * sz + f, none⟩))) (hr : ∀ w, Hp x.ok0 x.w0 L S w → RsP A xs.length sz (fl enc xs) w) (hk : k < xs.length) (hf : Nat.blt f sz = true)
    (hv : (enc (xs.getD k dflt))[f]? = some v) : Yv x l L S ⟨some d, .load t y, ty, pos, af, gd⟩ v :=
  y_ld ht hy hr hk (by rw [fl_get hE.len xs dflt hk (Nat.le_of_ble_eq_true hf)]; exact hv)
theorem bZ {t : TypeId} {sz' bytes : Nat} {z : Value} {y : Operand} {A : Option Addr} {sz k : Nat} {v : Value} (hE : Enc enc sz) (dflt : α) (ht : TyI x.P t false sz' bytes z) (hy : ev l y = some (.pointer (some ⟨Ab A, Ao A + k * sz, none⟩))) (hr : ∀ w, Hp x.ok0 x.w0 L S w → RsP A xs.length sz (fl enc xs) w) (hk : k < xs.length) (hf : Nat.blt 0 sz = true)
    (hv : (enc (xs.getD k dflt))[0]? = some v) : Yv x l L S ⟨some d, .load t y, ty, pos, af, gd⟩ v := y_ldm 0 hE dflt ht hy hr hk hf hv
/-- Several cells of an element. -/
theorem y_ldsm {t : TypeId} {m bytes : Nat} {z : Value} {y : Operand} {A : Option Addr} {sz k : Nat} {vs : List Value} (f : Nat) (hE : Enc enc sz) (dflt : α) (ht : TyI x.P t true m bytes z) (hy : ev l y = some (.pointer (some ⟨Ab A, Ao A + k * sz + f, none⟩))) (hr : ∀ w, Hp x.ok0 x.w0 L S w → RsP A xs.length sz (fl enc xs) w) (hk : k < xs.length) (hf : Nat.ble (f + m) sz = true)
    (hv : ((enc (xs.getD k dflt)).drop f).take m = vs) (hl : vs.length = m) : Yv x l L S ⟨some d, .load t y, ty, pos, af, gd⟩ (.agg vs.toArray) :=
  y_lds ht hy hr hk (by rw [fl_sub hE.len xs dflt hk (Nat.le_of_ble_eq_true hf)]; exact hv) hl
theorem b6 {t : TypeId} {m bytes : Nat} {z : Value} {y : Operand} {A : Option Addr} {sz k : Nat} {vs : List Value} (hE : Enc enc sz) (dflt : α) (ht : TyI x.P t true m bytes z) (hy : ev l y = some (.pointer (some ⟨Ab A, Ao A + k * sz, none⟩))) (hr : ∀ w, Hp x.ok0 x.w0 L S w → RsP A xs.length sz (fl enc xs) w) (hk : k < xs.length) (hf : Nat.ble (0 + m) sz = true)
    (hv : ((enc (xs.getD k dflt)).drop 0).take m = vs) (hl : vs.length = m) : Yv x l L S ⟨some d, .load t y, ty, pos, af, gd⟩ (.agg vs.toArray) := y_ldsm 0 hE dflt ht hy hr hk hf hv hl
/-- A store into an element. -/
theorem o_stm {t e : TypeId} {agg : Bool} {m bytes : Nat} {z : Value} {y u : Operand} {A : Option Addr} {c sz k : Nat} {vs : List Value} {v : Value} {L' : List Ch} {i : Nat} (f : Nat) (hE : Enc enc sz) (dflt : α) (a : α) (ht : TyI x.P t agg m bytes z) (hy : ev l y = some (.pointer (some ⟨Ab A, Ao A + k * sz + f, none⟩))) (hu : ev l u = some v) (hvs : v.cells = vs.toArray)
    (hi : SetAt L i (Ch.ls A c e sz enc xs) (Ch.ls A c e sz enc (xs.set k a)) L') (hl : vs.length = m) (hk : k < xs.length) (hf : Nat.ble (f + m) sz = true) (hv : (enc (xs.getD k dflt)).take f ++ vs ++ (enc (xs.getD k dflt)).drop (f + m) = enc a) (hone : vs.all Value.oneCell' = true)
    (kk : WL x l L' S ops rest Q) : WL x l L S ops (⟨none, .store t y u, ty, pos, af, none⟩ :: rest) Q := by
  have hi' : SetAt L i (Ch.sl A xs.length c e sz (fl enc xs)) (Ch.sl A xs.length c e sz (fl enc (xs.set k a))) L' := by simpa only [Ch.ls, List.length_set] using hi
  exact o_stl (k := k) (f := f) ht hy hu hvs hi' hl hk (Nat.le_of_ble_eq_true hf) (fl_set hE.len xs dflt a hk (Nat.le_of_ble_eq_true hf) hv) hone kk
theorem fb {t e : TypeId} {agg : Bool} {m bytes : Nat} {z : Value} {y u : Operand} {A : Option Addr} {c sz k : Nat} {vs : List Value} {v : Value} {L' : List Ch} {i : Nat} (hE : Enc enc sz) (dflt : α) (a : α) (ht : TyI x.P t agg m bytes z) (hy : ev l y = some (.pointer (some ⟨Ab A, Ao A + k * sz, none⟩))) (hu : ev l u = some v) (hvs : v.cells = vs.toArray)
    (hi : SetAt L i (Ch.ls A c e sz enc xs) (Ch.ls A c e sz enc (xs.set k a)) L') (hl : vs.length = m) (hk : k < xs.length) (hf : Nat.ble (0 + m) sz = true) (hv : (enc (xs.getD k dflt)).take 0 ++ vs ++ (enc (xs.getD k dflt)).drop (0 + m) = enc a) (hone : vs.all Value.oneCell' = true)
    (kk : WL x l L' S ops rest Q) : WL x l L S ops (⟨none, .store t y u, ty, pos, af, none⟩ :: rest) Q := o_stm 0 hE dflt a ht hy hu hvs hi hl hk hf hv hone kk
/-- append. -/
theorem cv {y u : Operand} {t tx e : TypeId} {agg : Bool} {sz bytes c i : Nat} {z v : Value} {A : Option Addr} {L' : Option Addr → Nat → List Ch} (ys : List α) (ht : x.P.underlying t = some (.slice e)) (he : TyI x.P e agg sz bytes z) (hz : Nat.beq z.cells.size sz = true)
    (hy : ev l y = some (.slice A xs.length c)) (hu : ev l u = some v) (hi : ∀ A' c', SetAt L i (Ch.ls A c e sz enc xs) (Ch.ls A' c' e sz enc (xs ++ ys)) (L' A' c')) (hs : ∀ w, Hp x.ok0 x.w0 L S w → Src x.P sz tx v ys.length (fl enc ys) w)
    (hb : (xs.length + ys.length) * bytes ≤ 140737488355328) (hm : xs.length + ys.length ≤ 9223372036854775807) (hN : Nat.blt d x.N = true)
    (k : ∀ A' c', WL x ((d, .slice A' (xs ++ ys).length c') :: l) (L' A' c') S ops rest Q) : WL x l L S ops (⟨some d, .call { callee := .builtin .append, args := #[y, u], argTypes := #[t, tx] }, ty, pos, af, none⟩ :: rest) Q :=
  o_append ht he hz hy hu (fun A' c' => by have := hi A' c'; simp only [Ch.ls, List.length_append] at this; exact this) hs (i4 enc xs ys) hb hm hN (fun A' c' => by have := k A' c'; rw [List.length_append] at this; exact this)
/-- Read rows, by their places. -/
theorem bo {w : World} (i : Nat) {c : Ch} (h : S[i]? = some c) (hw : Hp x.ok0 x.w0 L S w) : c.P w ∧ ∀ b, c.ok b → b < w.heap.size := hw.rdS (List.mem_of_getElem? h)
theorem ja {w : World} (i : Nat) {c : Ch} (h : L[i]? = some c) (hw : Hp x.ok0 x.w0 L S w) : c.P w ∧ ∀ b, c.ok b → b < w.heap.size := hw.rdL (List.mem_of_getElem? h)
theorem ci {w : World} {A : Option Addr} {n c sz : Nat} {e : TypeId} {cs : List Value} (i : Nat) (h : L[i]? = some (Ch.sl A n c e sz cs)) (hw : Hp x.ok0 x.w0 L S w) : (Ch.rs A n sz cs).P w ∧ ∀ b, (Ch.rs A n sz cs).ok b → b < w.heap.size := rd_slrs (hw.rdL (List.mem_of_getElem? h))
theorem eT {g : Nat} {ys : List Operand} {tys : Array TypeId} {vs : List Value} {Sx : List Ch} {β : Type} {V : β → Value} (has : evs l ys = some vs) (hen : Enters x.P g) (hN : Nat.blt d x.N = true)
    (hc : RC x.P g vs.toArray Sx V (fun _ => [])) (hr : ∀ w, Hp x.ok0 x.w0 L S w → Rd Sx w)
    (k : ∀ o, WL x ((d, V o) :: l) L S ops rest Q) : WL x l L S ops (⟨some d, .call { callee := .value (.func g), args := ys.toArray, argTypes := tys }, ty, pos, af, none⟩ :: rest) Q := o_callr has hen hN hc hr k
theorem dE {g : Nat} {ys : List Operand} {tys : Array TypeId} {vs : List Value} {Sx : List Ch} {β : Type} {V : β → Value} {C : β → Ch} (has : evs l ys = some vs) (hen : Enters x.P g) (hN : Nat.blt d x.N = true)
    (hc : RC x.P g vs.toArray Sx V (fun o => [C o])) (hr : ∀ w, Hp x.ok0 x.w0 L S w → Rd Sx w)
    (k : ∀ o, WL x ((d, V o) :: l) (C o :: L) S ops rest Q) : WL x l L S ops (⟨some d, .call { callee := .value (.func g), args := ys.toArray, argTypes := tys }, ty, pos, af, none⟩ :: rest) Q := o_callr has hen hN hc hr k
theorem bU {g : Nat} {ys : List Operand} {tys : Array TypeId} {vs : List Value} {Sx : List Ch} {β : Type} {V : β → Value} {C D : β → Ch} (has : evs l ys = some vs) (hen : Enters x.P g) (hN : Nat.blt d x.N = true)
    (hc : RC x.P g vs.toArray Sx V (fun o => [C o, D o])) (hr : ∀ w, Hp x.ok0 x.w0 L S w → Rd Sx w)
    (k : ∀ o, WL x ((d, V o) :: l) (C o :: D o :: L) S ops rest Q) : WL x l L S ops (⟨some d, .call { callee := .value (.func g), args := ys.toArray, argTypes := tys }, ty, pos, af, none⟩ :: rest) Q := o_callr has hen hN hc hr k
/-- A function that reads alone, and hands back plain values. -/
theorem bA {g : Nat} {ys : List Operand} {tys : Array TypeId} {vs : List Value} {Sx : List Ch} {v : Value} (has : evs l ys = some vs) (hen : Enters x.P g) (hN : Nat.blt d x.N = true)
    (hc : RC x.P g vs.toArray Sx (fun _ : Unit => v) (fun _ => [])) (hr : ∀ w, Hp x.ok0 x.w0 L S w → Rd Sx w)
    (k : WL x ((d, v) :: l) L S ops rest Q) : WL x l L S ops (⟨some d, .call { callee := .value (.func g), args := ys.toArray, argTypes := tys }, ty, pos, af, none⟩ :: rest) Q := o_callr has hen hN hc hr (fun _ => k)
theorem o_callvq {g : Operand} {f : Nat} {first cap : Array Value} {ys : List Operand} {tys : Array TypeId} {vs : List Value} {args : Array Value} {Sx : List Ch} {v : Value} (hg : ev l g = some (.func (.func f) first cap)) (has : evs l ys = some vs)
    (hargs : first ++ vs.toArray ++ cap = args) (hen : Enters x.P f) (hN : Nat.blt d x.N = true) (hc : RC x.P f args Sx (fun _ : Unit => v) (fun _ => [])) (hr : ∀ w, Hp x.ok0 x.w0 L S w → Rd Sx w)
    (k : WL x ((d, v) :: l) L S ops rest Q) : WL x l L S ops (⟨some d, .call { callee := .value g, args := ys.toArray, argTypes := tys }, ty, pos, af, none⟩ :: rest) Q := o_callvr hg has hargs hen hN hc hr (fun _ => k)
theorem set_all : ∀ (vs : List Value) (off i : Nat) (cs : Array Value), off + i + vs.length ≤ cs.size →
    ((vs.zipIdx i).foldl (fun cs (p : Value × Nat) => cs.setIfInBounds (off + p.2) p.1) cs).toList = cs.toList.take (off + i) ++ vs ++ cs.toList.drop (off + i + vs.length)
  | [], off, i, cs, _ => by simp
  | v :: r, off, i, cs, h => by
    have hlt : off + i < cs.size := by simp at h; omega
    simp only [List.zipIdx_cons, List.foldl_cons]
    rw [set_all r off (i + 1) _ (by simp at h ⊢; omega)]
    simp only [Array.toList_setIfInBounds, List.length_cons]
    rw [← Nat.add_assoc, List.take_set, List.drop_set_of_lt (by omega)]
    have : List.take (off + i + 1) cs.toList = List.take (off + i) cs.toList ++ [cs[off + i]] := by
      rw [List.take_succ_eq_append_getElem (by simpa using hlt)]; rfl
    rw [this, List.set_append_right _ _ (by simp; omega)]
    simp
    rw [show off + i - min (off + i) cs.size = 0 by omega, List.set_cons_zero]
    simp [show off + i + 1 + r.length = off + i + (r.length + 1) by omega]
/-- Parts one behind the other. -/
def dense : Nat → List Value → List (Nat × Value)
  | _, [] => []
  | i, v :: r => (i, v) :: dense (i + 1) r
theorem fill_dense (sz : Nat) : ∀ (vs : List Value) (k : Nat) (cs : Array Value), (∀ v ∈ vs, v.cells.size = sz) → cs.size = (k + vs.length) * sz →
    ∃ r, Instr.fill (fun i => some (i * sz, sz)) cs (dense k vs) = some r ∧ r.toList = cs.toList.take (k * sz) ++ (vs.map (fun v => v.cells.toList)).flatten
  | [], k, cs, _, hs => ⟨cs, rfl, by simp at hs ⊢; rw [List.take_of_length_le (by simp; omega)]⟩
  | v :: r, k, cs, hv, hs => by
    have h1 : v.cells.size = sz := hv v List.mem_cons_self
    have hlen : k * sz + sz ≤ cs.size := by
      rw [hs, List.length_cons, Nat.add_mul, Nat.add_mul]; omega
    have hset := set_all v.cells.toList (k * sz) 0 cs (by simpa [h1] using hlen)
    obtain ⟨cs', hcs'⟩ : ∃ cs', v.cells.zipIdx.foldl (fun cs (p : Value × Nat) => cs.setIfInBounds (k * sz + p.2) p.1) cs = cs' := ⟨_, rfl⟩
    have hl' : cs'.toList = cs.toList.take (k * sz) ++ v.cells.toList ++ cs.toList.drop (k * sz + sz) := by
      rw [← hcs', ← Array.foldl_toList, Array.toList_zipIdx]
      simpa [h1] using hset
    have hsz' : cs'.size = cs.size := by
      have := congrArg List.length hl'
      simp [h1] at this; omega
    obtain ⟨q, hq1, hq2⟩ := fill_dense sz r (k + 1) cs' (fun u hu => hv u (List.mem_cons_of_mem _ hu)) (by rw [hsz', hs, List.length_cons]; congr 1; omega)
    refine ⟨q, ?_, ?_⟩
    · simp only [dense, Instr.fill]
      rw [if_neg (by simp [h1]; omega)]
      rw [hcs']; exact hq1
    · have hm : min (k * sz) cs.size = k * sz := by omega
      rw [hq2, hl', List.map_cons, List.flatten_cons, Nat.add_mul, Nat.one_mul]
      rw [List.take_append_of_le_length (by simp [h1, hm]), List.take_of_length_le (by simp [h1, hm])]
      simp
/-- A slice of elements told one behind the other. -/
theorem bY {t e : TypeId} {len : Nat} {parts : List (Nat × Operand)} {vs : List Value} {agg : Bool} {sz bytes : Nat} {z : Value} (ys : List α) (hE : Enc enc sz) (hu : x.P.underlying t = some (.slice e)) (he : TyI x.P e agg sz bytes z) (hsmall : Nat.ble (len * sz) 16777216 = true) (hlen0 : Nat.ble len 16777216 = true)
    (hp : evp l parts = some (dense 0 vs)) (hl : vs.length = len) (hv : vs.map (fun v => v.cells.toList) = ys.map enc) (hN : Nat.blt d x.N = true)
    (k : ∀ A, WL x ((d, .slice A ys.length ys.length) :: l) (Ch.ls A ys.length e sz enc ys :: L) S ops rest Q) : WL x l L S ops (⟨some d, .buildSlice t len parts.toArray, ty, pos, af, none⟩ :: rest) Q := by
  have hy : ys.length = len := by rw [← hl]; have := congrArg List.length hv; simpa using this.symm
  subst hy
  obtain ⟨r, h1, h2⟩ := fill_dense sz vs 0 ((Array.range (ys.length * sz)).map (z.cells[· % z.cells.size]!)) (fun v hv' => by
    have hm : v.cells.toList ∈ ys.map enc := by rw [← hv]; exact List.mem_map.2 ⟨v, hv', rfl⟩
    obtain ⟨a, _, ha⟩ := List.mem_map.1 hm
    rw [← Array.length_toList, ← ha]; exact hE.len a) (by simp [hl])
  have hr : r = (fl enc ys).toArray := by
    apply Array.ext'
    rw [h2, hv]; simp [fl]
  subst hr
  refine o_buildSlice (cells := fl enc ys) hlen0 hu he hsmall hp h1 ?_ (List.all_eq_true.2 (hE.ones ys)) hN k
  rw [eD hE.len]; exact Nat.beq_refl _
end
end Go.Proofs.YtnpdgmoeoidppaaGreat

/- Rows that are read alone, loops that turn their first chunks. -/
namespace Go.Proofs.YtnpdgmoeoidppaaGreat
open Go.RowKit Go.Shelf
set_option linter.unusedVariables false
set_option linter.unusedSimpArgs false
theorem lk {l : Fr} {t : Nat} {u v : Value} (h : look l t = some u) (e : u = v) : look l t = some v := e ▸ h
section
variable {x : Cx} {l : Fr} {L S : List Ch} {Q : Exit → Act → World → Prop} {ops : Array Oper} {rest : List Oper} {d : Nat} {ty : TypeId} {pos : String} {af : Array Edge} {gd : Option (Nat × Bool)}
theorem y_loadSo {t T : TypeId} {sz bytes : Nat} {z : Value} {y : Operand} {b o : Nat} {cs : List Value} {v : Value} (i : Nat) (ht : TyI x.P t false sz bytes z) (hy : ev l y = some (.pointer (some ⟨b, o, none⟩)))
    (hi : S[i]? = some (Ch.row b cs T)) (hv : cs[o]? = some v) :
    Yv x l L S ⟨some d, .load t y, ty, pos, af, gd⟩ (v) :=
  y_load ht hy (fun w hw => by rw [jE (hw.sh _ (List.mem_of_getElem? hi)) o]; exact hv)
theorem cC {c : Code} {σ : Type} (ts : List Nat) (I : σ → Prop) (μ : σ → Nat) (lf : σ → Fr) (g0 : σ) (h0 : I g0) (hk : Knows l (lf g0))
    (body : ∀ g, I g → W x (lf g ++ fY ts l) L S c (Ql x I lf (fun _ => L) (fun _ => S) (fY ts l) (fun g' => μ g' < μ g) Q)) : W x l L S (.loop c) Q :=
  w_loop ts I μ lf (fun _ => L) (fun _ => S) g0 h0 hk (fun _ h => h) body
theorem dn {c : Code} {σ : Type} {c0 : Ch} (ts : List Nat) (I : σ → Prop) (μ : σ → Nat) (lf : σ → Fr) (C : σ → Ch) (g0 : σ) (h0 : I g0) (hk : Knows l (lf g0)) (hc : c0 = C g0)
    (body : ∀ g, I g → W x (lf g ++ fY ts l) (C g :: L) S c (Ql x I lf (fun g => C g :: L) (fun _ => S) (fY ts l) (fun g' => μ g' < μ g) Q)) : W x l (c0 :: L) S (.loop c) Q :=
  w_loop ts I μ lf (fun g => C g :: L) (fun _ => S) g0 h0 hk (fun _ h => hc ▸ h) body
theorem w_loop2 {c : Code} {σ : Type} {c0 d0 : Ch} (ts : List Nat) (I : σ → Prop) (μ : σ → Nat) (lf : σ → Fr) (C D : σ → Ch) (g0 : σ) (h0 : I g0) (hk : Knows l (lf g0)) (hc : c0 = C g0) (hd : d0 = D g0)
    (body : ∀ g, I g → W x (lf g ++ fY ts l) (C g :: D g :: L) S c (Ql x I lf (fun g => C g :: D g :: L) (fun _ => S) (fY ts l) (fun g' => μ g' < μ g) Q)) : W x l (c0 :: d0 :: L) S (.loop c) Q :=
  w_loop ts I μ lf (fun g => C g :: D g :: L) (fun _ => S) g0 h0 hk (fun _ h => hc ▸ hd ▸ h) body
/-- The chunks in another order. -/
theorem Hp.perm {ok0 : Nat → Prop} {w0 w : World} {L L' S : List Ch} (h : Hp ok0 w0 L S w) (hp : L'.Perm L) : Hp ok0 w0 L' S w :=
  ⟨h.base, fun c hc => h.own c (hp.mem_iff.1 hc), fun c hc => h.lt c (hp.mem_iff.1 hc), fun c hc => h.ge c (hp.mem_iff.1 hc), (hp.pairwise_iff (fun hab b hb hb' => hab b hb' hb)).2 h.dj, h.sh, h.slt, fun s hs c hc => h.sdj s hs c (hp.mem_iff.1 hc)⟩
end
/-- Nothing. -/
def Ch.nil0 : Ch := ⟨fun _ => False, fun _ => True, fun _ _ _ _ => trivial⟩
theorem Hp.uc0 {c : Ch} {w0 w : World} {S L : List Ch} (h : Hp c.ok w0 L S w) : Upd c.ok w0 w ∧ Ch.nil0.P w ∧ ∀ b, Ch.nil0.ok b → c.ok b ∨ (w0.heap.size ≤ b ∧ b < w.heap.size) := ⟨h.base, trivial, nofun⟩
theorem bld_cell {T e : TypeId} {b : Nat} {A : Option Addr} {c : Nat} {s : a6} {w : World} (h : (Ch.bld T e b A c s).P w) : w.cell? ⟨b, 1, none⟩ = some (.slice A s.length c) := by
  obtain ⟨_, ⟨p, _, h2⟩, _⟩ := h
  simp [World.cell?, h2]
/-! Leaving a function: the rounds' deferred calls, the results. -/
def Lv (x : Cx) (l : Fr) (L S : List Ch) (fn : Func) (R : Ending → World → Prop) (ds : List Deferred) : Prop :=
  ∀ (a : Act) w, a.tmps.size = x.N → (∀ t v, look l t = some v → a.tmps[t]? = some v) → Hp x.ok0 x.w0 L S w → LeavesInM (fw none) 0 x.P fn a.tmps R ds .returning w
def resOf (t : Array Value) : ResultVar → Sem Value
  | .tmp i => pure (t.getD i undef)
  | .cell b ty => do loadVar ty (← asAddr (t.getD b undef))
/-- What the results hold. -/
def Rs (x : Cx) (l : Fr) (L S : List Ch) (rs : List ResultVar) (vs : List Value) : Prop :=
  ∀ (a : Act) w, a.tmps.size = x.N → (∀ t v, look l t = some v → a.tmps[t]? = some v) → Hp x.ok0 x.w0 L S w →
    (rs.mapM (resOf a.tmps)).run x.P w = .ok vs w
section
variable {x : Cx} {l : Fr} {L S : List Ch} {fn : Func} {R : Ending → World → Prop} {ds : List Deferred}
theorem cG : Rs x l L S [] [] := fun _ _ _ _ _ => rfl
theorem dv {t : Nat} {v : Value} {rs : List ResultVar} {vs : List Value} (h : look l t = some v) (k : Rs x l L S rs vs) : Rs x l L S (.tmp t :: rs) (v :: vs) := fun a w hs hk hw => by
  have := k a w hs hk hw
  have hv := hk t v h
  simp only [List.mapM_cons, Sem.run_bind, Sem.run_pure, Result.andThen_ok, this, resOf]
  simp [hv]
theorem bQ {b t : Nat} {B o : Nat} {T : TypeId} {sz bytes : Nat} {z : Value} {cs us : List Value} {rs : List ResultVar} {vs : List Value} (i : Nat) (ht : TyI x.P t true sz bytes z) (h : look l b = some (.pointer (some ⟨B, o, none⟩))) (hi : L[i]? = some (Ch.row B cs T)) (hv : (cs.drop o).take sz = us) (hl : us.length = sz) (k : Rs x l L S rs vs) : Rs x l L S (.cell b t :: rs) (.agg us.toArray :: vs) := fun a w hs hk hw => by
  have := k a w hs hk hw
  have hb := hk b _ h
  have hc : (loadVar t ⟨B, o, none⟩).run x.P w = .ok (.agg us.toArray) w := run_loadN ht hl (fun j v hj => by
    rw [jE (hw.own _ (List.mem_of_getElem? hi)) (o + j)]
    rw [← hv] at hj
    have hlt : j < sz := by have := (List.getElem?_eq_some_iff.1 hj).1; simp at this; omega
    simpa [List.getElem?_take, hlt] using hj)
  simp [List.mapM_cons, resOf, hb, asAddr, hc, this]
theorem run_results' {rs : List ResultVar} {vs : List Value} {a : Act} {w : World} (hr : fn.results = rs.toArray) (h : Rs x l L S rs vs) (h1 : a.tmps.size = x.N) (h2 : ∀ t v, look l t = some v → a.tmps[t]? = some v) (h3 : Hp x.ok0 x.w0 L S w) : (results fn a.tmps).run x.P w = .ok (eW vs) w := by
  have e := h a w h1 h2 h3
  have key : ∀ f : ResultVar → Sem Value, (∀ r, f r = resOf a.tmps r) → (rs.mapM f).run x.P w = .ok vs w := fun f hf => by
    rw [show f = resOf a.tmps from funext hf]; exact e
  unfold results
  rw [hr, Sem.run_bind, List.mapM_toArray, Sem.run_map, key _ (fun r => by cases r <;> rfl)]
  simp only [Result.andThen_ok, Sem.run_pure]
  congr 1
  match vs with
  | [] => simp [eW]
  | [v] => simp [eW]
  | v :: u :: r => simp [eW]
theorem iG {rs : List ResultVar} {vs : List Value} (hr : fn.results = rs.toArray) (h : Rs x l L S rs vs) (k : ∀ w, Hp x.ok0 x.w0 L S w → R (.returned (eW vs)) w) : Lv x l L S fn R [] := fun a w h1 h2 h3 =>
  ⟨_, run_results' hr h h1 h2 h3, k w h3⟩
theorem lv_take {D i : Nat} {L' : List Ch} (hi : SetAt L i (Ch.obj D (.deferred (some []))) (Ch.obj D (.deferred none)) L') (k : Lv x l L' S fn R ds) : Lv x l L S fn R ({ target := .collected D, args := #[] } :: ds) := fun a w h1 h2 h3 => by
  have hD : w.heap[D]? = some (.deferred (some [])) := h3.own _ hi.mem
  exact ⟨nofun, .inl ⟨D, _, rfl, run_takeDeferred hD, k a _ h1 h2 (h3.putObj hi)⟩⟩
theorem e_lvr (h : Lv x l L S fn R x.ds) : E x l L S .ret (np (bodyPostM (fw none) 0 x.P fn R)) := fun a w ha hw => by
  show LeavesInM _ _ _ _ _ _ _ _ _
  rw [ha.df]; exact h a w ha.sz ha.kn hw
/-- .. of a function without a range over a function. -/
theorem dP {rs : List ResultVar} {vs : List Value} (hr : fn.results = rs.toArray) (h : Rs x l L S rs vs) (hd : x.ds = []) (k : ∀ w, Hp x.ok0 x.w0 L S w → R (.returned (eW vs)) w) : E x l L S .ret (np (bodyPost x.P fn R)) := fun a w ha hw =>
  ⟨ha.df.trans hd, _, run_results' hr h ha.sz ha.kn hw, k w hw⟩
end
/-- The chunks ahead of another one. -/
theorem Hp.f1 {ok0 : Nat → Prop} {w0 w : World} {a b : Ch} {L S : List Ch} (h : Hp ok0 w0 (a :: b :: L) S w) : Hp ok0 w0 (b :: a :: L) S w := h.perm (.swap a b L)
theorem Hp.f2 {ok0 : Nat → Prop} {w0 w : World} {a b c : Ch} {L S : List Ch} (h : Hp ok0 w0 (a :: b :: c :: L) S w) : Hp ok0 w0 (c :: a :: b :: L) S w := h.perm (List.perm_middle (l₁ := [a, b])).symm
theorem Hp.f3 {ok0 : Nat → Prop} {w0 w : World} {a b c d : Ch} {L S : List Ch} (h : Hp ok0 w0 (a :: b :: c :: d :: L) S w) : Hp ok0 w0 (d :: a :: b :: c :: L) S w := h.perm (List.perm_middle (l₁ := [a, b, c])).symm
theorem Hp.f4 {ok0 : Nat → Prop} {w0 w : World} {a b c d e : Ch} {L S : List Ch} (h : Hp ok0 w0 (a :: b :: c :: d :: e :: L) S w) : Hp ok0 w0 (e :: a :: b :: c :: d :: L) S w := h.perm (List.perm_middle (l₁ := [a, b, c, d])).symm
theorem Hp.f5 {ok0 : Nat → Prop} {w0 w : World} {a b c d e f : Ch} {L S : List Ch} (h : Hp ok0 w0 (a :: b :: c :: d :: e :: f :: L) S w) : Hp ok0 w0 (f :: a :: b :: c :: d :: e :: L) S w := h.perm (List.perm_middle (l₁ := [a, b, c, d, e])).symm
/-- An iterator's contract out of its body's walk. -/
theorem iter_of_W {P : Program} {gf : FuncId} {fn : Func} {cd : Code} {lb : List Value} {Sx : List Ch} {α : Type} {enc : α → List Value} {xs : List α} (N : Nat) (hf : P.funcs[gf]? = some fn) (hb : fn.body = some cd) (hn : fn.ntmps = N) (hN : Nat.ble (lb.length + 1) N = true)
    (h : ∀ (lr : Nat) (σ : Type) (I Ix : List α → σ → Prop) (C : σ → Ch) (Sc : List Ch), (∀ pre x post g, xs = pre ++ x :: post → I pre g → Yd P lr (enc x).toArray Sc C g (I (pre ++ [x])) (Ix (pre ++ [x]))) → ∀ g, I [] g → ∀ w,
      W ⟨P, none, N, [], (C g).ok, w⟩ (frm 0 (.func (.yield lr) #[] #[] :: lb)) [C g] (Sx ++ Sc) cd (np (bodyPost P fn fun e w' => ∃ o : {p : Value × σ // I xs p.2 ∨ ∃ pre post, xs = pre ++ post ∧ Ix pre p.2}, e = .returned o.1.1 ∧ Upd (C g).ok w w' ∧ (C o.1.2).P w' ∧ ∀ b, (C o.1.2).ok b → (C g).ok b ∨ (w.heap.size ≤ b ∧ b < w'.heap.size)))) :
    Iter P gf lb Sx enc xs := fun lr σ I Ix C Sc hy g hg => il N hf hb hn hN (h lr σ I Ix C Sc hy g hg)
theorem iter_end {σ α : Type} {I Ix : List α → σ → Prop} {C : σ → Ch} {xs : List α} {g : σ} {w w' : World} {S : List Ch} (v : Value) {g' : σ} (h : I xs g' ∨ ∃ pre post, xs = pre ++ post ∧ Ix pre g') {L : List Ch} (hw : Hp (C g).ok w (C g' :: L) S w') :
    ∃ o : {p : Value × σ // I xs p.2 ∨ ∃ pre post, xs = pre ++ post ∧ Ix pre p.2}, Ending.returned v = .returned o.1.1 ∧ Upd (C g).ok w w' ∧ (C o.1.2).P w' ∧ ∀ b, (C o.1.2).ok b → (C g).ok b ∨ (w.heap.size ≤ b ∧ b < w'.heap.size) :=
  ⟨⟨(v, g'), h⟩, rfl, hw.uc⟩
end Go.Proofs.YtnpdgmoeoidppaaGreat

/- Plain laws of labels and names: no program in sight. -/
namespace Go.Proofs.YtnpdgmoeoidppaaGreat
open Go.RowKit Go.Shelf
set_option linter.unusedVariables false
set_option linter.unusedSimpArgs false

/-- label.Check. -/
def fW (l : a6) : Int := if l.length = 0 then 2 else if 63 < l.length then 3 else 0
def e5 (c : UInt8) : UInt8 := if 65 ≤ c.toNat ∧ c.toNat ≤ 90 then UInt8.ofNat (c.toNat + 32) else c
def bO (s : a6) : a6 := s.map e5
/-- A first label that may be. -/
def d4 (n : a6) : Bool := decide (n ≠ [] ∧ 1 ≤ bt n 0 ∧ bt n 0 ≤ 63 ∧ bt n 0 < n.length)
def lab (n : a6) : a6 := (n.take (1 + bt n 0)).drop 1
def rst (n : a6) : a6 := n.drop (1 + bt n 0)
theorem cutOk_iff {n : a6} : d4 n = true ↔ n ≠ [] ∧ 1 ≤ bt n 0 ∧ bt n 0 ≤ 63 ∧ bt n 0 < n.length := by simp [d4]
theorem iE {n : a6} (h : d4 n = true) : (rst n).length < n.length := by
  have := cutOk_iff.1 h; simp [rst]; omega
theorem lab_length {n : a6} (h : d4 n = true) : (lab n).length = bt n 0 := by
  have := cutOk_iff.1 h; simp [lab]; omega
/-- The labels ahead of what may not be. -/
def labsF : Nat → a6 → List a6
  | 0, _ => []
  | f + 1, n => if d4 n then lab n :: labsF f (rst n) else []
def fj (n : a6) : List a6 := labsF n.length n
theorem labsF_st : ∀ (f g : Nat) (n : a6), n.length ≤ f → n.length ≤ g → labsF f n = labsF g n
  | 0, g, n, h, _ => by
    have : n = [] := List.length_eq_zero_iff.1 (by omega)
    subst this
    cases g <;> rfl
  | f + 1, 0, n, _, h => by
    have : n = [] := List.length_eq_zero_iff.1 (by omega)
    subst this
    rfl
  | f + 1, g + 1, n, hf, hg => by
    simp only [labsF]
    cases hc : d4 n with
    | false => rfl
    | true =>
      have := iE hc
      simp only [if_true]
      rw [labsF_st f g (rst n) (by omega) (by omega)]
theorem ic (n : a6) : fj n = if d4 n then lab n :: fj (rst n) else [] := by
  unfold fj
  rw [labsF_st n.length (n.length + 1) n (Nat.le_refl _) (by omega)]
  simp only [labsF]
  cases hc : d4 n with
  | false => rfl
  | true =>
    have := iE hc
    simp only [if_true]
    rw [labsF_st n.length (rst n).length (rst n) (by omega) (Nat.le_refl _)]
/-- May the octets be a name, but for their length? -/
def okF : Nat → a6 → Bool
  | 0, n => n.isEmpty
  | f + 1, n => n.isEmpty || (d4 n && okF f (rst n))
def jx (n : a6) : Bool := okF n.length n
theorem okF_st : ∀ (f g : Nat) (n : a6), n.length ≤ f → n.length ≤ g → okF f n = okF g n
  | 0, g, n, h, _ => by
    have : n = [] := List.length_eq_zero_iff.1 (by omega)
    subst this
    cases g <;> rfl
  | f + 1, 0, n, _, h => by
    have : n = [] := List.length_eq_zero_iff.1 (by omega)
    subst this
    rfl
  | f + 1, g + 1, n, hf, hg => by
    simp only [okF]
    cases hc : d4 n with
    | false => rfl
    | true =>
      have := iE hc
      rw [okF_st f g (rst n) (by omega) (by omega)]
theorem gK (n : a6) : jx n = (n.isEmpty || (d4 n && jx (rst n))) := by
  unfold jx
  rw [okF_st n.length (n.length + 1) n (Nat.le_refl _) (by omega)]
  simp only [okF]
  cases hc : d4 n with
  | false => rfl
  | true =>
    have := iE hc
    rw [okF_st n.length (rst n).length (rst n) (by omega) (Nat.le_refl _)]
/-- name.Check. -/
def bd (n : a6) : Int := if 254 < n.length then 3 else if jx n then 0 else 4
/-- Labels as octets. -/
def eB (ls : List a6) : a6 := ls.flatMap fun s => UInt8.ofNat s.length :: s
theorem gZ (s : a6) (r : List a6) : eB (s :: r) = UInt8.ofNat s.length :: (s ++ eB r) := by simp [eB]
theorem fN (a b : List a6) : eB (a ++ b) = eB a ++ eB b := by simp [eB]
theorem cut_split {n : a6} (h : d4 n = true) : n = UInt8.ofNat (lab n).length :: (lab n ++ rst n) := by
  obtain ⟨h1, h2, h3, h4⟩ := cutOk_iff.1 h
  rw [lab_length h]
  cases n with
  | nil => exact absurd rfl h1
  | cons c r =>
    have hb : bt (c :: r) 0 = c.toNat := rfl
    have hc : UInt8.ofNat (bt (c :: r) 0) = c := by rw [hb]; simp
    rw [hc]
    congr 1
    simp only [lab, rst]
    rw [Nat.add_comm 1 (bt (c :: r) 0), List.take_succ_cons, List.drop_succ_cons, List.drop_succ_cons, List.drop_zero, List.take_append_drop]
theorem gq : ∀ (n : a6), jx n = true → eB (fj n) = n
  | n, h => by
    rw [gK] at h
    by_cases he : n = []
    · subst he; rfl
    · have hc : d4 n = true ∧ jx (rst n) = true := by simpa [he] using h
      have := iE hc.1
      rw [ic, hc.1, if_pos rfl, gZ, gq (rst n) hc.2]
      exact (cut_split hc.1).symm
termination_by n => n.length
theorem fD : ∀ (n : a6), ∀ s ∈ fj n, 1 ≤ s.length ∧ s.length ≤ 63
  | n, s, h => by
    rw [ic] at h
    by_cases hc : d4 n = true
    · have := iE hc
      rw [if_pos hc] at h
      rcases List.mem_cons.1 h with rfl | h
      · have := cutOk_iff.1 hc; rw [lab_length hc]; omega
      · exact fD (rst n) s h
    · rw [if_neg hc] at h; cases h
termination_by n => n.length
theorem labs_len (n : a6) : (fj n).length ≤ n.length := by
  rw [ic]
  by_cases hc : d4 n = true
  · have h1 := iE hc
    have h2 := labs_len (rst n)
    rw [if_pos hc, List.length_cons]; omega
  · rw [if_neg hc]; simp
termination_by n.length
theorem cutOk_cons {s r : a6} (h : 1 ≤ s.length) (h2 : s.length ≤ 63) : d4 (UInt8.ofNat s.length :: (s ++ r)) = true ∧ lab (UInt8.ofNat s.length :: (s ++ r)) = s ∧ rst (UInt8.ofNat s.length :: (s ++ r)) = r := by
  have hb : bt (UInt8.ofNat s.length :: (s ++ r)) 0 = s.length := by
    show (UInt8.ofNat s.length).toNat = s.length
    simp; omega
  refine ⟨cutOk_iff.2 ⟨nofun, by omega, by omega, by rw [hb]; simp; omega⟩, ?_, ?_⟩
  · simp [lab, hb, Nat.add_comm 1]
  · simp [rst, hb, Nat.add_comm 1]
theorem gF : ∀ ls : List a6, (∀ s ∈ ls, 1 ≤ s.length ∧ s.length ≤ 63) → jx (eB ls) = true ∧ fj (eB ls) = ls
  | [], _ => ⟨rfl, rfl⟩
  | s :: r, h => by
    have hs := h s List.mem_cons_self
    obtain ⟨h1, h2⟩ := gF r (fun t ht => h t (List.mem_cons_of_mem _ ht))
    obtain ⟨c1, c2, c3⟩ := cutOk_cons (r := eB r) hs.1 hs.2
    rw [gZ]
    constructor
    · rw [gK, c1, c3, h1]; simp
    · rw [ic, c1, c2, c3, h2]; rfl
theorem u8len {n : Nat} (h : n ≤ 63) : ((UInt8.ofNat n).toNat : Int) = n := by simp; omega
/-- name.Make. -/
def dO : List a6 → Int
  | [] => 0
  | s :: r => if fW s = 0 then dO r else fW s
def fR (ls : List a6) : a6 × Int := if dO ls ≠ 0 then ([], dO ls) else if 254 < (eB ls).length then ([], 3) else (eB ls, 0)
theorem labCk_zero {s : a6} : fW s = 0 ↔ 1 ≤ s.length ∧ s.length ≤ 63 := by
  unfold fW; split
  · simp; omega
  · split
    · simp; omega
    · simp; omega
theorem firstCk_zero : ∀ {ls : List a6}, dO ls = 0 ↔ ∀ s ∈ ls, 1 ≤ s.length ∧ s.length ≤ 63
  | [] => by simp [dO]
  | s :: r => by
    have := firstCk_zero (ls := r)
    simp only [dO]
    by_cases h : fW s = 0
    · rw [if_pos h, this, List.forall_mem_cons]; exact ⟨fun k => ⟨labCk_zero.1 h, k⟩, fun k => k.2⟩
    · rw [if_neg h, List.forall_mem_cons]; exact ⟨fun k => absurd k h, fun k => absurd (labCk_zero.2 k.1) h⟩
/-- name.Labels, name.Fold. -/
def bk (n : a6) : List a6 := if bd n = 0 then fj n else []
def a7 (n : a6) : a6 := if bd n = 0 then bO n else []
theorem dW (s : a6) : (bO s).length = s.length := by simp [bO]
theorem lowB_small {c : UInt8} (h : c.toNat ≤ 63) : e5 c = c := by unfold e5; rw [if_neg (by omega)]
theorem lowB_lowB (c : UInt8) : e5 (e5 c) = e5 c := by
  unfold e5
  by_cases h : 65 ≤ c.toNat ∧ c.toNat ≤ 90
  · have e : (UInt8.ofNat (c.toNat + 32)).toNat = c.toNat + 32 := by simp; omega
    rw [if_pos h, if_neg (by rw [e]; omega)]
  · rw [if_neg h, if_neg h]
theorem iy : ∀ ls : List a6, (∀ s ∈ ls, 1 ≤ s.length ∧ s.length ≤ 63) → eB (ls.map bO) = bO (eB ls)
  | [], _ => rfl
  | s :: r, h => by
    have hs := h s List.mem_cons_self
    have hc : e5 (UInt8.ofNat s.length) = UInt8.ofNat s.length := lowB_small (by simp; omega)
    rw [List.map_cons, gZ, gZ, iy r (fun t ht => h t (List.mem_cons_of_mem _ ht)), dW]
    simp only [bO, List.map_cons, List.map_append, hc]
theorem nameCk_zero {n : a6} : bd n = 0 ↔ n.length ≤ 254 ∧ jx n = true := by
  unfold bd; split
  · simp; omega
  · split
    · simp_all
    · simp_all
/-- What name.Make tells of the folded labels is the name folded. -/
theorem iR (n : a6) : (fR ((bk n).map bO)).1 = a7 n := by
  unfold bk a7
  by_cases h : bd n = 0
  · rw [if_pos h, if_pos h]
    obtain ⟨h1, h2⟩ := nameCk_zero.1 h
    have hl : ∀ s ∈ (fj n).map bO, 1 ≤ s.length ∧ s.length ≤ 63 := by
      intro s hs
      obtain ⟨t, ht, rfl⟩ := List.mem_map.1 hs
      rw [dW]; exact fD n t ht
    have he := iy (fj n) (fD n)
    rw [gq n h2] at he
    unfold fR
    rw [if_neg (by simpa using firstCk_zero.2 hl), he, if_neg (by rw [dW]; omega)]
  · rw [if_neg h, if_neg h]; rfl
end Go.Proofs.YtnpdgmoeoidppaaGreat
