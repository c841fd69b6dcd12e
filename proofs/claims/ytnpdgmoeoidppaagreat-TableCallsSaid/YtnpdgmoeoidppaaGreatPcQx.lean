import Derived.Test.YtnpdgmoeoidppaaGreatLlQx
/- Maps. -/
namespace Go.Proofs.YtnpdgmoeoidppaaGreat
open Go.RowKit Go.Shelf
set_option linter.unusedVariables false
set_option linter.unusedSimpArgs false
set_option linter.unusedSectionVars false

/-- The first entry of a key. -/
def fk {α : Type} [DecidableEq α] (a : α) : List α → List MapEntry → Nat → Option (Nat × Value)
  | b :: bs, e :: es, i => if a = b then some (i, e.val) else fk a bs es (i + 1)
  | _, _, _ => none
theorem beq_ba (a b : a6) : ((ba a) == (ba b)) = decide (a = b) := by
  rw [beq_toListBytes, f9, f9, Bool.eq_iff_iff]; simp
/-- How keys are compared. -/
structure KeyL {α : Type} [DecidableEq α] (P : Program) (kt : TypeId) (encK : α → Value) : Prop where
  chk : ∀ (e : Bool) (a : α) (w : World), (Instr.checkKey e 10000 kt (encK a)).run P w = .ok () w
  find : ∀ (a : α) (bs : List α) (es : List MapEntry) (w : World), es.map (·.key) = bs.map encK → (Instr.findKey kt (encK a) es).run P w = .ok (fk a bs es 0) w
  same : ∀ a : α, Instr.sameBits 10000 (encK a) (encK a) = true
theorem fM {P : Program} {kt : TypeId} (h : P.underlying kt = some .string) : KeyL P kt (fun s : a6 => .string (ba s)) where
  chk e a w := by
    have hk : ∀ n, (Instr.checkKey e (n + 1) kt (.string (ba a))).run P w = .ok () w := fun n => by simp [Instr.checkKey, run_underlying h]
    exact hk 9999
  find a bs es w he := by
    have key : ∀ (bs : List a6) (es : List MapEntry) (i : Nat), es.map (·.key) = bs.map (fun s : a6 => Value.string (ba s)) → Instr.findNow .string (.string (ba a)) es i = some (fk a bs es i) := by
      intro bs
      induction bs with
      | nil => intro es i he; cases es <;> simp_all [Instr.findNow, fk]
      | cons b bs ih =>
        intro es i he
        cases es with
        | nil => simp at he
        | cons e es =>
          simp only [List.map_cons, List.cons.injEq] at he
          have hb : ((ba a) == (ba b)) = decide (a = b) := by
            rw [beq_ba]
          simp only [Instr.findNow, he.1, Instr.sameNow, hb, fk]
          by_cases hab : a = b
          · simp [hab]
          · simp [hab, ih es (i + 1) he.2]
    simp [Instr.findKey, run_underlying h, key bs es 0 he]
  same a := by
    have h1 : (ba a == ba a) = true := by rw [beq_ba]; simp
    simpa [Instr.sameBits] using h1
/-- A struct's key. -/
theorem keyl_agg {α : Type} [DecidableEq α] {P : Program} {kt : TypeId} {fs : Array Field} {cs : α → List Value} {n : Nat} (h : P.underlying kt = some (.struct fs)) (hc : ∀ (e : Bool) (a : α) (w : World), (Instr.checkKey e 10000 kt (.agg (cs a).toArray)).run P w = .ok () w)
    (he : ∀ a b : α, EqD P n kt (.agg (cs a).toArray) (.agg (cs b).toArray) (decide (a = b))) (hn : Nat.ble n 10000 = true) (hs : ∀ a, Instr.sameBits 10000 (.agg (cs a).toArray) (.agg (cs a).toArray) = true) : KeyL P kt (fun a : α => .agg (cs a).toArray) where
  chk := hc
  find a bs es w hk := by
    have key : ∀ (bs : List α) (es : List MapEntry) (i : Nat) (w : World), es.map (·.key) = bs.map (fun a : α => Value.agg (cs a).toArray) → (Instr.findAsking kt (.agg (cs a).toArray) es i).run P w = .ok (fk a bs es i) w := by
      intro bs
      induction bs with
      | nil => intro es i w he; cases es <;> simp_all [Instr.findAsking, fk]
      | cons b bs ih =>
        intro es i w hes
        cases es with
        | nil => simp at hes
        | cons e es =>
          simp only [List.map_cons, List.cons.injEq] at hes
          have hq : (Op.equal kt (.agg (cs a).toArray) (.agg (cs b).toArray)).run P w = .ok (decide (a = b)) w := by
            obtain ⟨k, hk⟩ : ∃ k, 10000 = k + n := ⟨10000 - n, by have := Nat.le_of_ble_eq_true hn; omega⟩
            show (Op.equalIn 10000 kt _ _).run P w = _
            rw [hk]; exact he a b k w
          simp only [Instr.findAsking, hes.1, Sem.run_bind, hq, Result.andThen_ok, fk]
          by_cases hab : a = b
          · simp [hab]
          · simp [hab, ih es (i + 1) w hes.2]
    cases bs with
    | nil =>
      have : es = [] := by cases es <;> simp_all
      subst this
      simp [Instr.findKey, run_underlying h, Instr.findNow, fk]
    | cons b bs =>
      cases es with
      | nil => simp at hk
      | cons e es =>
        have h1 : e.key = .agg (cs b).toArray := (List.cons.inj hk).1
        have hnow : Instr.findNow (.struct fs) (.agg (cs a).toArray) (e :: es) 0 = none := by simp [Instr.findNow, h1, Instr.sameNow]
        simp only [Instr.findKey, Sem.run_bind, run_underlying h, Result.andThen_ok, hnow]
        exact key (b :: bs) (e :: es) 0 w hk
  same := hs
/-- A map's pairs: another value for a key, or one more. -/
def upd {α β : Type} [DecidableEq α] : List (α × β) → α → β → List (α × β)
  | [], a, v => [(a, v)]
  | (b, u) :: r, a, v => if a = b then (b, v) :: r else (b, u) :: upd r a v
def lkp {α β : Type} [DecidableEq α] : List (α × β) → α → Option β
  | [], _ => none
  | (b, u) :: r, a => if a = b then some u else lkp r a
def rmv {α β : Type} [DecidableEq α] : List (α × β) → α → List (α × β)
  | [], _ => []
  | (b, u) :: r, a => if a = b then r else (b, u) :: rmv r a
structure MpP {α β : Type} (r : Nat) (encK : α → Value) (encV : β → Value) (m : List (α × β)) (w : World) : Prop where
  at_ : ∃ es clock, w.heap[r]? = some (.map es clock) ∧ es.toList.map (·.key) = m.map (fun p => encK p.1) ∧ es.toList.map (·.val) = m.map (fun p => encV p.2) ∧ (es.toList.map (·.born)).Nodup ∧ ∀ e ∈ es.toList, e.born < clock
def Ch.mp {α β : Type} (r : Nat) (encK : α → Value) (encV : β → Value) (m : List (α × β)) : Ch :=
  ⟨fun k => k = r, MpP r encK encV m, fun w w' ⟨es, c, h1, h2⟩ hk => ⟨es, c, (hk r rfl).trans h1, h2⟩⟩
section
variable {α β : Type} [DecidableEq α] {encK : α → Value} {encV : β → Value}
theorem fk_lkp (a : α) : ∀ (m : List (α × β)) (es : List MapEntry) (i : Nat), es.map (·.val) = m.map (fun p => encV p.2) → (fk a (m.map (·.1)) es i).map (·.2) = (lkp m a).map encV
  | [], es, i, h => by cases es <;> simp_all [fk, lkp]
  | (b, u) :: m, [], i, h => by simp at h
  | (b, u) :: m, e :: es, i, h => by
    simp only [List.map_cons, List.cons.injEq] at h
    simp only [List.map_cons, fk, lkp]
    by_cases hab : a = b
    · simp [hab, h.1]
    · simp [hab, fk_lkp a m es (i + 1) h.2]
theorem fk_none (a : α) : ∀ (m : List (α × β)) (es : List MapEntry) (i : Nat), es.length = m.length → fk a (m.map (·.1)) es i = none → ∀ v : β, upd m a v = m ++ [(a, v)]
  | [], es, i, _, h => fun v => rfl
  | (b, u) :: m, [], i, hl, h => by simp at hl
  | (b, u) :: m, e :: es, i, hl, h => fun v => by
    simp only [List.map_cons, fk] at h
    by_cases hab : a = b
    · rw [if_pos hab] at h; cases h
    · rw [if_neg hab] at h
      simp only [upd, if_neg hab, List.cons_append]
      rw [fk_none a m es (i + 1) (by simpa using hl) h v]
theorem fk_some (a : α) : ∀ (m : List (α × β)) (es : List MapEntry) (i j : Nat) (u : Value), es.length = m.length → fk a (m.map (·.1)) es i = some (j, u) → i ≤ j ∧ (∃ e, es[j - i]? = some e) ∧ ((m.map (·.1))[j - i]? = some a) ∧
    ∀ v : β, (upd m a v).map (·.1) = m.map (·.1) ∧ (upd m a v).map (fun p => encV p.2) = (m.map (fun p => encV p.2)).set (j - i) (encV v) ∧ (rmv m a) = m.eraseIdx (j - i)
  | [], es, i, j, u, _, h => by simp [fk] at h
  | (b, v0) :: m, [], i, j, u, hl, h => by simp at hl
  | (b, v0) :: m, e :: es, i, j, u, hl, h => by
    simp only [List.map_cons, fk] at h
    by_cases hab : a = b
    · rw [if_pos hab] at h
      cases h
      subst hab
      simp [upd, rmv]
    · rw [if_neg hab] at h
      obtain ⟨h1, h2, h3, h4⟩ := fk_some a m es (i + 1) j u (by simpa using hl) h
      have hj : j - i = (j - (i + 1)) + 1 := by omega
      refine ⟨by omega, by rw [hj]; simpa using h2, by rw [hj]; simpa using h3, fun v => ?_⟩
      obtain ⟨h5, h6, h7⟩ := h4 v
      rw [hj]
      simp [upd, rmv, hab, h5, h6, h7]
end
section
variable {x : Cx} {l : Fr} {L S : List Ch} {Q : Exit → Act → World → Prop} {ops : Array Oper} {rest : List Oper} {d : Nat} {ty : TypeId} {pos : String} {af : Array Edge} {gd : Option (Nat × Bool)}
variable {α β : Type} [DecidableEq α] {encK : α → Value} {encV : β → Value}
theorem iT (encK : α → Value) (encV : β → Value) {t : TypeId} (hN : Nat.blt d x.N = true) (k : ∀ r, WL x ((d, .map (some r)) :: l) (Ch.mp r encK encV ([] : List (α × β)) :: L) S ops rest Q) : WL x l L S ops (⟨some d, .makeMap t none, ty, pos, af, none⟩ :: rest) Q :=
  ig (fun r => .map (some r)) (fun r => Ch.mp r encK encV ([] : List (α × β)) :: L) (fun _ => S) rfl rfl (fun _ => nofun) hN
    (fun a w ha hw => ⟨w.heap.size, w.alloc (.map #[] 0), by simp [execOp, Instr.makeMap], hw.fresh (Upd.alloc w _) _ ⟨#[], 0, World.alloc_heap_new w _, rfl, rfl, by simp, by simp⟩ (fun b hb => Nat.le_of_eq hb.symm) (fun b hb => by rw [show b = w.heap.size from hb]; simp)⟩) k
theorem MpP.find {P : Program} {kt : TypeId} {r : Nat} {m : List (α × β)} {w : World} (h : MpP r encK encV m w) (hk : KeyL P kt encK) (a : α) : ∃ es clock, w.heap[r]? = some (.map es clock) ∧ (Instr.findKey kt (encK a) es.toList).run P w = .ok (fk a (m.map (·.1)) es.toList 0) w ∧ (fk a (m.map (·.1)) es.toList 0).map (·.2) = (lkp m a).map encV := by
  obtain ⟨es, c, h1, h2, h3, _⟩ := h.at_
  exact ⟨es, c, h1, hk.find a (m.map (·.1)) es.toList w (by rw [h2, List.map_map]; rfl), fk_lkp a m es.toList 0 h3⟩
theorem ix {t kt et : TypeId} {y z : Operand} {r : Nat} {m : List (α × β)} {a : α} {agg : Bool} {sz bytes : Nat} {zv : Value} (ht : x.P.underlying t = some (.map kt et)) (hk : KeyL x.P kt encK) (he : TyI x.P et agg sz bytes zv) (hy : ev l y = some (.map (some r))) (hz : ev l z = some (encK a)) (hm : ∀ w, Hp x.ok0 x.w0 L S w → MpP r encK encV m w) :
    Yv x l L S ⟨some d, .lookup t y z false, ty, pos, af, gd⟩ (((lkp m a).map encV).getD zv) := fun ac w hac hw => by
  obtain ⟨es, c, h1, h2, h3⟩ := (hm w hw).find hk a
  simp only [execOp, hac.ev hy, hac.ev hz]
  cases hf : fk a (m.map (·.1)) es.toList 0 with
  | none =>
    rw [hf] at h2 h3
    have h4 : lkp m a = none := by simpa using h3.symm
    simp [Instr.lookup, run_underlying ht, getObj, Sem.run, h1, hk.chk, h2, he.zero, h4, Result.andThen]
  | some p =>
    obtain ⟨j, v⟩ := p
    rw [hf] at h2 h3
    have h4 : (lkp m a).map encV = some v := by simpa using h3.symm
    simp [Instr.lookup, run_underlying ht, getObj, Sem.run, h1, hk.chk, h2, h4, Result.andThen]
theorem upd_some {es : List MapEntry} {m : List (α × β)} {a : α} {j : Nat} {u : Value} {v : β} (h2 : es.map (·.key) = m.map (fun p => encK p.1)) (h3 : es.map (·.val) = m.map (fun p => encV p.2)) (hf : fk a (m.map (·.1)) es 0 = some (j, u)) :
    (∃ e, es[j]? = some e ∧ e.key = encK a) ∧ (es.modify j fun e => { e with key := encK a, val := encV v }).map (·.key) = (upd m a v).map (fun p => encK p.1) ∧ (es.modify j fun e => { e with key := encK a, val := encV v }).map (·.val) = (upd m a v).map (fun p => encV p.2) ∧
      (es.modify j fun e => { e with key := encK a, val := encV v }).map (·.born) = es.map (·.born) := by
  have hl : es.length = m.length := by have := congrArg List.length h2; simpa using this
  obtain ⟨_, ⟨e, he⟩, hm, hq⟩ := fk_some (encV := encV) a m es 0 j u hl hf
  obtain ⟨q1, q2, q3⟩ := hq v
  simp only [Nat.sub_zero] at he hm q1 q2 q3
  have hek : e.key = encK a := by
    have h5 := congrArg (fun l : List Value => l[j]?) h2
    simp only [List.getElem?_map, he] at h5
    rw [List.getElem?_map] at hm
    cases hmj : m[j]? with
    | none => rw [hmj] at hm; cases hm
    | some p => rw [hmj] at hm h5; simp at hm h5; rw [h5, hm]
  have hk1 : (upd m a v).map (fun p => encK p.1) = m.map (fun p => encK p.1) := by
    have := congrArg (List.map encK) q1
    rw [List.map_map, List.map_map] at this
    exact this
  refine ⟨⟨e, he, hek⟩, ?_, ?_, ?_⟩
  · rw [hk1, ← h2]
    apply List.ext_getElem?
    intro i
    simp only [List.getElem?_map, List.getElem?_modify]
    by_cases hij : j = i
    · subst hij; simp [he, hek]
    · simp [hij]
  · rw [q2, ← h3]
    apply List.ext_getElem?
    intro i
    simp only [List.getElem?_map, List.getElem?_modify, List.getElem?_set]
    by_cases hij : j = i
    · subst hij
      have := (List.getElem?_eq_some_iff.1 he).1
      simp [he, this]
    · simp [hij]
  · apply List.ext_getElem?
    intro i
    simp only [List.getElem?_map, List.getElem?_modify]
    by_cases hij : j = i
    · subst hij; simp [he]
    · simp [hij]
theorem iI {t kt et : TypeId} {y z u : Operand} {r i : Nat} {m : List (α × β)} {a : α} {v : β} {L' : List Ch} (ht : x.P.underlying t = some (.map kt et)) (hk : KeyL x.P kt encK) (hy : ev l y = some (.map (some r))) (hz : ev l z = some (encK a)) (hu : ev l u = some (encV v)) (hi : SetAt L i (Ch.mp r encK encV m) (Ch.mp r encK encV (upd m a v)) L')
    (k : WL x l L' S ops rest Q) : WL x l L S ops (⟨none, .mapUpdate t y z u, ty, pos, af, none⟩ :: rest) Q :=
  wl_unit rfl rfl (fun _ => nofun) (fun ac w hac hw => by
    obtain ⟨es, c, h1, h2, h3, h4, h5⟩ := (show MpP r encK encV m w from hw.own _ hi.mem).at_
    have hfind := hk.find a (m.map (·.1)) es.toList w (by rw [h2, List.map_map]; rfl)
    have hlt : r < w.heap.size := (Array.getElem?_eq_some_iff.1 h1).1
    cases hf : fk a (m.map (·.1)) es.toList 0 with
    | none =>
      rw [hf] at hfind
      have hl : es.toList.length = m.length := by have := congrArg List.length h2; simpa using this
      have hupd := fk_none a m es.toList 0 hl hf v
      refine ⟨w.putObj r (.map (es.push { key := encK a, val := encV v, born := c }) (c + 1)), ?_, hw.upd hi ⟨rfl, rfl, rfl, by simp, fun k _ hn => World.putObj_heap_other (fun e => hn e), Nat.le_refl _⟩ ?_ (fun b hb => .inl hb)⟩
      · simp [execOp, hac.ev hy, hac.ev hz, hac.ev hu, Instr.mapUpdate, run_underlying ht, getObj, setObj, Sem.run, h1, hk.chk, hfind, Result.andThen, World.putObj]
      · refine ⟨_, _, World.putObj_heap_same hlt, ?_, ?_, ?_, ?_⟩
        · rw [hupd]; simp [h2]
        · rw [hupd]; simp [h3]
        · simp only [Array.toList_push, List.map_append, List.map_cons, List.map_nil]
          rw [List.nodup_append]
          refine ⟨h4, by simp, ?_⟩
          intro b hb c' hc'
          simp at hc'
          obtain ⟨e, he, rfl⟩ := List.mem_map.1 hb
          have := h5 e he
          omega
        · intro e he
          simp only [Array.toList_push, List.mem_append, List.mem_singleton] at he
          rcases he with he | rfl
          · have := h5 e he; omega
          · simp
    | some p =>
      obtain ⟨j, u0⟩ := p
      rw [hf] at hfind
      obtain ⟨⟨e, he, hek⟩, q1, q2, q3⟩ := upd_some (v := v) h2 h3 hf
      have he' : es[j]? = some e := by simpa using he
      have hstay : (Instr.keyThatStays e.key (encK a)).run x.P w = .ok (encK a) w := by
        rw [hek]; simp [Instr.keyThatStays, hk.same]
      refine ⟨w.putObj r (.map (es.modify j fun e => { e with key := encK a, val := encV v }) c), ?_, hw.upd hi ⟨rfl, rfl, rfl, by simp, fun k _ hn => World.putObj_heap_other (fun e => hn e), Nat.le_refl _⟩ ?_ (fun b hb => .inl hb)⟩
      · simp [execOp, hac.ev hy, hac.ev hz, hac.ev hu, Instr.mapUpdate, run_underlying ht, getObj, setObj, Sem.run, h1, hk.chk, hfind, he', hstay, Result.andThen, World.putObj]
      · refine ⟨_, _, World.putObj_heap_same hlt, by simpa using q1, by simpa using q2, by rw [Array.toList_modify, q3]; exact h4, ?_⟩
        intro e2 he2
        have hb : e2.born ∈ es.toList.map (·.born) := by
          rw [← q3, ← Array.toList_modify]; exact List.mem_map.2 ⟨e2, he2, rfl⟩
        obtain ⟨e3, h6, h7⟩ := List.mem_map.1 hb
        rw [← h7]; exact h5 e3 h6) k
end
end Go.Proofs.YtnpdgmoeoidppaaGreat

/- Addresses, records, entries: plain laws. -/
namespace Go.Proofs.YtnpdgmoeoidppaaGreat
open Go.RowKit Go.Shelf
set_option linter.unusedVariables false
set_option linter.unusedSimpArgs false

/-- An address. -/
structure Ad where
  six : Bool
  hi : Int
  lo : Int
  deriving DecidableEq
def gw (a : Ad) : List Value := [.bool a.six, .int .u64 a.hi, .int .u64 a.lo]
theorem fT : Enc gw 3 := ⟨fun _ => rfl, fun _ => rfl⟩
def jZ : Ad := ⟨false, 0, 0⟩
/-- A record's data (without texts). -/
structure Dt where
  ad : Ad
  name : a6
  mail : a6
  n0 : Int
  n1 : Int
  n2 : Int
  n3 : Int
  n4 : Int
  raw : a6
  deriving DecidableEq
/-- A record. -/
structure Rc where
  name : a6
  ty : Int
  cl : Int
  ttl : Int
  dt : Dt
  deriving DecidableEq
/-- An entry; where its slices lie stands beside. -/
structure En where
  host : a6
  kind : Int
  cluster : a6
  addrs : List Ad
  alias : a6
  ports : List Int
  ttl : Int
  deriving DecidableEq
def enC (e : En) (A B : Option Addr) (c d : Nat) : List Value := [.string (ba e.host), .int .i64 e.kind, .string (ba e.cluster), .slice A e.addrs.length c, .string (ba e.alias), .slice B e.ports.length d, .int .u32 e.ttl]

/-- addr.Check. -/
def gr (a : Ad) : Int := if a.six = false ∧ (a.hi ≠ 0 ∨ 4294967296 ≤ a.lo) then 2 else 0
theorem shr32 {n : Int} (h : 0 ≤ n) : (n.fdiv (2 ^ min (32 : Int).toNat IntKind.u64.bits) ≠ 0) ↔ 4294967296 ≤ n := by
  have e : (2 : Int) ^ min (32 : Int).toNat IntKind.u64.bits = 4294967296 := by decide
  rw [e, Int.fdiv_eq_ediv_of_nonneg _ (by decide)]
  omega
/-- name.Wild. -/
def iF (n : a6) : Bool := decide (bd n = 0) && decide ([1, 42] <+: n)
/-- entry.ports. -/
def iH (l : List Int) (i : Nat) : Prop := 1 ≤ l.getD i 0 ∧ l.getD i 0 ≤ 65535 ∧ (0 < i → l.getD (i - 1) 0 < l.getD i 0)
instance (l : List Int) (i : Nat) : Decidable (iH l i) := by unfold iH; infer_instance
def cU (l : List Int) : Bool := decide (∀ i, i < l.length → iH l i) && decide (l.length ≤ 8)
/-- entry.addrs. -/
def adOk (l : List Ad) (i : Nat) : Prop := gr (l.getD i jZ) = 0 ∧ ∀ j, j < i → l.getD i jZ ≠ l.getD j jZ
instance (l : List Ad) (i : Nat) : Decidable (adOk l i) := by unfold adOk; infer_instance
def jH (l : List Ad) : Bool := decide (∀ i, i < l.length → adOk l i) && decide (1 ≤ l.length) && decide (l.length ≤ 8)
/-- entry.may, entry.Check. -/
def aO (e : En) : Bool :=
  if e.kind = 1 then jH e.addrs && decide (e.alias = []) && decide (fW e.cluster = 0)
  else if e.kind = 2 then decide (e.addrs.length = 0) && decide (e.alias = []) && decide (fW e.cluster = 0)
  else if e.kind = 3 then decide (e.addrs.length = 0) && decide (e.ports.length = 0) && decide (e.cluster = []) && decide (e.alias ≠ []) && decide (bd e.alias = 0) && !iF e.alias
  else false
def cV (e : En) : Int := if bd e.host ≠ 0 then bd e.host else if e.host = [] ∨ 2147483647 < e.ttl ∨ cU e.ports = false ∨ aO e = false then 2 else 0
def each {α : Type} (D : α → Dt) (B : α → Bool) (r : Rc) (l : List α) : List Rc := (l.filter B).map fun a => { r with dt := D a }
end Go.Proofs.YtnpdgmoeoidppaaGreat
