import Derived.Test.YtnpdgmoeoidppaaGreatLlQh
import Derived.Test.YtnpdgmoeoidppaaGreatPaQh
import Derived.ProofKit
import Derived.ChangeArms
import Derived.ChangeOld
/- Maps. -/
namespace Go.Proofs.YtnpdgmoeoidppaaGreat
open Go.RowKit Go.Shelf
set_option linter.unusedVariables false
set_option linter.unusedSimpArgs false
set_option linter.unusedSectionVars false

/-- The first entry of a key. -/
def fk {α : Type} [DecidableEq α] (a : α) : List α → List MapEntry → Nat → Option (Nat × Value)
  | b :: bs, e :: es, i => if a = b then some (i, e.val) else fk a bs es (i + 1)
  | _, _, _ => none
theorem beq_ba (a b : aX) : ((ba a) == (ba b)) = decide (a = b) := by
  rw [beq_toListBytes, d4, d4, Bool.eq_iff_iff]; simp
/-- How keys are compared. -/
structure KeyL {α : Type} [DecidableEq α] (P : Program) (kt : TypeId) (encK : α → Value) : Prop where
  chk : ∀ (e : Bool) (a : α) (w : World), (Instr.checkKey e 10000 kt (encK a)).run P w = .ok () w
  find : ∀ (a : α) (bs : List α) (es : List MapEntry) (w : World), es.map (·.key) = bs.map encK → (Instr.findKey kt (encK a) es).run P w = .ok (fk a bs es 0) w
  same : ∀ a : α, Instr.sameBits 10000 (encK a) (encK a) = true
theorem c7 {P : Program} {kt : TypeId} (h : P.underlying kt = some .string) : KeyL P kt (fun s : aX => .string (ba s)) where
  chk e a w := by
    have hk : ∀ n, (Instr.checkKey e (n + 1) kt (.string (ba a))).run P w = .ok () w := fun n => by simp [Instr.checkKey, run_underlying h]
    exact hk 9999
  find a bs es w he := by
    have key : ∀ (bs : List aX) (es : List MapEntry) (i : Nat), es.map (·.key) = bs.map (fun s : aX => Value.string (ba s)) → Instr.findNow .string (.string (ba a)) es i = some (fk a bs es i) := by
      intro bs
      induction bs with
      | nil => intro es i he; cases es <;> simp_all [Instr.findNow, fk]
      | cons b bs ih =>
        intro es i he
        cases es with
        | nil => simp at he
        | cons e es =>
          simp only [List.map_cons, List.cons.injEq] at he
          have hb : ((ba a) == (ba b)) = decide (a = b) := by
            rw [beq_ba]
          simp only [Instr.findNow, he.1, Instr.sameNow, hb, fk]
          by_cases hab : a = b
          · simp [hab]
          · simp [hab, ih es (i + 1) he.2]
    simp [Instr.findKey, run_underlying h, key bs es 0 he]
  same a := by
    have h1 : (ba a == ba a) = true := by rw [beq_ba]; simp
    simpa [Instr.sameBits] using h1
/-- A struct's key. -/
theorem keyl_agg {α : Type} [DecidableEq α] {P : Program} {kt : TypeId} {fs : Array Field} {cs : α → List Value} {n : Nat} (h : P.underlying kt = some (.struct fs)) (hc : ∀ (e : Bool) (a : α) (w : World), (Instr.checkKey e 10000 kt (.agg (cs a).toArray)).run P w = .ok () w)
    (he : ∀ a b : α, EqD P n kt (.agg (cs a).toArray) (.agg (cs b).toArray) (decide (a = b))) (hn : Nat.ble n 10000 = true) (hs : ∀ a, Instr.sameBits 10000 (.agg (cs a).toArray) (.agg (cs a).toArray) = true) : KeyL P kt (fun a : α => .agg (cs a).toArray) where
  chk := hc
  find a bs es w hk := by
    have key : ∀ (bs : List α) (es : List MapEntry) (i : Nat) (w : World), es.map (·.key) = bs.map (fun a : α => Value.agg (cs a).toArray) → (Instr.findAsking kt (.agg (cs a).toArray) es i).run P w = .ok (fk a bs es i) w := by
      intro bs
      induction bs with
      | nil => intro es i w he; cases es <;> simp_all [Instr.findAsking, fk]
      | cons b bs ih =>
        intro es i w hes
        cases es with
        | nil => simp at hes
        | cons e es =>
          simp only [List.map_cons, List.cons.injEq] at hes
          have hq : (Op.equal kt (.agg (cs a).toArray) (.agg (cs b).toArray)).run P w = .ok (decide (a = b)) w := by
            obtain ⟨k, hk⟩ : ∃ k, 10000 = k + n := ⟨10000 - n, by have := Nat.le_of_ble_eq_true hn; omega⟩
            show (Op.equalIn 10000 kt _ _).run P w = _
            rw [hk]; exact he a b k w
          simp only [Instr.findAsking, hes.1, Sem.run_bind, hq, Result.andThen_ok, fk]
          by_cases hab : a = b
          · simp [hab]
          · simp [hab, ih es (i + 1) w hes.2]
    cases bs with
    | nil =>
      have : es = [] := by cases es <;> simp_all
      subst this
      simp [Instr.findKey, run_underlying h, Instr.findNow, fk]
    | cons b bs =>
      cases es with
      | nil => simp at hk
      | cons e es =>
        have h1 : e.key = .agg (cs b).toArray := (List.cons.inj hk).1
        have hnow : Instr.findNow (.struct fs) (.agg (cs a).toArray) (e :: es) 0 = none := by simp [Instr.findNow, h1, Instr.sameNow]
        simp only [Instr.findKey, Sem.run_bind, run_underlying h, Result.andThen_ok, hnow]
        exact key (b :: bs) (e :: es) 0 w hk
  same := hs
/-- A map's pairs: another value for a key, or one more. -/
def upd {α β : Type} [DecidableEq α] : List (α × β) → α → β → List (α × β)
  | [], a, v => [(a, v)]
  | (b, u) :: r, a, v => if a = b then (b, v) :: r else (b, u) :: upd r a v
def cK {α β : Type} [DecidableEq α] : List (α × β) → α → Option β
  | [], _ => none
  | (b, u) :: r, a => if a = b then some u else cK r a
def rmv {α β : Type} [DecidableEq α] : List (α × β) → α → List (α × β)
  | [], _ => []
  | (b, u) :: r, a => if a = b then r else (b, u) :: rmv r a
structure MpP {α β : Type} (r : Nat) (encK : α → Value) (encV : β → Value) (m : List (α × β)) (w : World) : Prop where
  at_ : ∃ es clock, w.heap[r]? = some (.map es clock) ∧ es.toList.map (·.key) = m.map (fun p => encK p.1) ∧ es.toList.map (·.val) = m.map (fun p => encV p.2) ∧ (es.toList.map (·.born)).Nodup ∧ ∀ e ∈ es.toList, e.born < clock
def Ch.mp {α β : Type} (r : Nat) (encK : α → Value) (encV : β → Value) (m : List (α × β)) : Ch :=
  ⟨fun k => k = r, MpP r encK encV m, fun w w' ⟨es, c, h1, h2⟩ hk => ⟨es, c, (hk r rfl).trans h1, h2⟩⟩
section
variable {α β : Type} [DecidableEq α] {encK : α → Value} {encV : β → Value}
theorem fk_lkp (a : α) : ∀ (m : List (α × β)) (es : List MapEntry) (i : Nat), es.map (·.val) = m.map (fun p => encV p.2) → (fk a (m.map (·.1)) es i).map (·.2) = (cK m a).map encV
  | [], es, i, h => by cases es <;> simp_all [fk, cK]
  | (b, u) :: m, [], i, h => by simp at h
  | (b, u) :: m, e :: es, i, h => by
    simp only [List.map_cons, List.cons.injEq] at h
    simp only [List.map_cons, fk, cK]
    by_cases hab : a = b
    · simp [hab, h.1]
    · simp [hab, fk_lkp a m es (i + 1) h.2]
theorem fk_some (a : α) : ∀ (m : List (α × β)) (es : List MapEntry) (i j : Nat) (u : Value), es.length = m.length → fk a (m.map (·.1)) es i = some (j, u) → i ≤ j ∧ (∃ e, es[j - i]? = some e) ∧ ((m.map (·.1))[j - i]? = some a) ∧
    ∀ v : β, (upd m a v).map (·.1) = m.map (·.1) ∧ (upd m a v).map (fun p => encV p.2) = (m.map (fun p => encV p.2)).set (j - i) (encV v) ∧ (rmv m a) = m.eraseIdx (j - i)
  | [], es, i, j, u, _, h => by simp [fk] at h
  | (b, v0) :: m, [], i, j, u, hl, h => by simp at hl
  | (b, v0) :: m, e :: es, i, j, u, hl, h => by
    simp only [List.map_cons, fk] at h
    by_cases hab : a = b
    · rw [if_pos hab] at h
      cases h
      subst hab
      simp [upd, rmv]
    · rw [if_neg hab] at h
      obtain ⟨h1, h2, h3, h4⟩ := fk_some a m es (i + 1) j u (by simpa using hl) h
      have hj : j - i = (j - (i + 1)) + 1 := by omega
      refine ⟨by omega, by rw [hj]; simpa using h2, by rw [hj]; simpa using h3, fun v => ?_⟩
      obtain ⟨h5, h6, h7⟩ := h4 v
      rw [hj]
      simp [upd, rmv, hab, h5, h6, h7]
end
section
variable {x : Cx} {l : Fr} {L S : List Ch} {Q : Exit → Act → World → Prop} {ops : Array Oper} {rest : List Oper} {d : Nat} {ty : TypeId} {pos : String} {af : Array Edge} {gd : Option (Nat × Bool)}
variable {α β : Type} [DecidableEq α] {encK : α → Value} {encV : β → Value}
theorem cP (encK : α → Value) (encV : β → Value) {t : TypeId} (hN : Nat.blt d x.N = true) (k : ∀ r, WL x ((d, .map (some r)) :: l) (Ch.mp r encK encV ([] : List (α × β)) :: L) S ops rest Q) : WL x l L S ops (⟨some d, .makeMap t none, ty, pos, af, none⟩ :: rest) Q :=
  d3 (fun r => .map (some r)) (fun r => Ch.mp r encK encV ([] : List (α × β)) :: L) (fun _ => S) rfl rfl (fun _ => nofun) hN
    (fun a w ha hw => ⟨w.heap.size, w.alloc (.map #[] 0), by simp [execOp, Instr.makeMap], hw.fresh (Upd.alloc w _) _ ⟨#[], 0, World.alloc_heap_new w _, rfl, rfl, by simp, by simp⟩ (fun b hb => Nat.le_of_eq hb.symm) (fun b hb => by rw [show b = w.heap.size from hb]; simp)⟩) k
theorem MpP.find {P : Program} {kt : TypeId} {r : Nat} {m : List (α × β)} {w : World} (h : MpP r encK encV m w) (hk : KeyL P kt encK) (a : α) : ∃ es clock, w.heap[r]? = some (.map es clock) ∧ (Instr.findKey kt (encK a) es.toList).run P w = .ok (fk a (m.map (·.1)) es.toList 0) w ∧ (fk a (m.map (·.1)) es.toList 0).map (·.2) = (cK m a).map encV := by
  obtain ⟨es, c, h1, h2, h3, _⟩ := h.at_
  exact ⟨es, c, h1, hk.find a (m.map (·.1)) es.toList w (by rw [h2, List.map_map]; rfl), fk_lkp a m es.toList 0 h3⟩
theorem y_lookup {t kt et : TypeId} {y z : Operand} {r : Nat} {m : List (α × β)} {a : α} {agg : Bool} {sz bytes : Nat} {zv : Value} (ht : x.P.underlying t = some (.map kt et)) (hk : KeyL x.P kt encK) (he : TyI x.P et agg sz bytes zv) (hy : ev l y = some (.map (some r))) (hz : ev l z = some (encK a)) (hm : ∀ w, Hp x.ok0 x.w0 L S w → MpP r encK encV m w) :
    Yv x l L S ⟨some d, .lookup t y z false, ty, pos, af, gd⟩ (((cK m a).map encV).getD zv) := fun ac w hac hw => by
  obtain ⟨es, c, h1, h2, h3⟩ := (hm w hw).find hk a
  simp only [execOp, hac.ev hy, hac.ev hz]
  cases hf : fk a (m.map (·.1)) es.toList 0 with
  | none =>
    rw [hf] at h2 h3
    have h4 : cK m a = none := by simpa using h3.symm
    simp [Instr.lookup, run_underlying ht, getObj, Sem.run, h1, hk.chk, h2, he.zero, h4, Result.andThen]
  | some p =>
    obtain ⟨j, v⟩ := p
    rw [hf] at h2 h3
    have h4 : (cK m a).map encV = some v := by simpa using h3.symm
    simp [Instr.lookup, run_underlying ht, getObj, Sem.run, h1, hk.chk, h2, h4, Result.andThen]
theorem dF {t kt et : TypeId} {y z : Operand} {r : Nat} {m : List (α × β)} {a : α} {agg : Bool} {sz bytes : Nat} {zv : Value} (ht : x.P.underlying t = some (.map kt et)) (hk : KeyL x.P kt encK) (he : TyI x.P et agg sz bytes zv) (hy : ev l y = some (.map (some r))) (hz : ev l z = some (encK a)) (hm : ∀ w, Hp x.ok0 x.w0 L S w → MpP r encK encV m w) :
    Yv x l L S ⟨some d, .lookup t y z true, ty, pos, af, gd⟩ (.tuple [((cK m a).map encV).getD zv, .bool (cK m a).isSome].toArray) := fun ac w hac hw => by
  obtain ⟨es, c, h1, h2, h3⟩ := (hm w hw).find hk a
  simp only [execOp, hac.ev hy, hac.ev hz]
  cases hf : fk a (m.map (·.1)) es.toList 0 with
  | none =>
    rw [hf] at h2 h3
    have h4 : cK m a = none := by simpa using h3.symm
    simp [Instr.lookup, run_underlying ht, getObj, Sem.run, h1, hk.chk, h2, he.zero, h4, Result.andThen]
  | some p =>
    obtain ⟨j, v⟩ := p
    rw [hf] at h2 h3
    have h4 : (cK m a).map encV = some v := by simpa using h3.symm
    have h5 : (cK m a).isSome = true := by cases hl : cK m a <;> simp_all
    simp [Instr.lookup, run_underlying ht, getObj, Sem.run, h1, hk.chk, h2, h4, h5, Result.andThen]
end
end Go.Proofs.YtnpdgmoeoidppaaGreat

/- Addresses, records, entries: plain laws. -/
namespace Go.Proofs.YtnpdgmoeoidppaaGreat
open Go.RowKit Go.Shelf
set_option linter.unusedVariables false
set_option linter.unusedSimpArgs false

/-- An address. -/
structure Ad where
  six : Bool
  hi : Int
  lo : Int
  deriving DecidableEq
def dC (a : Ad) : List Value := [.bool a.six, .int .u64 a.hi, .int .u64 a.lo]
def ad0 : Ad := ⟨false, 0, 0⟩
/-- A record's data (without texts). -/
structure Dt where
  ad : Ad
  name : aX
  mail : aX
  n0 : Int
  n1 : Int
  n2 : Int
  n3 : Int
  n4 : Int
  raw : aX
  deriving DecidableEq
/-- A record. -/
structure Rc where
  name : aX
  ty : Int
  cl : Int
  ttl : Int
  dt : Dt
  deriving DecidableEq
/-- An entry; where its slices lie stands beside. -/
structure En where
  host : aX
  kind : Int
  cluster : aX
  addrs : List Ad
  alias : aX
  ports : List Int
  ttl : Int
  deriving DecidableEq
/-- addr.Check. -/
def bK (a : Ad) : Int := if a.six = false ∧ (a.hi ≠ 0 ∨ 4294967296 ≤ a.lo) then 2 else 0
theorem shr32 {n : Int} (h : 0 ≤ n) : (n.fdiv (2 ^ min (32 : Int).toNat IntKind.u64.bits) ≠ 0) ↔ 4294967296 ≤ n := by
  have e : (2 : Int) ^ min (32 : Int).toNat IntKind.u64.bits = 4294967296 := by decide
  rw [e, Int.fdiv_eq_ediv_of_nonneg _ (by decide)]
  omega
/-- entry.ports. -/
def portOk (l : List Int) (i : Nat) : Prop := 1 ≤ l.getD i 0 ∧ l.getD i 0 ≤ 65535 ∧ (0 < i → l.getD (i - 1) 0 < l.getD i 0)
instance (l : List Int) (i : Nat) : Decidable (portOk l i) := by unfold portOk; infer_instance
/-- entry.addrs. -/
def adOk (l : List Ad) (i : Nat) : Prop := bK (l.getD i ad0) = 0 ∧ ∀ j, j < i → l.getD i ad0 ≠ l.getD j ad0
instance (l : List Ad) (i : Nat) : Decidable (adOk l i) := by unfold adOk; infer_instance
def each {α : Type} (D : α → Dt) (B : α → Bool) (r : Rc) (l : List α) : List Rc := (l.filter B).map fun a => { r with dt := D a }
end Go.Proofs.YtnpdgmoeoidppaaGreat

/- addresses, entries -/
namespace Go.Proofs.YtnpdgmoeoidppaaGreat
open Go.RowKit Go.Shelf
set_option linter.unusedVariables false
set_option linter.unusedSimpArgs false

theorem gh : Enters Tryz.prog 75 := enters_of Tryz.func75 (by kernel_rfl) rfl
theorem cT : FA Tryz.prog 29 0 0 := fun b o w => by kernel_rfl
theorem dc : FA Tryz.prog 29 1 1 := fun b o w => by kernel_rfl
theorem ce : FA Tryz.prog 29 2 2 := fun b o w => by kernel_rfl
theorem co : TyI Tryz.prog 27 false 1 8 (.int .u64 0) := TyI.mk' (by kernel_rfl) (fun _ => by kernel_rfl)
theorem aO : TyI Tryz.prog 29 true 3 24 (.agg #[.bool false, .int .u64 0, .int .u64 0]) := TyI.mk' (by kernel_rfl) (fun _ => by kernel_rfl)
theorem gy : TyI Tryz.prog 4 false 1 1 (.bool false) := TyI.mk' (by kernel_rfl) (fun _ => by kernel_rfl)

/-- Addresses are compared field by field. -/
theorem gj (a b : Ad) : EqD Tryz.prog 2 29 (.agg (dC a).toArray) (.agg (dC b).toArray) (decide (a = b)) := by
  have h : EqD Tryz.prog 2 29 (.agg (dC a).toArray) (.agg (dC b).toArray) ((a.six == b.six) && ((a.hi == b.hi) && ((a.lo == b.lo) && true))) :=
    eqd_struct (n := 1) Tryz.underlying29 (by kernel_rfl) (eqf_cons (v := .bool a.six) (u := .bool b.six) (by kernel_rfl) (fun _ => by kernel_rfl) (fun _ => by kernel_rfl) (eqd_bool Tryz.underlying4) rfl (eqf_cons (v := .int .u64 a.hi) (u := .int .u64 b.hi) (by kernel_rfl) (fun _ => by kernel_rfl) (fun _ => by kernel_rfl) (eqd_int Tryz.underlying27) rfl (eqf_cons (v := .int .u64 a.lo) (u := .int .u64 b.lo) (by kernel_rfl) (fun _ => by kernel_rfl) (fun _ => by kernel_rfl) (eqd_int Tryz.underlying27) rfl eqf_nil)))
  have e : ((a.six == b.six) && ((a.hi == b.hi) && ((a.lo == b.lo) && true))) = decide (a = b) := by
    cases a; cases b
    rw [Bool.eq_iff_iff]
    simp
  rw [e] at h; exact h
theorem keyl_ad : KeyL Tryz.prog 29 (fun a : Ad => .agg (dC a).toArray) :=
  keyl_agg Tryz.underlying29 (fun e a w => by kernel_rfl) gj rfl (fun a => by simp [Instr.sameBits, dC])

theorem ck_six {a : Ad} (h : a.six = true) : bK a = 0 := by unfold bK; rw [if_neg (fun h2 => by rw [h] at h2; exact absurd h2.1 (by simp))]
theorem ck_bad {a : Ad} (h : a.six = false) (h2 : a.hi ≠ 0 ∨ 4294967296 ≤ a.lo) : bK a = 2 := by unfold bK; rw [if_pos ⟨h, h2⟩]
theorem ck_ok {a : Ad} (h : ¬ a.hi ≠ 0) (h2 : ¬ 4294967296 ≤ a.lo) : bK a = 0 := by unfold bK; rw [if_neg (fun h3 => by have := h3.2; omega)]

theorem dx (a : Ad) (h0 : 0 ≤ a.lo) : cC Tryz.prog 75 #[.agg (dC a).toArray] (.int .i64 (bK a)) := by
 intro w0
 refine a6 (ok0 := no) (S := []) (args := [.agg (dC a).toArray]) 17 Tryz.func75 rfl rfl rfl (by simp) (by simp) ?_
 refine ao ?_
 refine ab ?_
 refine bx rfl rfl rfl (fun b1 => ?_)
 refine ap (ai rfl) rfl rfl ?_
 refine ae ?_
 refine aj ?_
 refine ao ?_
 refine ao ?_
 refine ab ?_
 refine ap (aD cT rfl) rfl rfl ?_
 refine ap (aM 0 gy rfl rfl rfl) rfl rfl ?_
 refine bl (t := 4) rfl (fun h1_1 => ?_) (fun h1_1 => ?_)
 refine ap (bJ rfl) rfl rfl ?_
 refine ap (ak rfl) rfl rfl ?_
 refine aK rfl rfl rfl rfl ?_
 refine aK rfl rfl rfl rfl ?_
 refine aK rfl rfl rfl rfl ?_
 refine aK rfl rfl rfl rfl ?_
 refine eW rfl rfl rfl ?_
 refine eW rfl rfl rfl ?_
 refine eW rfl rfl rfl ?_
 refine eW rfl rfl rfl ?_
 refine aK rfl rfl rfl rfl ?_
 refine ap (aQ rfl rfl) rfl rfl ?_
 refine ae ?_
 refine aj ?_
 refine aw rfl ?_
 refine aL ?_
 refine aj ?_
 refine ao ?_
 refine ab ?_
 refine ap (ai rfl) rfl rfl ?_
 refine ae ?_
 refine aj ?_
 refine aH ?_
 refine aN (ts := [2]) rfl rfl rfl (fun w hw => ?_)
 exact ⟨by rw [ck_six h1_1]; rfl, hw.base⟩
 refine ap (bJ rfl) rfl rfl ?_
 refine ap (ak rfl) rfl rfl ?_
 refine aA rfl rfl ?_
 refine ap (aD dc rfl) rfl rfl ?_
 refine aA rfl rfl ?_
 refine ap (aM 0 co rfl rfl rfl) rfl rfl ?_
 refine aA rfl rfl ?_
 refine ap (cc rfl rfl) rfl rfl ?_
 refine aG (t := 9) rfl (fun h1_6 => ?_) (fun h1_6 => ?_)
 refine aA rfl rfl ?_
 refine ap (ak rfl) rfl rfl ?_
 refine aK rfl rfl rfl rfl ?_
 refine aK rfl rfl rfl rfl ?_
 refine aK rfl rfl rfl rfl ?_
 refine aK rfl rfl rfl rfl ?_
 refine aA rfl rfl ?_
 refine ap (aP rfl rfl) rfl rfl ?_
 refine ap (aP rfl rfl) rfl rfl ?_
 refine ae ?_
 refine aj ?_
 refine ay rfl ?_
 refine ao ?_
 refine ab ?_
 refine ap (ai rfl) rfl rfl ?_
 refine ae ?_
 refine aj ?_
 refine aH ?_
 refine az ?_
 refine aN (ts := [2]) rfl rfl rfl (fun w hw => ?_)
 exact ⟨by rw [ck_bad h1_1 (.inl h1_6)]; rfl, hw.base⟩
 refine aA rfl rfl ?_
 refine ap (ak rfl) rfl rfl ?_
 refine aA rfl rfl ?_
 refine ap (aD ce rfl) rfl rfl ?_
 refine aA rfl rfl ?_
 refine ap (aM 0 co rfl rfl rfl) rfl rfl ?_
 refine aA rfl rfl ?_
 refine ap (y_shr rfl rfl (by omega)) rfl rfl ?_
 refine aA rfl rfl ?_
 refine ap (cc rfl rfl) rfl rfl ?_
 refine aG (t := 14) rfl (fun h1_11 => ?_) (fun h1_11 => ?_)
 refine aA rfl rfl ?_
 refine ap (aQ rfl rfl) rfl rfl ?_
 refine ap (aP rfl rfl) rfl rfl ?_
 refine ae ?_
 refine aj ?_
 refine ay rfl ?_
 refine ao ?_
 refine ab ?_
 refine ap (ai rfl) rfl rfl ?_
 refine ae ?_
 refine aj ?_
 refine aH ?_
 refine az ?_
 refine aN (ts := [2]) rfl rfl rfl (fun w hw => ?_)
 rw [shr32 h0] at h1_11
 exact ⟨by rw [ck_bad h1_1 (.inr h1_11)]; rfl, hw.base⟩
 refine aA rfl rfl ?_
 refine ap (aQ rfl rfl) rfl rfl ?_
 refine ap (aP rfl rfl) rfl rfl ?_
 refine ae ?_
 refine aj ?_
 refine aw rfl ?_
 refine aL ?_
 refine aj ?_
 refine ao ?_
 refine ab ?_
 refine ap (ai rfl) rfl rfl ?_
 refine ae ?_
 refine aj ?_
 refine aH ?_
 refine aN (ts := [2]) rfl rfl rfl (fun w hw => ?_)
 rw [shr32 h0] at h1_11
 exact ⟨by rw [ck_ok h1_6 h1_11]; rfl, hw.base⟩

theorem ez (a : Ad) (h0 : 0 ≤ a.lo) : cC Tryz.prog 79 #[.agg (dC a).toArray] (.int .i64 (bK a)) := by
 intro w0
 refine a6 (ok0 := no) (S := []) (args := [.agg (dC a).toArray]) 16 Tryz.func79 rfl rfl rfl (by simp) (by simp) ?_
 refine ao ?_
 refine ab ?_
 refine bx rfl rfl rfl (fun b1 => ?_)
 refine ap (ai rfl) rfl rfl ?_
 refine ae ?_
 refine aj ?_
 refine ao ?_
 refine ao ?_
 refine ab ?_
 refine ap (aD cT rfl) rfl rfl ?_
 refine ap (aM 0 gy rfl rfl rfl) rfl rfl ?_
 refine bl (t := 4) rfl (fun h1_1 => ?_) (fun h1_1 => ?_)
 refine ap (bJ rfl) rfl rfl ?_
 refine ap (ak rfl) rfl rfl ?_
 refine aK rfl rfl rfl rfl ?_
 refine aK rfl rfl rfl rfl ?_
 refine aK rfl rfl rfl rfl ?_
 refine aK rfl rfl rfl rfl ?_
 refine eW rfl rfl rfl ?_
 refine eW rfl rfl rfl ?_
 refine eW rfl rfl rfl ?_
 refine aK rfl rfl rfl rfl ?_
 refine ap (aQ rfl rfl) rfl rfl ?_
 refine ae ?_
 refine aj ?_
 refine aw rfl ?_
 refine aL ?_
 refine aj ?_
 refine ao ?_
 refine ab ?_
 refine ap (ai rfl) rfl rfl ?_
 refine ae ?_
 refine aj ?_
 refine aH ?_
 refine aN (ts := [2]) rfl rfl rfl (fun w hw => ?_)
 exact ⟨by rw [ck_six h1_1]; rfl, hw.base⟩
 refine ap (bJ rfl) rfl rfl ?_
 refine ap (ak rfl) rfl rfl ?_
 refine aA rfl rfl ?_
 refine ap (aD dc rfl) rfl rfl ?_
 refine aA rfl rfl ?_
 refine ap (aM 0 co rfl rfl rfl) rfl rfl ?_
 refine aA rfl rfl ?_
 refine ap (cc rfl rfl) rfl rfl ?_
 refine aG (t := 9) rfl (fun h1_6 => ?_) (fun h1_6 => ?_)
 refine aA rfl rfl ?_
 refine ap (ak rfl) rfl rfl ?_
 refine aK rfl rfl rfl rfl ?_
 refine aK rfl rfl rfl rfl ?_
 refine aK rfl rfl rfl rfl ?_
 refine aA rfl rfl ?_
 refine ap (aP rfl rfl) rfl rfl ?_
 refine ap (aP rfl rfl) rfl rfl ?_
 refine ae ?_
 refine aj ?_
 refine ay rfl ?_
 refine ao ?_
 refine ab ?_
 refine ap (ai rfl) rfl rfl ?_
 refine ae ?_
 refine aj ?_
 refine aH ?_
 refine az ?_
 refine aN (ts := [2]) rfl rfl rfl (fun w hw => ?_)
 exact ⟨by rw [ck_bad h1_1 (.inl h1_6)]; rfl, hw.base⟩
 refine aA rfl rfl ?_
 refine ap (ak rfl) rfl rfl ?_
 refine aA rfl rfl ?_
 refine ap (aD ce rfl) rfl rfl ?_
 refine aA rfl rfl ?_
 refine ap (aM 0 co rfl rfl rfl) rfl rfl ?_
 refine aA rfl rfl ?_
 refine ap (fu rfl rfl) rfl rfl ?_
 refine aG (t := 13) rfl (fun h1_10 => ?_) (fun h1_10 => ?_)
 refine aA rfl rfl ?_
 refine ap (aQ rfl rfl) rfl rfl ?_
 refine ap (aP rfl rfl) rfl rfl ?_
 refine ae ?_
 refine aj ?_
 refine ay rfl ?_
 refine ao ?_
 refine ab ?_
 refine ap (ai rfl) rfl rfl ?_
 refine ae ?_
 refine aj ?_
 refine aH ?_
 refine az ?_
 refine aN (ts := [2]) rfl rfl rfl (fun w hw => ?_)
 exact ⟨by rw [ck_bad h1_1 (.inr h1_10)]; rfl, hw.base⟩
 refine aA rfl rfl ?_
 refine ap (aQ rfl rfl) rfl rfl ?_
 refine ap (aP rfl rfl) rfl rfl ?_
 refine ae ?_
 refine aj ?_
 refine aw rfl ?_
 refine aL ?_
 refine aj ?_
 refine ao ?_
 refine ab ?_
 refine ap (ai rfl) rfl rfl ?_
 refine ae ?_
 refine aj ?_
 refine aH ?_
 refine aN (ts := [2]) rfl rfl rfl (fun w hw => ?_)
 exact ⟨by rw [ck_ok h1_6 h1_10]; rfl, hw.base⟩

theorem rs_none {A : Option Addr} {n sz : Nat} {cs : List Value} {w : World} (h : RsP A n sz cs w) (hA : A.isNone = true) : n = 0 := by
  rcases h.at_ with h0 | ⟨b, o, rfl, _⟩
  · exact h0
  · cases hA
end Go.Proofs.YtnpdgmoeoidppaaGreat

/- the references of addresses, data, records, entries -/
namespace Go.Proofs.YtnpdgmoeoidppaaGreat
open Go.RowKit Go.Shelf
set_option linter.unusedVariables false
set_option linter.unusedSimpArgs false

theorem ent_79 : Enters Tryz.prog 79 := enters_of Tryz.func79 (by kernel_rfl) rfl

/-- Not too much. -/
def lightE (e : En) : Bool := decide (e.host.length ≤ 300) && decide (e.alias.length ≤ 300) && decide (e.cluster.length ≤ 300) && decide (e.addrs.length ≤ 20) && decide (e.ports.length ≤ 20)

end Go.Proofs.YtnpdgmoeoidppaaGreat

/- From a law's call that answers true and turns nothing that lay, to what its row asks. -/
namespace Go.Proofs.YtnpdgmoeoidppaaGreat
open Go.RowKit Go.Shelf Go.ChangeShapes Go.WideShapes Go.ChangeAt
set_option linter.unusedVariables false

theorem stay_all {H : Type} {enc : TypeId × Value → H} {P : Program} (hl : laidOutB P = true) {W W' : World} (hb : Below W.heap.size W W') :
    ∀ {ts : List TypeId} {vs : List Value} {ds : List (DataW H)} {ps : List MemPlace}, ts.all (fun t => P.readableRec t && decide (t < P.types.size)) = true → (∀ x ∈ ps, x.block < W.heap.size) →
      DataW.TrodAll enc P W 0 (fun _ => true) true ts vs ds ps → DataW.TrodAll enc P W' 0 (fun b => decide (b < W.heap.size)) true ts vs ds ps
  | [], [], [], _, _, _, h => h
  | [], [], _ :: _, _, _, _, h => h.elim
  | [], _ :: _, _, _, _, _, h => h.elim
  | _ :: _, [], _, _, _, _, h => h.elim
  | _ :: _, _ :: _, [], _, _, _, h => h.elim
  | t :: ts, v :: vs, d :: ds, ps, hr, hlt, h => by
    obtain ⟨p, q, h1, h2, rfl⟩ := h
    simp only [List.all_cons, Bool.and_eq_true, decide_eq_true_eq] at hr
    exact ⟨p, q, Below.trod hl hr.1.1 hr.1.2 h1 hb (fun x hx => hlt x (List.mem_append_left _ hx)), stay_all hl hb hr.2 (fun x hx => hlt x (List.mem_append_right _ hx)) h2, rfl⟩
theorem keptBut_of {W W' : World} (hb : Upd no W W') (may : MemPlace → Prop) : W.keptBut W' may := by
  refine ⟨hb.os, hb.output, fun i hi => ?_⟩
  rw [hb.block i hi id]
  cases W.heap[i]? with
  | none => rfl
  | some o => cases o <;> simp
theorem law_post {H : Type} {enc : TypeId × Value → H} {P : Program} {f : Func} {s : ChangeSpec} {W W' : World} {args : Array Value} {ds : List (DataW H)} {p : List MemPlace} {tb : TypeId} (hl : laidOutB P = true) (hr : f.params.toList.all (fun t => P.readableRec t && decide (t < P.types.size)) = true) (hv : s.vars = [])
    (hW : DataW.Whole enc P f.params.toList s.vars false W args.toList ds [] p) (hs : s.fn H (ds ++ []) = { results := [.lit (.bool true)], args := ds }) (hrt : f.resultTypes = #[tb]) (hb : P.underlying tb = some .bool) (hu : Upd no W W') :
    s.post enc P f false true false false W args (.bool true) W' := by
  have hlt := hW.lt
  obtain ⟨q, r, h1, h2, rfl, h3, h4⟩ := id hW
  refine ⟨ds, [], q ++ r, [], q, r, hW, ?_, ?_, ?_, ?_, nofun⟩
  · rw [hs, hrt]
    exact trodAll_mk1 (shut_bool hb true)
  · rw [hs]
    exact stay_all hl hu.below hr (fun x hx => hlt x (List.mem_append_left _ hx)) h1
  · rw [hs, hv] at *
    exact h2
  · exact keptBut_of hu _
end Go.Proofs.YtnpdgmoeoidppaaGreat

/- A law's arguments opened: what a decoded value is, and which chunks it reads. Elements of arrays. -/
namespace Go.Proofs.YtnpdgmoeoidppaaGreat
open Go.RowKit Go.Shelf
set_option linter.unusedVariables false
set_option linter.unusedSimpArgs false

/-- What decodes at a type is an encoding; its chunks lie; so much is known. -/
def Dc (P : Program) (w : World) (t : TypeId) {α : Type} (V : α → List Value) (R : α → List Ch) (Ok : α → Prop) : Prop :=
  ∀ (H : Type) (enc : TypeId × Value → H) (base : Nat) (sp : Nat → Bool) (hd : Bool) (fuel : Nat) (cs : List Value) (x : DataW H × List MemPlace), DataW.trod enc P w base sp hd fuel t cs = some x →
    ∃ a, cs = V a ∧ Rd (R a) w ∧ Ok a
section
variable {P : Program} {w : World} {t : TypeId}
theorem dc_bool (ht : P.underlying t = some .bool) : Dc P w t (fun b : Bool => [.bool b]) (fun _ => []) (fun _ => True) := fun H enc base sp hd fuel cs x h => by
  obtain ⟨b, rfl, _⟩ := DataW.trod_bool ht h
  exact ⟨b, rfl, nofun, trivial⟩
theorem dc_int {k : IntKind} (ht : P.underlying t = some (.int k)) : Dc P w t (fun n : Int => [.int k n]) (fun _ => []) (fun n => k.min ≤ n ∧ n ≤ k.max) := fun H enc base sp hd fuel cs x h => by
  obtain ⟨n, rfl, _, h3⟩ := DataW.trod_int ht h
  simp only [Lit.wf, Bool.and_eq_true, decide_eq_true_eq] at h3
  exact ⟨n, rfl, nofun, h3⟩
theorem choose_list {α : Type} {p : Nat → α → Prop} : ∀ (n : Nat), (∀ i, i < n → ∃ a, p i a) → ∃ l : List α, l.length = n ∧ ∀ i a, l[i]? = some a → p i a
  | 0, _ => ⟨[], rfl, fun i a h => by simp at h⟩
  | n + 1, h => by
    obtain ⟨l, hl, hp⟩ := choose_list n (fun i hi => h i (by omega))
    obtain ⟨a, ha⟩ := h n (by omega)
    refine ⟨l ++ [a], by simp [hl], fun i b hb => ?_⟩
    by_cases hi : i < n
    · rw [List.getElem?_append_left (by omega)] at hb; exact hp i b hb
    · rw [List.getElem?_append_right (by omega)] at hb
      have : i = n := by
        have := (List.getElem?_eq_some_iff.1 hb).1; simp at this; omega
      subst this
      rw [hl, Nat.sub_self] at hb
      simp at hb; subst hb; exact ha
theorem fl_at2 {α : Type} {V : α → List Value} {sz : Nat} (hV : ∀ a, (V a).length = sz) : ∀ (l : List α) (k f : Nat) (a : α), l[k]? = some a → f < sz → (fl V l)[k * sz + f]? = (V a)[f]?
  | [], k, f, a, h, _ => by simp at h
  | b :: l, 0, f, a, h, hf => by
    simp at h; subst h
    show (V b ++ fl V l)[_]? = _
    rw [Nat.zero_mul, Nat.zero_add, List.getElem?_append_left (by rw [hV]; exact hf)]
  | b :: l, k + 1, f, a, h, hf => by
    show (V b ++ fl V l)[_]? = _
    rw [List.getElem?_append_right (by rw [hV, Nat.succ_mul]; omega), hV]
    have := fl_at2 hV l k f a (by simpa using h) hf
    rw [← this]; congr 1; rw [Nat.succ_mul]; omega
/-- A slice: where it lies, what it holds; the chunks of its elements. -/
theorem dc_slice {e : TypeId} {α : Type} {V : α → List Value} {R : α → List Ch} {Ok : α → Prop} {sz : Nat} (ht : P.underlying t = some (.slice e)) (hc : P.cellsOf e = sz) (hz : 0 < sz) (hV : Enc V sz) (he : Dc P w e V R Ok) :
    Dc P w t (fun p : List α × Option Addr × Nat => [.slice p.2.1 p.1.length p.2.2]) (fun p => Ch.rd p.2.1 sz V p.1 :: p.1.flatMap R) (fun p => p.1.length ≤ 9223372036854775807 ∧ ∀ a ∈ p.1, Ok a) := fun H enc base sp hd fuel cs x h => by
  rcases DataW.trod_slice ht h with ⟨rfl, rfl⟩ | ⟨a, len, cap, els, rest, n, rfl, rfl, rfl, hb, h1, h2, h3, h4, _⟩
  · exact ⟨([], none, 0), rfl, aW ⟨⟨by simp [fl], (by simp [fl]), .inl rfl⟩, fun b hb => by simp [Ch.rd, Ch.rs] at hb⟩ nofun, by simp, nofun⟩
  · subst hc
    have key : ∀ i, i < len → ∃ y : α, (∀ j, j < P.cellsOf e → w.cell? (a.add (i * P.cellsOf e + j)) = (V y)[j]?) ∧ Rd (R y) w ∧ Ok y ∧ (0 < P.cellsOf e → a.block < w.heap.size ∧ a.spot = none) := fun i hi => by
      have h5 := h4 i hi
      cases hcs : w.cells? base (a.add (i * P.cellsOf e)) (P.cellsOf e) with
      | none =>
        rw [hcs, List.getElem?_eq_getElem (by omega)] at h5; simp at h5
      | some cs =>
        rw [hcs, List.getElem?_eq_getElem (by omega)] at h5
        obtain ⟨y, rfl, hR, hO⟩ := he H enc base sp hd n cs _ h5
        obtain ⟨_, _, h6⟩ := World.cells?_some hcs
        have h7 : ∀ j, j < P.cellsOf e → w.cell? (a.add (i * P.cellsOf e + j)) = (V y)[j]? := fun j hj => by
          rw [← h6 j hj]; congr 1
          unfold Addr.add
          split
          · rename_i hz
            have : i * P.cellsOf e = 0 := by omega
            have : j = 0 := by omega
            simp [*]
          · split
            · split
              · omega
              · simp_all
            · split
              · simp_all
              · simp; omega
        refine ⟨y, h7, hR, hO, fun hp => ?_⟩
        have h8 := World.cells?_block hcs hp
        have h9 : (a.add (i * P.cellsOf e)).block = a.block := by unfold Addr.add; split <;> rfl
        rw [h9] at h8
        refine ⟨h8, ?_⟩
        cases hs : a.spot with
        | none => rfl
        | some s =>
          exfalso
          by_cases hi0 : i * P.cellsOf e = 0
          · have h10 := h7 0 hp
            have h11 : a.add (i * P.cellsOf e + 0) = a := by unfold Addr.add; rw [if_pos (by omega)]
            rw [h11, List.getElem?_eq_getElem (by rw [hV.len]; exact hp)] at h10
            unfold World.cell? at h10
            simp [hs] at h10
            split at h10 <;> simp at h10
          · have h12 := h4 0 (by omega)
            cases hcs0 : w.cells? base (a.add (0 * P.cellsOf e)) (P.cellsOf e) with
            | none => rw [hcs0, List.getElem?_eq_getElem (by omega)] at h12; simp at h12
            | some cs0 =>
              obtain ⟨_, h14, h13⟩ := World.cells?_some hcs0
              have h15 := h13 0 hp
              have h16 : (a.add (0 * P.cellsOf e)).add 0 = a := by simp [Addr.add]
              rw [h16, List.getElem?_eq_getElem (by omega)] at h15
              unfold World.cell? at h15
              simp [hs] at h15
              split at h15 <;> simp at h15
    obtain ⟨l, hl, hp⟩ := choose_list len key
    have hsz : (fl V l).length = l.length * P.cellsOf e := d5 hV.len l
    refine ⟨(l, some a, cap), by rw [← hl], List.forall_mem_cons.2 ⟨⟨⟨hsz, ?_, ?_⟩, ?_⟩, ?_⟩, ?_, ?_⟩
    · intro u hu
      simp only [fl, List.mem_flatten, List.mem_map] at hu
      obtain ⟨_, ⟨b, _, rfl⟩, hu⟩ := hu
      exact List.all_eq_true.1 (hV.one b) u hu
    · rcases Nat.eq_zero_or_pos l.length with h0 | h0
      · exact .inl h0
      · refine .inr ⟨a.block, a.off, ?_, fun i hi => ?_⟩
        · obtain ⟨y, hy⟩ : ∃ y, l[0]? = some y := ⟨_, List.getElem?_eq_getElem h0⟩
          have h17 := ((hp 0 y hy).2.2.2 hz).2
          show some a = _
          congr 1
          cases a
          simp only at h17
          rw [h17]
        · have hk : i / P.cellsOf e < l.length := by
            rw [Nat.div_lt_iff_lt_mul hz, ← hsz]; exact hi
          obtain ⟨y, hy⟩ : ∃ y, l[i / P.cellsOf e]? = some y := ⟨_, List.getElem?_eq_getElem hk⟩
          have hm : i % P.cellsOf e < P.cellsOf e := Nat.mod_lt _ hz
          have e1 : i / P.cellsOf e * P.cellsOf e + i % P.cellsOf e = i := by rw [Nat.mul_comm]; exact Nat.div_add_mod i _
          have q := (hp _ y hy).1 _ hm
          rw [e1] at q
          have q2 := fl_at2 hV.len l _ _ y hy hm
          rw [e1] at q2
          rw [q2, ← q]
          have hsp := ((hp _ y hy).2.2.2 hz).2
          congr 1
          unfold Addr.add
          split
          · rename_i h0; subst h0; cases a; simp_all
          · rfl
    · rintro b ⟨hb0, hb⟩
      simp at hb; subst hb
      obtain ⟨y, hy⟩ : ∃ y, l[0]? = some y := ⟨_, List.getElem?_eq_getElem hb0⟩
      exact ((hp 0 y hy).2.2.2 hz).1
    · intro s hs
      obtain ⟨y, hy, hs⟩ := List.mem_flatMap.1 hs
      obtain ⟨i, hi, rfl⟩ := List.mem_iff_getElem.1 hy
      exact (hp i _ (List.getElem?_eq_getElem hi)).2.1 s hs
    · have h3 : maxLen = 9223372036854775807 := by decide
      show l.length ≤ _
      omega
    · intro y hy
      obtain ⟨i, hi, rfl⟩ := List.mem_iff_getElem.1 hy
      exact (hp i _ (List.getElem?_eq_getElem hi)).2.2.1
theorem cutn {cs : List Value} {n : Nat} (h : cs.length = n) : cs.drop n = [] := List.drop_of_length_le (by omega)
theorem cutc {cs v r : List Value} {a b k : Nat} (h : (cs.drop a).take k = v) (hr : cs.drop b = r) (e : a + k = b) : cs.drop a = v ++ r := by
  rw [← h, ← hr, ← e, ← List.drop_drop, List.take_append_drop]
theorem cut0 {cs v : List Value} (h : cs.drop 0 = v) : cs = v := h
/-- A struct's field. -/
theorem d8 {H : Type} {enc : TypeId × Value → H} {base : Nat} {sp : Nat → Bool} {hd : Bool} {n : Nat} {cs : List Value} {fs : Array Field} {xs : List (DataW H × List MemPlace)} {α : Type} {V : α → List Value} {R : α → List Ch} {Ok : α → Prop}
    (hxl : xs.length = fs.size) (hf : ∀ (i : Nat) (f : Field), fs[i]? = some f → DataW.trod enc P w base sp hd n f.type ((cs.drop f.offset).take (P.cellsOf f.type)) = xs[i]?) (i : Nat) {ft : TypeId} {off k : Nat} (hi : (fs[i]?).map (fun f => (f.type, f.offset)) = some (ft, off)) (hk : P.cellsOf ft = k) (h : Dc P w ft V R Ok) :
    ∃ a, (cs.drop off).take k = V a ∧ Rd (R a) w ∧ Ok a := by
  subst hk
  cases hfi : fs[i]? with
  | none => rw [hfi] at hi; cases hi
  | some f =>
    rw [hfi] at hi
    simp only [Option.map_some, Option.some.injEq, Prod.mk.injEq] at hi
    obtain ⟨rfl, rfl⟩ := hi
    have h1 := hf i f hfi
    have h2 : i < fs.size := (Array.getElem?_eq_some_iff.1 hfi).1
    rw [List.getElem?_eq_getElem (by omega)] at h1
    exact h H enc base sp hd n _ _ h1
/-- An argument of a law's row: a struct, a slice. -/
theorem op_agg {H : Type} {enc : TypeId × Value → H} {W : World} {base b0 : Nat} {sp : Nat → Bool} {hd : Bool} {v : Value} {d : DataW H} {ps : List MemPlace} {fs : Array Field} {α : Type} {V : α → List Value} {R : α → List Ch} {Ok : α → Prop} (ht : P.underlying t = some (.struct fs)) (hval : Value.okWide P W .any base t v) (h : DataW.Trod enc P w b0 sp hd t v d ps) (hd : Dc P w t V R Ok) :
    ∃ a, v = .agg (V a).toArray ∧ Rd (R a) w ∧ Ok a := by
  simp only [Value.okWide, ht] at hval
  obtain ⟨cs, rfl, _⟩ := hval
  obtain ⟨fuel, hf⟩ := h
  obtain ⟨a, h1, h2, h3⟩ := hd _ _ _ _ _ _ _ _ hf
  simp only [Value.cells] at h1
  exact ⟨a, by rw [← h1], h2, h3⟩
end
/-- Of each slot only what was put last. -/
def Kn2 (l' : Fr) : List Nat → Fr → Prop
  | _, [] => True
  | seen, (t, v) :: r => match seen.elem t with
    | true => Kn2 l' seen r
    | false => look l' t = some v ∧ Kn2 l' (t :: seen) r
theorem Kn2.look {l' : Fr} : ∀ {seen : List Nat} {l : Fr}, Kn2 l' seen l → ∀ t v, Go.Proofs.YtnpdgmoeoidppaaGreat.look l t = some v → seen.elem t = false → Go.Proofs.YtnpdgmoeoidppaaGreat.look l' t = some v
  | seen, [], _, t, v, h, _ => by cases h
  | seen, (t0, v0) :: r, h, t, v, ht, hs => by
    rw [Kn2] at h
    simp only [Go.Proofs.YtnpdgmoeoidppaaGreat.look] at ht
    cases e : Nat.beq t0 t with
    | true =>
      have e2 := Nat.eq_of_beq_eq_true e; subst e2
      rw [hs] at h
      rw [e] at ht
      cases ht; exact h.1
    | false =>
      rw [e] at ht
      have hne : ¬ t = t0 := fun h2 => Nat.ne_of_beq_eq_false e h2.symm
      cases h0 : seen.elem t0 with
      | true => rw [h0] at h; exact Kn2.look h t v ht hs
      | false => rw [h0] at h; exact Kn2.look h.2 t v ht (by rw [List.elem_cons, hs, beq_eq_false_iff_ne.2 hne])
section
variable {x : Cx} {l : Fr} {L S : List Ch} {Q : Exit → Act → World → Prop} {d : Nat} {ty : TypeId} {pos : String} {af : Array Edge} {gd : Option (Nat × Bool)}
/-- A loop that turns the chunks ahead. -/
theorem w_loopL {c : Code} {σ : Type} {L0 : List Ch} (ts : List Nat) (I : σ → Prop) (μ : σ → Nat) (lf : σ → Fr) (C : σ → List Ch) (g0 : σ) (h0 : I g0) (hk : Knows l (lf g0)) (hc : L = C g0 ++ L0)
    (body : ∀ g, I g → W x (lf g ++ keep ts l) (C g ++ L0) S c (Ql x I lf (fun g => C g ++ L0) (fun _ => S) (keep ts l) (fun g' => μ g' < μ g) Q)) : W x l L S (.loop c) Q :=
  w_loop ts I μ lf (fun g => C g ++ L0) (fun _ => S) g0 h0 hk (fun _ h => hc ▸ h) body
end
/-! Where several operations may come up: each of them. -/
section
variable {x : Cx} {C : World → Prop} {l : Fr} {L S : List Ch} {Q : Exit → Act → World → Prop} {ops : Array Oper} {fuel m : Nat} {listed : Array Bool}
end
/-! Regions with open order once more: C is kept as long as nothing of the tail has come up. -/
def di (m : Nat) (listed : Array Bool) : Bool := (List.range listed.size).all fun t => Nat.blt t m || !(listed.getD t false)
theorem getD_set_ne' {l : Array Bool} {i j : Nat} {v d : Bool} (h : i ≠ j) : (l.setIfInBounds i v).getD j d = l.getD j d := by
  simp [Array.getD_eq_getD_getElem?, Array.getElem?_setIfInBounds_ne h]
theorem dK {m : Nat} {listed : Array Bool} {j : Nat} (h : di m listed = true) (hj : j < m) : di m (listed.setIfInBounds j true) = true := by
  simp only [di, List.all_eq_true, List.mem_range, Array.size_setIfInBounds, Bool.or_eq_true] at h ⊢
  intro t ht
  rcases h t ht with h1 | h1
  · exact .inl h1
  · by_cases e : j = t
    · subst e; exact .inl (Nat.ble_eq_true_of_le hj)
    · right
      rw [getD_set_ne' e]; exact h1
def f7 (P : Program) (ops : Array Oper) (Q : Exit → Act → World → Prop) (C : World → Prop) (m : Nat) : Nat → Array Bool → Act → World → Prop
  | 0, listed, a, _w => Region.ready .any ops listed = [] ∧ Q .normal a _w
  | fuel + 1, listed, a, w =>
    (Region.ready .any ops listed = [] → Q .normal a w) ∧
    ∀ i ∈ Region.ready .any ops listed, wpOp P ops Q i (fun a' w' => (di m (listed.setIfInBounds i true) = true → C w') ∧ f7 P ops Q C m fuel (listed.setIfInBounds i true) a' w') a w
theorem wpAny_of_U {P : Program} {ops : Array Oper} {Q : Exit → Act → World → Prop} {C : World → Prop} {m : Nat} : ∀ (fuel : Nat) (listed : Array Bool) (a : Act) (w : World), f7 P ops Q C m fuel listed a w → wpAny P .any ops Q fuel listed a w
  | 0, _, _, _, h => h
  | fuel + 1, _, _, _, h => ⟨h.1, fun i hi => wpOp_mono (fun a' w' h' => wpAny_of_U fuel _ a' w' h'.2) (h.2 i hi)⟩
/-- .. waits for it, through others. -/
def waits (ops : Array Oper) : Nat → Nat → Nat → Bool
  | 0, _, _ => false
  | f + 1, t, i => match ops[t]? with
    | some o => o.after.any fun e => Region.binds .any e && (e.on == i || waits ops f e.on i)
    | none => false
def gg (ops : Array Oper) (m i : Nat) : Bool := (List.range ops.size).all fun t => Nat.blt t m || waits ops ops.size t i
def gx (ops : Array Oper) (listed : Array Bool) : Bool := (List.range ops.size).all fun k => !(listed.getD k false) || match ops[k]? with
  | some o => o.after.all fun e => !(Region.binds .any e) || listed.getD e.on false
  | none => true
def fQ (ops : Array Oper) (listed : Array Bool) : Prop := ∀ k o, ops[k]? = some o → listed.getD k false = true → ∀ e ∈ o.after, Region.binds .any e = true → listed.getD e.on false = true
theorem closed_of {ops : Array Oper} {listed : Array Bool} (h : gx ops listed = true) : fQ ops listed := fun k o ho hk e he hb => by
  simp only [gx, List.all_eq_true, List.mem_range] at h
  have h1 := h k (Array.getElem?_eq_some_iff.1 ho).1
  simp only [hk, ho, Bool.not_true, Bool.false_or] at h1
  have h2 := Array.all_eq_true'.1 h1 e he
  simpa [hb] using h2
theorem e7 {ops : Array Oper} {listed : Array Bool} (hc : fQ ops listed) {i : Nat} : ∀ (f t : Nat) (o : Oper), ops[t]? = some o → (∀ e ∈ o.after, Region.binds .any e = true → listed.getD e.on false = true) → waits ops f t i = true → listed.getD i false = true
  | 0, _, _, _, _, h => by cases h
  | f + 1, t, o, ho, hd, h => by
    rw [waits, ho] at h
    obtain ⟨e, he, hb⟩ := Array.any_eq_true'.1 h
    simp only [Bool.and_eq_true, Bool.or_eq_true, beq_iff_eq] at hb
    have hl := hd e he hb.1
    rcases hb.2 with h1 | h1
    · rw [← h1]; exact hl
    · cases hoe : ops[e.on]? with
      | none =>
        exfalso
        cases f with
        | zero => cases h1
        | succ f =>
          rw [waits, hoe] at h1
          cases h1
      | some oe => exact e7 hc f e.on oe hoe (fun e2 h2 h3 => hc e.on oe hoe hl e2 h2 h3) h1
theorem closed_set {ops : Array Oper} {listed : Array Bool} {j : Nat} {oj : Oper} (h : fQ ops listed) (hoj : ops[j]? = some oj) (hd : ∀ e ∈ oj.after, Region.binds .any e = true → listed.getD e.on false = true) : fQ ops (listed.setIfInBounds j true) := fun k o ho hk e he hb => by
  have mono : ∀ q, listed.getD q false = true → (listed.setIfInBounds j true).getD q false = true := fun q hq => by
    by_cases e2 : j = q
    · subst e2
      have : j < listed.size := by
        rcases Nat.lt_or_ge j listed.size with h' | h'
        · exact h'
        · simp [Array.getElem?_eq_none h'] at hq
      simp [this]
    · rw [getD_set_ne' e2]; exact hq
  refine mono _ ?_
  by_cases e2 : j = k
  · subst e2; rw [hoj] at ho; cases ho; exact hd e he hb
  · rw [getD_set_ne' e2] at hk; exact h k o ho hk e he hb
theorem gI {P : Program} {ops : Array Oper} {Q : Exit → Act → World → Prop} {C : World → Prop} {m i : Nat} {oi : Oper} {v : Value} (hi : ops[i]? = some oi) (hsel : ∀ (j : Nat) (o : Oper) cs b, ops[j]? = some o → o.op ≠ .select cs b)
    (hQ : ∀ c a w, Q (.panic c) (a.put oi.dst v) w → Q (.panic c) a w) (hm : gg ops m i = true) (him : i < m) :
    ∀ (fuel : Nat) (listed : Array Bool) (a : Act) (w : World), di m listed = true → fQ ops listed →
      (∀ j oj, ops[j]? = some oj → j ≠ i → listed.getD j true = false → (∀ e ∈ oj.after, Region.binds .any e = true → e.on ≠ i) → oi.apart ops oj = true) →
      i ∈ Region.ready .any ops listed → YieldsIf P ops C oi v a → C w →
      f7 P ops Q C m fuel (listed.setIfInBounds i true) (a.put oi.dst v) w → f7 P ops Q C m (fuel + 1) listed a w := by
  intro fuel
  induction fuel with
  | zero =>
    intro listed a w hnt hcl _ hr hy hS H
    refine ⟨fun h => (by rw [h] at hr; cases hr), fun j hj => ?_⟩
    by_cases hji : j = i
    · subst hji; exact hy.wpOp hi hS ⟨fun _ => hS, H⟩
    · have := ready_mono hj hji
      rw [H.1] at this
      cases this
  | succ fuel ih =>
    intro listed a w hnt hcl hfree hr hy hS H
    refine ⟨fun h => (by rw [h] at hr; cases hr), fun j hj => ?_⟩
    by_cases hji : j = i
    · subst hji; exact hy.wpOp hi hS ⟨fun _ => hS, H⟩
    · have h1 := H.2 j (ready_mono hj hji)
      obtain ⟨hjun, oj, hoj, hall⟩ := mem_ready.1 hj
      have hun : listed.getD i false = false := by
        have h0 := (mem_ready.1 hr).1
        rcases Nat.lt_or_ge i listed.size with h' | h'
        · simpa [h'] using h0
        · simp [Array.getElem?_eq_none h']
      have hnot : ∀ e ∈ oj.after, Region.binds .any e = true → e.on ≠ i := fun e he hb heq => by
        have h1 := hall e he hb
        rw [heq, hun] at h1
        cases h1
      have hjm : j < m := by
        rcases Nat.lt_or_ge j m with h | h
        · exact h
        · simp only [gg, List.all_eq_true, List.mem_range] at hm
          have h1 := hm j (Array.getElem?_eq_some_iff.1 hoj).1
          rw [Bool.or_eq_true] at h1
          rcases h1 with h1 | h1
          · have := Nat.le_of_ble_eq_true h1; omega
          · rw [e7 hcl _ j oj hoj hall h1] at hun; cases hun
      have h2 := wpOp_putIf hoj (hfree j oj hoj hji hjun hnot) (fun cs b => hsel i oi cs b hi) (fun cs b => hsel j oj cs b hoj) hQ hy h1
      have hfree' : ∀ k ok, ops[k]? = some ok → k ≠ i → (listed.setIfInBounds j true).getD k true = false →
          (∀ e ∈ ok.after, Region.binds .any e = true → e.on ≠ i) → oi.apart ops ok = true := fun k ok hk hki hun' hno => by
        refine hfree k ok hk hki ?_ hno
        by_cases hjk : j = k
        · subst hjk; exact hjun
        · rw [getD_set_ne true hjk] at hun'; exact hun'
      have hC := dK (dK hnt him) hjm
      refine wpOp_mono (fun a' w' h3 => ⟨fun _ => h3.2.1 hC, ih (listed.setIfInBounds j true) a' w' (dK hnt hjm) (closed_set hcl hoj hall) hfree' (ready_mono hr (Ne.symm hji)) h3.1 (h3.2.1 hC) ?_⟩) h2
      rw [Array.setIfInBounds_comm _ _ hji]
      exact h3.2.2
def WU (x : Cx) (C : World → Prop) (m : Nat) (ops : Array Oper) (fuel : Nat) (listed : Array Bool) (l : Fr) (L S : List Ch) (Q : Exit → Act → World → Prop) : Prop :=
  ∀ a w, Kn x.N x.ds l a → Hp x.ok0 x.w0 L S w → f7 x.P ops Q C m fuel listed a w
def QnU (x : Cx) (C : World → Prop) (m : Nat) (ops : Array Oper) (fuel : Nat) (listed : Array Bool) (Q : Exit → Act → World → Prop) : Exit → Act → World → Prop := Exit.then (fun a w => (di m listed = true → C w) ∧ f7 x.P ops Q C m fuel listed a w) Q
def WRU (x : Cx) (C : World → Prop) (m : Nat) (ops : Array Oper) (fuel : Nat) (listed : Array Bool) (js : List Nat) (l : Fr) (L S : List Ch) (Q : Exit → Act → World → Prop) : Prop :=
  ∀ i ∈ js, ∀ a w, Kn x.N x.ds l a → Hp x.ok0 x.w0 L S w → wpOp x.P ops Q i (fun a' w' => (di m (listed.setIfInBounds i true) = true → C w') ∧ f7 x.P ops Q C m fuel (listed.setIfInBounds i true) a' w') a w
section
variable {x : Cx} {C : World → Prop} {l : Fr} {L S : List Ch} {Q : Exit → Act → World → Prop} {ops : Array Oper} {fuel m : Nat} {listed : Array Bool}
theorem dN {id : Nat} {ol : List Oper} (m : Nat) (hro : x.ro = none) (hm : x.P.follows .mixedOrders = true) (h : WU x (Hp x.ok0 x.w0 L S) m ol.toArray ol.length (Array.replicate ol.length false) l L S Q) : W x l L S (.region id ol.toArray true) Q := fun a w ha hw => by
  rw [hro]
  refine (wpIn_wide (n := 0)).2 (wp_region_any hm (wpAny_of_U (C := Hp x.ok0 x.w0 L S) (m := m) _ _ _ _ ?_))
  have := h a { w with drawn := w.drawn + 1 } ha hw.drew
  simpa using this
theorem aC {i d : Nat} {op : Op} {ty : TypeId} {pos : String} {af : Array Edge} {gd : Option (Nat × Bool)} {v : Value} {listed' : Array Bool} {L0 S0 : List Ch} (hi : ops[i]? = some ⟨some d, op, ty, pos, af, gd⟩) (hw : ∀ a, Kn x.N x.ds l a → Region.wanted ⟨some d, op, ty, pos, af, gd⟩ (yielded ops a.tmps) = true)
    (hy : Yv x l L0 S0 ⟨some d, op, ty, pos, af, gd⟩ v) (hC : ∀ w, Hp x.ok0 x.w0 L S w → C w) (hC0 : ∀ w, C w → Hp x.ok0 x.w0 L0 S0 w) (hN : Nat.blt d x.N = true) (hpk : PkOk Q)
    (hs : (Region.noSelect ops && Region.free .any ops listed i && (Region.ready .any ops listed).contains i && gg ops m i && Nat.blt i m && di m listed && gx ops listed) = true) (hl : listed.setIfInBounds i true = listed')
    (k : WU x C m ops fuel listed' ((d, v) :: l) L S Q) : WU x C m ops (fuel + 1) listed l L S Q := fun a w ha hh => by
  simp only [Bool.and_eq_true] at hs
  obtain ⟨⟨⟨⟨⟨⟨h1, h2⟩, h3⟩, h4⟩, h5⟩, h6⟩, h7⟩ := hs
  exact gI hi (Region.noSelect_spec h1) (fun c a w h => hpk c a w _ _ h) h4 (Nat.le_of_ble_eq_true h5) fuel listed a w h6 (closed_of h7) (Region.free_spec hi h2) (by simpa using h3) (.inl ⟨hw a ha, fun w' hw' => hy a w' ha (hC0 w' hw')⟩) (hC w hh) (by rw [hl]; exact k _ w (ha.put (Nat.le_of_ble_eq_true hN) v) hh)
theorem br {C : World → Prop} {l : Fr} {L S : List Ch} (hC : ∀ w, Hp x.ok0 x.w0 L S w → C w) (h : WU x C m ops fuel listed l L S Q) : E x l L S .normal (QnU x C m ops fuel listed Q) := fun a w ha hw => ⟨fun _ => hC w hw, h a w ha hw⟩
theorem eu_tail {C : World → Prop} {l : Fr} {L S : List Ch} (hi : di m listed = false) (h : WU x C m ops fuel listed l L S Q) : E x l L S .normal (QnU x C m ops fuel listed Q) := fun a w ha hw => ⟨fun h' => absurd (hi.symm.trans h') (by decide), h a w ha hw⟩
theorem f9 {js : List Nat} (hr : Region.ready .any ops listed = js) (hne : js.isEmpty = false) (h : WRU x C m ops fuel listed js l L S Q) : WU x C m ops (fuel + 1) listed l L S Q := fun a w ha hh =>
  ⟨fun h0 => by rw [hr] at h0; subst h0; simp at hne, fun j hj => h j (hr ▸ hj) a w ha hh⟩
theorem eY : WRU x C m ops fuel listed [] l L S Q := fun i hi => by cases hi
theorem cy {js : List Nat} {o : Oper} {i : Nat} {listed' : Array Bool} (hro : x.ro = none) (hi : ops[i]? = some o) (hnd : Op.isDefer o.op = false) (ht : ∀ a w, Kn x.N x.ds l a → Tame ((execOp a.eval o).run x.P w)) (hl : listed.setIfInBounds i true = listed')
    (h : WL x l L S ops [o] (QnU x C m ops fuel listed' Q)) (k : WRU x C m ops fuel listed js l L S Q) : WRU x C m ops fuel listed (i :: js) l L S Q := fun j hj => by
  rcases List.mem_cons.1 hj with rfl | hj
  · intro a w ha hh
    rw [hl]
    refine gJ hi ?_
    have h1 := h a w ha hh
    rw [hro] at h1
    unfold wpListIn at h1
    unfold wpList
    split
    · rename_i hw
      rw [if_pos hw] at h1
      obtain ⟨_, h1⟩ := h1
      have e : Oper.semAt (fw none).round a.eval o = execOp a.eval o := rfl
      rw [e] at h1
      refine .inl ?_
      unfold Oper.wp
      have ht' := ht a w ha
      cases hx : (execOp a.eval o).run x.P w with
      | halt hh w' => rw [hx] at h1; cases hh <;> exact h1
      | ok n w' =>
        rw [hx] at h1 ht'
        cases n with
        | value v => exact h1
        | skip => exact h1
        | enter f args =>
          have := (callsIn_wide (n := 0 - 1)).1 (show CallsIn Fence.wide (0 - 1) x.P f args w' _ from h1.2)
          exact bC this fun e w'' hR => by cases e <;> exact hR
        | _ => exact ht'.elim
    · rename_i hw
      rw [if_neg hw] at h1
      exact h1.2
  · exact k j hj
theorem cr {o : Oper} {i : Nat} {listed' : Array Bool} (hro : x.ro = none) (hi : ops[i]? = some o) (hnd : Op.isDefer o.op = false) (ht : ∀ a w, Kn x.N x.ds l a → Tame ((execOp a.eval o).run x.P w)) (hr : Region.ready .any ops listed = [i]) (hl : listed.setIfInBounds i true = listed')
    (h : WL x l L S ops [o] (QnU x C m ops fuel listed' Q)) : WU x C m ops (fuel + 1) listed l L S Q := f9 hr rfl (cy hro hi hnd ht hl h eY)
theorem d7 {t : Nat} {v : Value} (v' : Value) (h : look l t = some v) (e : v = v') (k : WU x C m ops fuel listed ((t, v') :: l) L S Q) : WU x C m ops fuel listed l L S Q := fun a w ha hw => k a w (ha.mono fun t' u h' => by
    simp only [look] at h'
    cases e2 : Nat.beq t t' with
    | true => rw [e2] at h'; cases h'; rw [← Nat.eq_of_beq_eq_true e2, h, e]
    | false => rw [e2] at h'; exact h') hw
theorem cu {fuel : Nat} (hr : Region.ready .any ops listed = []) (h : E x l L S .normal Q) : WU x C m ops fuel listed l L S Q := fun a w ha hh => by
  cases fuel with
  | zero => exact ⟨hr, h a w ha hh⟩
  | succ n => exact ⟨fun _ => h a w ha hh, by rw [hr]; simp⟩
end
end Go.Proofs.YtnpdgmoeoidppaaGreat

/- the references of data and records; where entries lie -/
namespace Go.Proofs.YtnpdgmoeoidppaaGreat
open Go.RowKit Go.Shelf
set_option linter.unusedVariables false
set_option linter.unusedSimpArgs false

/-- What a type has. -/
structure Hs where
  addr : Bool
  name : Bool
  mail : Bool
  texts : Bool
  raw : Bool
  nums : Int
  wide : Int
def numD (d : Dt) : Nat → Int
  | 0 => d.n0
  | 1 => d.n1
  | 2 => d.n2
  | 3 => d.n3
  | _ => d.n4
def hasBad (h : Hs) (d : Dt) : Prop := (h.addr = false ∧ d.ad ≠ ad0) ∨ (h.name = false ∧ d.name ≠ []) ∨ (h.mail = false ∧ d.mail ≠ []) ∨ (h.raw = false ∧ d.raw ≠ []) ∨ h.texts = true
instance (h : Hs) (d : Dt) : Decidable (hasBad h d) := by unfold hasBad; infer_instance
def adBad (t : Int) (h : Hs) (d : Dt) : Prop := h.addr = true ∧ (bK d.ad ≠ 0 ∨ d.ad.six ≠ decide (t = 28))
instance (t : Int) (h : Hs) (d : Dt) : Decidable (adBad t h d) := by unfold adBad; infer_instance
def numOk (h : Hs) (d : Dt) (k : Nat) : Prop := ¬ (h.nums ≤ k ∧ numD d k ≠ 0) ∧ ¬ (h.wide = 2 ∧ 65535 < numD d k)
instance (h : Hs) (d : Dt) (k : Nat) : Decidable (numOk h d k) := by unfold numOk; infer_instance
def numsOk (h : Hs) (d : Dt) : Prop := ∀ k, k < 5 → numOk h d k
instance (h : Hs) (d : Dt) : Decidable (numsOk h d) := by unfold numsOk; exact Nat.decidableBallLT 5 _
end Go.Proofs.YtnpdgmoeoidppaaGreat

/- entries: the plain laws of their records -/
namespace Go.Proofs.YtnpdgmoeoidppaaGreat
open Go.RowKit Go.Shelf
set_option linter.unusedVariables false
set_option linter.unusedSimpArgs false

theorem light_le {e : En} (h : lightE e = true) : e.host.length ≤ 300 ∧ e.alias.length ≤ 300 ∧ e.cluster.length ≤ 300 ∧ e.addrs.length ≤ 20 ∧ e.ports.length ≤ 20 := by
  simp only [lightE, Bool.and_eq_true, decide_eq_true_eq] at h
  exact ⟨h.1.1.1.1, h.1.1.1.2, h.1.1.2, h.1.2, h.2⟩

end Go.Proofs.YtnpdgmoeoidppaaGreat

/- the laws of entries -/
namespace Go.Proofs.YtnpdgmoeoidppaaGreat
open Go.RowKit Go.Shelf
set_option linter.unusedVariables false
set_option linter.unusedSimpArgs false

def fg (a : Ad) : Prop := 0 ≤ a.hi ∧ a.hi ≤ 18446744073709551615 ∧ 0 ≤ a.lo ∧ a.lo ≤ 18446744073709551615
def EnOk (e : En) : Prop := e.host.length ≤ 9223372036854775807 ∧ (-9223372036854775808 ≤ e.kind ∧ e.kind ≤ 9223372036854775807) ∧ e.cluster.length ≤ 9223372036854775807 ∧ (∀ a ∈ e.addrs, fg a) ∧ e.addrs.length ≤ 9223372036854775807 ∧ e.alias.length ≤ 9223372036854775807 ∧ (∀ p ∈ e.ports, -9223372036854775808 ≤ p ∧ p ≤ 9223372036854775807) ∧ e.ports.length ≤ 9223372036854775807 ∧ 0 ≤ e.ttl ∧ e.ttl ≤ 4294967295
theorem EnOk.lo {e : En} (h : EnOk e) : ∀ a ∈ e.addrs, 0 ≤ a.lo := fun a ha => (h.2.2.2.1 a ha).2.2.1

theorem dc_ad {w : World} : Dc Tryz.prog w 29 (α := Ad) (dC) (fun _ => []) (fg) := fun H enc base sp hd fuel cs x h => by
  obtain ⟨xs, n, rfl, _, hcl, hxl, hf⟩ := DataW.trod_struct Tryz.underlying29 h
  have hcl2 : cs.length = 3 := hcl.trans (by kernel_rfl)
  obtain ⟨x0, c0, r0, o0⟩ := d8 hxl hf 0 (ft := 4) (off := 0) (k := 1) (by kernel_rfl) (by kernel_rfl) (dc_bool Tryz.underlying4)
  obtain ⟨x1, c1, r1, o1⟩ := d8 hxl hf 1 (ft := 27) (off := 1) (k := 1) (by kernel_rfl) (by kernel_rfl) (dc_int Tryz.underlying27)
  obtain ⟨x2, c2, r2, o2⟩ := d8 hxl hf 2 (ft := 27) (off := 2) (k := 1) (by kernel_rfl) (by kernel_rfl) (dc_int Tryz.underlying27)
  have hcs := cut0 (cutc c0 (cutc c1 (cutc c2 (cutn hcl2) rfl) rfl) rfl)
  exact ⟨⟨x0, x1, x2⟩, hcs, nofun, o1.1, o1.2, o2.1, o2.2⟩

theorem fN {w : World} {sz : Nat} : (Ch.rs none 0 sz []).P w ∧ ∀ b, (Ch.rs none 0 sz []).ok b → b < w.heap.size := ⟨⟨by simp, (by simp), .inl rfl⟩, fun b hb => by simp [Ch.rs] at hb⟩

end Go.Proofs.YtnpdgmoeoidppaaGreat

/- the reference of entries; the law of calls -/
namespace Go.Proofs.YtnpdgmoeoidppaaGreat
open Go.RowKit Go.Shelf
set_option linter.unusedVariables false
set_option linter.unusedSimpArgs false

end Go.Proofs.YtnpdgmoeoidppaaGreat
