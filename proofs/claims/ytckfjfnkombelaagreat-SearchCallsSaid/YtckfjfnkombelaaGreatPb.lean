/- Octets compared, slices that are made: plain laws. -/
import Derived.Test.YtckfjfnkombelaaGreatPa
import Derived.Lib.Bytealg
import GoSem.Extern.BytealgCompare
namespace Go.Proofs.YtckfjfnkombelaaGreat
open Go.RowKit Go.Shelf
set_option linter.unusedVariables false
set_option linter.unusedSimpArgs false

/-- Octets compared, one behind the other. -/
def cmpS : Str → Str → Int
  | [], [] => 0
  | [], _ :: _ => -1
  | _ :: _, [] => 1
  | a :: r, b :: t => if a < b then -1 else if b < a then 1 else cmpS r t
theorem cmpS_self : ∀ s : Str, cmpS s s = 0
  | [] => rfl
  | a :: r => by simp [cmpS, UInt8.lt_irrefl, cmpS_self r]
theorem cmpS_zero : ∀ {s t : Str}, cmpS s t = 0 ↔ s = t
  | [], [] => by simp [cmpS]
  | [], _ :: _ => by simp [cmpS]
  | _ :: _, [] => by simp [cmpS]
  | a :: r, b :: t => by
    have ih := cmpS_zero (s := r) (t := t)
    simp only [cmpS]
    split
    · rename_i h; simp; intro e; subst e; exact absurd h (UInt8.lt_irrefl _)
    · split
      · rename_i h; simp; intro e; subst e; exact absurd h (UInt8.lt_irrefl _)
      · rename_i h1 h2
        have : a = b := UInt8.le_antisymm (UInt8.not_lt.1 h2) (UInt8.not_lt.1 h1)
        simp [this, ih]
theorem ba_get (s : Str) (i : Nat) : (ba s)[i]! = s.getD i 0 := by
  by_cases h : i < s.length
  · have h' : i < (ba s).size := h
    simp [getElem!_pos, h', List.getD_eq_getElem?_getD, h]
    rfl
  · have h' : ¬ i < (ba s).size := h
    simp [getElem!_neg, h', List.getD_eq_getElem?_getD, h]
    rfl
theorem cmp_eq : ∀ s t : Str, Extern.BytealgCompare.cmp (ba s) (ba t) = cmpS s t
  | [], [] => rfl
  | [], b :: t => by
    simp [Extern.BytealgCompare.cmp, cmpS]
    have e1 : (ba ([] : Str)).size = 0 := rfl
    have e2 : (ba (b :: t)).size = t.length + 1 := rfl
    simp [e1, e2]
  | a :: r, [] => by
    simp [Extern.BytealgCompare.cmp, cmpS]
    have e1 : (ba ([] : Str)).size = 0 := rfl
    have e2 : (ba (a :: r)).size = r.length + 1 := rfl
    simp [e1, e2]
  | a :: r, b :: t => by
    have ih := cmp_eq r t
    have e1 : (ba (a :: r)).size = r.length + 1 := rfl
    have e2 : (ba (b :: t)).size = t.length + 1 := rfl
    have e3 : (ba r).size = r.length := rfl
    have e4 : (ba t).size = t.length := rfl
    simp only [Extern.BytealgCompare.cmp, e1, e2, e3, e4, Nat.add_min_add_right] at ih ⊢
    rw [Lib.find_range_succ]
    simp only [ba_get, List.getD_cons_zero, List.getD_cons_succ] at ih ⊢
    by_cases hab : a = b
    · subst hab
      simp only [bne_self_eq_false, cmpS, UInt8.lt_irrefl, if_false]
      simp only [Bool.false_eq_true, if_false]
      rw [← ih]
      cases hf : (List.range (min r.length t.length)).find? (fun i => r.getD i 0 != t.getD i 0) with
      | none => simp [hf]
      | some i => simp [hf]
    · have hne : (a != b) = true := by simpa using hab
      simp only [hne, if_true, cmpS]
      by_cases hlt : a < b
      · simp [hlt]
      · have : b < a := by
          rcases Nat.lt_or_gt_of_ne (fun h => hab (UInt8.toNat_inj.1 h)) with h | h
          · exact absurd (UInt8.lt_iff_toNat_lt.2 h) hlt
          · exact UInt8.lt_iff_toNat_lt.2 h
        simp [hlt, this]
theorem run_cmp {P : Program} (s t : Str) (w : World) : (Extern.BytealgCompare.compare #[.string (ba s), .string (ba t)]).run P w = .ok (.int .i64 (cmpS s t)) w := by
  rw [← cmp_eq]; rfl
/-! Slices that are made. -/
def encB (b : Bool) : List Value := [.bool b]
theorem enc_B : Enc encB 1 := ⟨fun _ => rfl, fun _ => rfl⟩
theorem made_one (z : Value) (h : z.cells = #[z]) (n : Nat) : (madeCells z.cells n).toList = List.replicate n z := by
  apply List.ext_getElem
  · simp [madeCells]
  · intro i h1 h2
    simp [madeCells, h, Nat.mod_one]
section
variable {x : Cx} {l : Fr} {L S : List Ch} {Q : Exit → Act → World → Prop} {ops : Array Oper} {rest : List Oper} {d : Nat} {ty : TypeId} {pos : String} {af : Array Edge} {gd : Option (Nat × Bool)}
theorem o_make1 {α : Type} {enc : α → List Value} {t e : TypeId} {y u : Operand} {n : Int} {k : Nat} {agg : Bool} {bytes : Nat} {z : Value} (a : α) (hE : Enc enc 1) (ht : x.P.underlying t = some (.slice e)) (he : TyI x.P e agg 1 bytes z) (ha : enc a = [z]) (hz : z.cells = #[z]) (hy : ev l y = some (.int .i64 n)) (hu : ev l u = some (.int .i64 n)) (hk : n = (k : Int)) (hb : bytes * k ≤ 281474976710656) (h63 : k ≤ 9223372036854775807) (hN : Nat.blt d x.N = true)
    (kk : ∀ A, WL x ((d, .slice A (List.replicate k a).length k) :: l) (Ch.ls A k e 1 enc (List.replicate k a) :: L) S ops rest Q) : WL x l L S ops (⟨some d, .makeSlice t y u, ty, pos, af, none⟩ :: rest) Q :=
  wl_valx (fun A => .slice A (List.replicate k a).length k) (fun A => Ch.ls A k e 1 enc (List.replicate k a) :: L) (fun _ => S) rfl rfl (fun _ => nofun) hN
    (fun ac w hac hw => by
      subst hk
      obtain ⟨i, h1, h2, h3, h4⟩ := he.inf
      have hr := run_make (P := x.P) w t e i z ht h1 h2 .i64 .i64 (k : Int) (k : Int) (by omega) (Int.le_refl _) (by rw [h4, ← Int.natCast_mul]; exact Int.ofNat_le.2 hb) (by omega)
      have hone : ∀ q ∈ fl enc (List.replicate k a), q.oneCell' = true := hE.ones _
      have hfl : fl enc (List.replicate k a) = List.replicate k z := by
        simp only [fl, List.map_replicate, ha]
        clear hr hone hb h63 kk
        induction k with
        | zero => rfl
        | succ k ih => simp [List.replicate_succ, ih]
      refine ⟨some ⟨w.heap.size, 0, none⟩, _, ?_, hw.fresh (Upd.alloc w (.cells (madeCells z.cells (k * 1)) e)) _ ?_ (fun b hb => by cases hb; exact Nat.le_refl _) (fun b hb => by cases hb; simp)⟩
      · simp only [execOp, hac.ev hy, hac.ev hu]
        simp only [Int.toNat_natCast, h3] at hr
        simp [hr, List.length_replicate]
      · refine SlP.new (World.alloc_heap_new w _) (by rw [fl_length hE.len]) hone (by simp) (by unfold maxLen; omega) (by rw [size_madeCells]; simp) ?_ (fun o _ => by simp)
        rw [Nat.mul_one, made_one z hz, hfl]; simp) kk
end
end Go.Proofs.YtckfjfnkombelaaGreat
