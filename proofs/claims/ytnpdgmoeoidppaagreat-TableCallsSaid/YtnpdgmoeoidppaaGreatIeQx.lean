import Derived.Test.YtnpdgmoeoidppaaGreatPfQx
import Derived.Test.YtnpdgmoeoidppaaGreatNaQx
/- search: each candidate once; the laws of candidates -/
namespace Go.Proofs.YtnpdgmoeoidppaaGreat
open Go.RowKit Go.Shelf
set_option linter.unusedVariables false
set_option linter.unusedSimpArgs false

theorem ew : TyI Tryz.prog 59 false 1 24 (.slice none 0 0) := TyI.mk' (by kernel_rfl) (fun _ => by kernel_rfl)

def namesE (s : Sr) (n : a6) : Int := if srCk s ≠ 0 then srCk s else bd n
def iM (l : List a6) (m : Int) : Bool := decide (∀ s ∈ l, s.length ≤ 300) && decide ((l.length : Int) ≤ m)
theorem lightN_bad {l : List a6} {m : Int} {k : Nat} (hk : k < l.length) (h : 300 < ((l.getD k []).length : Int)) : iM l m = false := by
  rw [iM, decide_eq_false (fun q => by have := q _ (aZ (d := []) hk); omega), Bool.false_and]
theorem lightN_ok {l : List a6} {m : Int} (h : ∀ i, i < l.length → (l.getD i []).length ≤ 300) : iM l m = decide ((l.length : Int) ≤ m) := by
  rw [iM, decide_eq_true, Bool.true_and]
  intro s hs
  obtain ⟨i, hi, rfl⟩ := List.mem_iff_getElem.1 hs
  have := h i hi
  rwa [List.getD_eq_getElem?_getD, List.getElem?_eq_getElem hi] at this
theorem lightN_le {l : List a6} {m : Int} (h : iM l m = true) : (∀ s ∈ l, s.length ≤ 300) ∧ (l.length : Int) ≤ m := by
  simpa [iM] using h

theorem c_LightNames (l : List a6) (A : Option Addr) (c : Nat) (m : Int) (hl : l.length ≤ 9223372036854775807) : RC Tryz.prog 123 #[.slice A l.length c, .int .i64 m] [Ch.rd A 1 dD l] (α := Unit) (fun _ => .bool (iM l m)) (fun _ => []) := by
 refine bK (args := [.slice A l.length c, .int .i64 m]) 22 Tryz.func123 rfl rfl rfl (fun w0 => ?_)
 refine ap ?_
 refine ae ?_
 refine aq (ai rfl) rfl rfl ?_
 refine aa ?_
 refine aj ?_
 refine ap ?_
 refine ap ?_
 refine ae ?_
 refine aq (ai rfl) rfl rfl ?_
 refine aa ?_
 refine aj ?_
 refine aS ?_
 refine cC (σ := Nat) [4, 5, 6, 7, 8, 9, 10, 11, 12, 13, 14, 15, 16, 17] (fun k => k ≤ l.length ∧ ∀ i, i < k → (l.getD i []).length ≤ 300) (fun k => l.length - k) (fun k => [(5, .int .i64 k)]) (0) ?_ ⟨rfl, trivial⟩ (fun k hI => ?_)
 exact ⟨Nat.zero_le _, nofun⟩
 refine ap ?_
 refine ap ?_
 refine ae ?_
 refine aq (am rfl) rfl rfl ?_
 refine aq (am rfl) rfl rfl ?_
 refine aq (bg Tryz.underlying59 rfl) rfl rfl ?_
 refine aq (bW rfl rfl) rfl rfl ?_
 refine ay (t := 9) rfl (fun h2_3 => ?_) (fun h2_3 => ?_)
 refine aa ?_
 refine aj ?_
 refine aA rfl ?_
 refine aQ ?_
 refine aj ?_
 refine ap ?_
 refine aS ?_
 refine ap ?_
 refine ae ?_
 refine aq (am rfl) rfl rfl ?_
 refine aq (am rfl) rfl rfl ?_
 refine aq (bB  Tryz.underlying59 bE rfl rfl (bF 0 rfl) rfl (by omega)) rfl rfl ?_
 refine aq (bZ bV ([] : a6) bE rfl (bF 0 rfl) (by omega) rfl rfl) rfl rfl ?_
 refine aq (dp Tryz.underlying26 rfl) rfl rfl ?_
 refine aq (dB rfl rfl) rfl rfl ?_
 refine ay (t := 17) rfl (fun h4_5 => ?_) (fun h4_5 => ?_)
 refine aa ?_
 refine aj ?_
 refine aA rfl ?_
 refine ap ?_
 refine ae ?_
 refine aq (ai rfl) rfl rfl ?_
 refine aa ?_
 refine aj ?_
 refine aN ?_
 refine aJ ?_
 refine ax ?_
 refine bh ?_
 refine aJ ?_
 refine ax ?_
 refine aR (ts := [4]) rfl rfl rfl (fun w hw => ?_)
 exact ⟨(), by rw [lightN_bad (k := k) (by omega) (by omega)]; rfl, hw.base, (hw.weak (List.nil_sublist _) (fun s hs => hs)).toNews⟩
 refine aa ?_
 refine aj ?_
 refine aD rfl ?_
 refine aQ ?_
 refine bj ?_
 refine aj ?_
 refine ae ?_
 refine aq (am rfl) rfl rfl ?_
 refine aq (br rfl rfl (by omega) (by omega)) rfl rfl ?_
 refine aq (ai rfl) rfl rfl ?_
 refine aa ?_
 refine bv (k + 1) ?_ ?_ ⟨rfl, trivial⟩ (by repeat (first | exact trivial | refine ⟨rfl, ?_⟩)) aG
 exact ⟨by omega, fo hI.2 (by omega)⟩
 omega
 refine aa ?_
 refine aj ?_
 refine aD rfl ?_
 refine bJ ?_
 refine aV ?_
 refine aX ?_
 refine a8 ?_
 refine aj ?_
 refine ap ?_
 refine ae ?_
 refine aq (am rfl) rfl rfl ?_
 refine aq (bg Tryz.underlying59 rfl) rfl rfl ?_
 refine aq (am rfl) rfl rfl ?_
 refine aq (ff rfl rfl) rfl rfl ?_
 refine aq (ai rfl) rfl rfl ?_
 refine aa ?_
 refine aj ?_
 refine aN ?_
 refine aR (ts := [4]) rfl rfl rfl (fun w hw => ?_)
 exact ⟨(), by rw [lightN_ok (fun i hi => hI.2 i (by omega))]; rfl, hw.base, (hw.weak (List.nil_sublist _) (fun s hs => hs)).toNews⟩

end Go.Proofs.YtnpdgmoeoidppaaGreat

/- tables: looked at -/
namespace Go.Proofs.YtnpdgmoeoidppaaGreat
open Go.RowKit Go.Shelf
set_option linter.unusedVariables false
set_option linter.unusedSimpArgs false

theorem ent_12 : Enters Tryz.prog 12 := enters_of Tryz.func12 (by kernel_rfl) rfl
theorem jV : Enters Tryz.prog 131 := enters_of Tryz.func131 (by kernel_rfl) rfl
theorem ent_139 : Enters Tryz.prog 139 := enters_of Tryz.func139 (by kernel_rfl) rfl
theorem ent_140 : Enters Tryz.prog 140 := enters_of Tryz.func140 (by kernel_rfl) rfl
theorem ent_141 : Enters Tryz.prog 141 := enters_of Tryz.func141 (by kernel_rfl) rfl
theorem dZ : FA Tryz.prog 24 0 0 := fun b o w => by kernel_rfl
theorem bX : FA Tryz.prog 24 1 1 := fun b o w => by kernel_rfl
theorem bz : TyI Tryz.prog 22 false 1 24 (.slice none 0 0) := TyI.mk' (by kernel_rfl) (fun _ => by kernel_rfl)

def eE (v : Int) (A : Option Addr) (n c : Nat) : List Value := [.int .i64 v, .slice A n c]
def f7 (l : List Le) (m : Int) : Bool := decide (∀ x ∈ l, eJ x.e = true) && decide ((l.length : Int) ≤ m)
theorem lightEs_bad {l : List Le} {m : Int} {k : Nat} (hk : k < l.length) (h : eJ (l.getD k bm).e = false) : f7 l m = false := by
  rw [f7, decide_eq_false (fun q => by rw [q _ (aZ (d := bm) hk)] at h; cases h), Bool.false_and]
theorem lightEs_ok {l : List Le} {m : Int} (h : ∀ i, i < l.length → eJ (l.getD i bm).e = true) : f7 l m = decide ((l.length : Int) ≤ m) := by
  rw [f7, decide_eq_true, Bool.true_and]
  intro s hs
  obtain ⟨i, hi, rfl⟩ := List.mem_iff_getElem.1 hs
  have := h i hi
  rwa [List.getD_eq_getElem?_getD, List.getElem?_eq_getElem hi] at this
theorem jh {l : List Le} {m : Int} (h : f7 l m = true) : (∀ x ∈ l, eJ x.e = true) ∧ (l.length : Int) ≤ m := by
  simpa [f7] using h

theorem iJ (l : List Le) (A : Option Addr) (c : Nat) (m : Int) (hl : l.length ≤ 9223372036854775807) : RC Tryz.prog 10 #[.slice A l.length c, .int .i64 m] [Ch.rd A 7 dF l] (α := Unit) (fun _ => .bool (f7 l m)) (fun _ => []) := by
 refine bK (args := [.slice A l.length c, .int .i64 m]) 22 Tryz.func10 rfl rfl rfl (fun w0 => ?_)
 refine ap ?_
 refine ae ?_
 refine aq (ai rfl) rfl rfl ?_
 refine aa ?_
 refine aj ?_
 refine ap ?_
 refine ap ?_
 refine ae ?_
 refine aq (ai rfl) rfl rfl ?_
 refine aa ?_
 refine aj ?_
 refine aS ?_
 refine cC (σ := Nat) [4, 5, 6, 7, 8, 9, 10, 11, 12, 13, 14, 15, 16, 17] (fun k => k ≤ l.length ∧ ∀ i, i < k → eJ (l.getD i bm).e = true) (fun k => l.length - k) (fun k => [(5, .int .i64 k)]) (0) ?_ ⟨rfl, trivial⟩ (fun k hI => ?_)
 exact ⟨Nat.zero_le _, nofun⟩
 refine ap ?_
 refine ap ?_
 refine ae ?_
 refine aq (am rfl) rfl rfl ?_
 refine aq (am rfl) rfl rfl ?_
 refine aq (bg Tryz.underlying22 rfl) rfl rfl ?_
 refine aq (bW rfl rfl) rfl rfl ?_
 refine ay (t := 9) rfl (fun h2_3 => ?_) (fun h2_3 => ?_)
 refine aa ?_
 refine aj ?_
 refine aA rfl ?_
 refine aQ ?_
 refine aj ?_
 refine ap ?_
 refine aS ?_
 refine ap ?_
 refine ae ?_
 refine aq (am rfl) rfl rfl ?_
 refine aq (am rfl) rfl rfl ?_
 refine aq (bB  Tryz.underlying22 aU rfl rfl (bF 0 rfl) rfl (by omega)) rfl rfl ?_
 refine aq (b6 bp bm aU rfl (bF 0 rfl) (by omega) rfl rfl rfl) rfl rfl ?_
 refine bD rfl ent_12 (c_LightEntry _ _ _ _ _) rfl ?_
 refine bN (t := 16) rfl (fun h4_4 => ?_) (fun h4_4 => ?_)
 refine aq (bS rfl) rfl rfl ?_
 refine aa ?_
 refine aj ?_
 refine aD rfl ?_
 refine aQ ?_
 refine bj ?_
 refine aj ?_
 refine ae ?_
 refine aq (am rfl) rfl rfl ?_
 refine aq (br rfl rfl (by omega) (by omega)) rfl rfl ?_
 refine aq (ai rfl) rfl rfl ?_
 refine aa ?_
 refine bv (k + 1) ?_ ?_ ⟨rfl, trivial⟩ (by repeat (first | exact trivial | refine ⟨rfl, ?_⟩)) aG
 exact ⟨by omega, fo hI.2 h4_4⟩
 omega
 refine aq (bS rfl) rfl rfl ?_
 refine aa ?_
 refine aj ?_
 refine aA rfl ?_
 refine ap ?_
 refine ae ?_
 refine aq (ai rfl) rfl rfl ?_
 refine aa ?_
 refine aj ?_
 refine aN ?_
 refine aJ ?_
 refine ax ?_
 refine bh ?_
 refine aJ ?_
 refine ax ?_
 refine aR (ts := [4]) rfl rfl rfl (fun w hw => ?_)
 exact ⟨(), by rw [lightEs_bad (k := k) (by omega) h4_4]; rfl, hw.base, (hw.weak (List.nil_sublist _) (fun s hs => hs)).toNews⟩
 refine aa ?_
 refine aj ?_
 refine aD rfl ?_
 refine bJ ?_
 refine aV ?_
 refine aX ?_
 refine a8 ?_
 refine aj ?_
 refine ap ?_
 refine ae ?_
 refine aq (am rfl) rfl rfl ?_
 refine aq (bg Tryz.underlying22 rfl) rfl rfl ?_
 refine aq (am rfl) rfl rfl ?_
 refine aq (ff rfl rfl) rfl rfl ?_
 refine aq (ai rfl) rfl rfl ?_
 refine aa ?_
 refine aj ?_
 refine aN ?_
 refine aR (ts := [4]) rfl rfl rfl (fun w hw => ?_)
 exact ⟨(), by rw [lightEs_ok (fun i hi => hI.2 i (by omega))]; rfl, hw.base, (hw.weak (List.nil_sublist _) (fun s hs => hs)).toNews⟩

def cmp1 (a b : a6) : Int := if bR a b ≠ 0 then bR a b else -1
def ir (l : List Le) : Prop := ∀ i, 0 < i → i < l.length → 0 < bR (l.getD i bm).e.host (l.getD (i - 1) bm).e.host
instance (l : List Le) : Decidable (ir l) := by
  have : Decidable (∀ i, i < l.length → (0 < i → 0 < bR (l.getD i bm).e.host (l.getD (i - 1) bm).e.host)) := inferInstance
  exact decidable_of_iff _ ⟨fun h i h0 hi => h i hi h0, fun h i hi h0 => h i h0 hi⟩
theorem cmp1_neg {a b : a6} : cmp1 a b < 0 ↔ ¬ 0 < bR a b := by
  unfold cmp1
  split
  · omega
  · constructor
    · intro _; omega
    · intro _; decide

theorem c_tCheck1 (x y : Le) (hx : x.e.host.length ≤ 1000000000) (hy : y.e.host.length ≤ 1000000000) : eC Tryz.prog 140 #[.agg (dF x).toArray, .agg (dF y).toArray] (.int .i64 (cmp1 x.e.host y.e.host)) := by
 intro w0
 refine bT (ok0 := no) (S := []) (args := [.agg (dF x).toArray, .agg (dF y).toArray]) 14 Tryz.func140 rfl rfl rfl (by simp) (by simp) ?_
 refine ap ?_
 refine ae ?_
 refine cL rfl rfl rfl (fun b1 => ?_)
 refine cL rfl rfl rfl (fun b2 => ?_)
 refine aq (ai rfl) rfl rfl ?_
 refine aa ?_
 refine aj ?_
 refine ap ?_
 refine ap ?_
 refine ae ?_
 refine aq (aB cM rfl) rfl rfl ?_
 refine aq (aC 1 bE rfl rfl rfl) rfl rfl ?_
 refine aq (aB cM rfl) rfl rfl ?_
 refine aq (aC 0 bE rfl rfl rfl) rfl rfl ?_
 refine bD rfl jV (fv _ _ (by omega) (by omega)) rfl ?_
 refine aq (ai rfl) rfl rfl ?_
 refine aa ?_
 refine aj ?_
 refine ap ?_
 refine ae ?_
 refine aq (am rfl) rfl rfl ?_
 refine aq (cO rfl rfl) rfl rfl ?_
 refine ay (t := 12) rfl (fun h2_1 => ?_) (fun h2_1 => ?_)
 refine aa ?_
 refine aj ?_
 refine aA rfl ?_
 refine ap ?_
 refine ae ?_
 refine aq (am rfl) rfl rfl ?_
 refine aq (ai rfl) rfl rfl ?_
 refine aa ?_
 refine aj ?_
 refine aN ?_
 refine ax ?_
 refine aR (ts := [4]) rfl rfl rfl (fun w hw => ?_)
 refine ⟨?_, hw.base⟩
 show Ending.returned (.int _ _) = _
 congr 2
 focus first
   | (rw [cmp1, if_pos h2_1]
      done)
   | (rw [cmp1, if_neg h2_1]
      done)
 refine aa ?_
 refine aj ?_
 refine aD rfl ?_
 refine aQ ?_
 refine aj ?_
 refine ap ?_
 refine ae ?_
 refine aq (ai rfl) rfl rfl ?_
 refine aa ?_
 refine aj ?_
 refine aN ?_
 refine aR (ts := [4]) rfl rfl rfl (fun w hw => ?_)
 refine ⟨?_, hw.base⟩
 show Ending.returned (.int _ _) = _
 congr 2
 focus first
   | (rw [cmp1, if_pos h2_1]
      done)
   | (rw [cmp1, if_neg h2_1]
      done)

set_option maxRecDepth 100000 in
theorem c_IsSorted (l : List Le) (A : Option Addr) (c : Nat) (hl : l.length ≤ 1000000000) (hh : ∀ x ∈ l, x.e.host.length ≤ 1000000000) : RC Tryz.prog 139 #[.slice A l.length c, .func (.func 140) #[] #[]] [Ch.rd A 7 dF l] (α := Unit) (fun _ => .bool (decide (ir l))) (fun _ => []) := by
 refine bK (args := [.slice A l.length c, .func (.func 140) #[] #[]]) 25 Tryz.func139 rfl rfl rfl (fun w0 => ?_)
 refine ap ?_
 refine ae ?_
 refine aq (ai rfl) rfl rfl ?_
 refine aa ?_
 refine aj ?_
 refine ap ?_
 refine ap ?_
 refine ae ?_
 refine aq (am rfl) rfl rfl ?_
 refine aq (bg Tryz.underlying22 rfl) rfl rfl ?_
 refine aq (fd rfl rfl (by omega) (by omega)) rfl rfl ?_
 refine aq (ai rfl) rfl rfl ?_
 refine aa ?_
 refine aj ?_
 refine aS ?_
 refine cC (σ := Int) [4, 5, 9, 10, 11, 12, 13, 14, 15, 16, 17, 18, 19, 20, 21, 22, 23, 24] (fun jz => -1 ≤ jz ∧ jz ≤ (l.length : Int) - 1 ∧ ∀ i : Nat, jz < i → 0 < i → i < l.length → 0 < bR (l.getD i bm).e.host (l.getD (i - 1) bm).e.host) (fun jz => (jz + 1).toNat) (fun jz => [(5, .int .i64 jz)]) (((l.length : Int) - 1)) ?_ ⟨rfl, trivial⟩ (fun jz hI => ?_)
 exact ⟨by omega, by omega, fun i h1 h2 h3 => by omega⟩
 refine ap ?_
 refine ap ?_
 refine ae ?_
 refine aq (am rfl) rfl rfl ?_
 refine aq (dB rfl rfl) rfl rfl ?_
 refine ay (t := 10) rfl (fun h2_1 => ?_) (fun h2_1 => ?_)
 refine aa ?_
 refine aj ?_
 refine aA rfl ?_
 refine aQ ?_
 refine aj ?_
 refine ap ?_
 refine aS ?_
 refine ap ?_
 refine dQ 12 rfl mixed ?_
 refine aK (i := 0) rfl ak (am rfl) aG aG rfl (ah (ao (ah (av (ao (ah aw)))))) (by kernel_rfl) rfl ?_
 refine aK (i := 1) rfl ak (am rfl) aG aG rfl (ah (ao (ah (av (ao (ah aw)))))) (by kernel_rfl) rfl ?_
 refine aK (i := 2) rfl ak (am rfl) aG aG rfl (ah (ao (ah (av (ao (ah aw)))))) (by kernel_rfl) rfl ?_
 refine aK (i := 3) rfl ak (bB (k := jz.toNat) Tryz.underlying22 aU rfl rfl (bF 0 rfl) (by omega) (by omega)) aG aG rfl (ah (ao (ah (av (ao (ah aw)))))) (by kernel_rfl) rfl ?_
 refine aK (i := 4) rfl ak (b6 bp bm aU rfl (bF 0 rfl) (by omega) rfl rfl rfl) aG aG rfl (ah (ao (ah (av (ao (ah aw)))))) (by kernel_rfl) rfl ?_
 refine aK (i := 5) rfl ak (am rfl) aG aG rfl (ah (ao (ah (av (ao (ah aw)))))) (by kernel_rfl) rfl ?_
 refine aK (i := 6) rfl ak (am rfl) aG aG rfl (ah (ao (ah (av (ao (ah aw)))))) (by kernel_rfl) rfl ?_
 refine aK (i := 7) rfl ak (fd rfl rfl (by omega) (by omega)) aG aG rfl (ah (ao (ah (av (ao (ah aw)))))) (by kernel_rfl) rfl ?_
 refine aK (i := 8) rfl ak (bB (k := jz.toNat - 1) Tryz.underlying22 aU rfl rfl (bF 0 rfl) (by omega) (by omega)) aG aG rfl (ah (ao (ah (av (ao (ah aw)))))) (by kernel_rfl) rfl ?_
 refine aK (i := 9) rfl ak (b6 bp bm aU rfl (bF 0 rfl) (by omega) rfl rfl rfl) aG aG rfl (ah (ao (ah (av (ao (ah aw)))))) (by kernel_rfl) rfl ?_
 refine dG (i := 10) rfl rfl rfl (bf rfl ent_140) (by kernel_rfl) rfl ?_
 refine jT rfl rfl rfl ent_140 (c_tCheck1 _ _ (hh _ (aZ (by omega))) (hh _ (aZ (by omega)))) rfl ?_
 refine aa ?_
 refine eO aG ?_
 refine aK (i := 11) rfl ak (bW rfl rfl) aG aG rfl (ah (ao (ah (av (ao (ah aw)))))) (by kernel_rfl) rfl ?_
 refine dN (t := 24) rfl (fun h4_11 => ?_) (fun h4_11 => ?_)
 refine cF (by kernel_rfl) ?_
 refine aj ?_
 refine aA rfl ?_
 refine ap ?_
 refine ae ?_
 refine aq (ai rfl) rfl rfl ?_
 refine aa ?_
 refine aj ?_
 refine aN ?_
 refine aJ ?_
 refine ax ?_
 refine bh ?_
 refine aJ ?_
 refine ax ?_
 refine aR (ts := [4]) rfl rfl rfl (fun w hw => ?_)
 have hR : ¬ ir l := fun h => by
   have h9 := h4_11
   rw [cmp1_neg] at h9
   exact h9 (h _ (by omega) (by omega))
 exact ⟨(), by rw [decide_eq_false hR]; rfl, hw.base, (hw.weak (List.nil_sublist _) (fun s hs => hs)).toNews⟩
 refine cF (by kernel_rfl) ?_
 refine aj ?_
 refine aD rfl ?_
 refine aQ ?_
 refine bj ?_
 refine aj ?_
 refine ae ?_
 refine aq (am rfl) rfl rfl ?_
 refine aq (fd rfl rfl (by omega) (by omega)) rfl rfl ?_
 refine aq (ai rfl) rfl rfl ?_
 refine aa ?_
 refine bv (jz - 1) ?_ ?_ ⟨rfl, trivial⟩ (by repeat (first | exact trivial | refine ⟨rfl, ?_⟩)) aG
 refine ⟨by omega, by omega, fun i h1 h2 h3 => ?_⟩
 by_cases e : jz = i
 · have e2 : jz.toNat = i := by omega
   have h9 := h4_11
   rw [cmp1_neg, e2] at h9
   exact Decidable.not_not.1 h9
 · exact hI.2.2 i (by omega) h2 h3
 omega
 refine aa ?_
 refine aj ?_
 refine aD rfl ?_
 refine bJ ?_
 refine aV ?_
 refine aX ?_
 refine a8 ?_
 refine aj ?_
 refine ap ?_
 refine ae ?_
 refine aq (ai rfl) rfl rfl ?_
 refine aa ?_
 refine aj ?_
 refine aN ?_
 refine aR (ts := [4]) rfl rfl rfl (fun w hw => ?_)
 have hR : ir l := fun i h1 h2 => hI.2.2 i (by omega) h1 h2
 exact ⟨(), by rw [decide_eq_true hR]; rfl, hw.base, (hw.weak (List.nil_sublist _) (fun s hs => hs)).toNews⟩

def cA : List Le → Int
  | [] => 0
  | x :: r => if cV x.e ≠ 0 then cV x.e else cA r
theorem entsCk_zero : ∀ {l : List Le}, cA l = 0 ↔ ∀ x ∈ l, cV x.e = 0
  | [] => by simp [cA]
  | d :: r => by
    rw [cA]
    by_cases h : cV d.e ≠ 0
    · rw [if_pos h]; simp [h]
    · rw [if_neg h, entsCk_zero]
      have : cV d.e = 0 := by omega
      simp [this]
/-- table.Check. -/
def bI (v : Int) (l : List Le) : Int := if 256 < l.length then 3 else if cA l ≠ 0 then cA l else if ¬ ir l ∨ v < 0 ∨ 2147483647 < v then 2 else 0
/-- What is known of a table's entries: their octets are so many, their numbers are such. -/
def TbOk (l : List Le) : Prop := ∀ x ∈ l, EnOk x.e ∧ eJ x.e = true
structure EnB (e : En) : Prop where
  wa : ∀ a ∈ e.addrs, 0 ≤ a.lo
  la : e.addrs.length ≤ 1000
  lp : e.ports.length ≤ 1000
  k : -9223372036854775808 ≤ e.kind ∧ e.kind ≤ 9223372036854775807
  h : e.host.length ≤ 1000
  al : e.alias.length ≤ 1000
theorem TbOk.at {l : List Le} (h : TbOk l) {k : Nat} (hk : k < l.length) : EnB (l.getD k bm).e := by
  obtain ⟨h1, h2⟩ := h _ (aZ (d := bm) hk)
  have h3 := jW h2
  exact ⟨h1.lo, by omega, by omega, h1.2.1, by omega, by omega⟩
theorem TbOk.hosts {l : List Le} (h : TbOk l) : ∀ x ∈ l, x.e.host.length ≤ 1000000000 := fun x hx => by
  have := jW (h x hx).2; omega
theorem drop_getE {l : List Le} {k : Nat} (h : k < l.length) : l.drop k = l.getD k bm :: l.drop (k + 1) := bG l bm k h

theorem e6 (v : Int) (l : List Le) (A : Option Addr) (c : Nat) (hok : TbOk l) (hlen : l.length ≤ 9223372036854775807) : RC Tryz.prog 61 #[.agg (eE v A l.length c).toArray] [Ch.rd A 7 dF l, Ch.rall (l.flatMap fm)] (α := Unit) (fun _ => .int .i64 (bI v l)) (fun _ => []) := by
 refine bK (args := [.agg (eE v A l.length c).toArray]) 39 Tryz.func61 rfl rfl rfl (fun w0 => ?_)
 refine ap ?_
 refine ae ?_
 refine cL rfl rfl rfl (fun b1 => ?_)
 refine aq (ai rfl) rfl rfl ?_
 refine aa ?_
 refine aj ?_
 refine ap ?_
 refine ap ?_
 refine ae ?_
 refine aq (aB bX rfl) rfl rfl ?_
 refine aq (aC 0 bz rfl rfl rfl) rfl rfl ?_
 refine aq (bg Tryz.underlying22 rfl) rfl rfl ?_
 refine aq (dB rfl rfl) rfl rfl ?_
 refine ay (t := 10) rfl (fun h1_3 => ?_) (fun h1_3 => ?_)
 refine aa ?_
 refine aj ?_
 refine aA rfl ?_
 refine ap ?_
 refine ae ?_
 refine aq (ai rfl) rfl rfl ?_
 refine aa ?_
 refine aj ?_
 refine aN ?_
 refine ax ?_
 refine aR (ts := [2]) rfl rfl rfl (fun w hw => ?_)
 refine ⟨(), ?_, hw.base, (hw.weak (List.nil_sublist _) (fun s hs => hs)).toNews⟩
 show Ending.returned (.int _ _) = _
 congr 2
 focus first
   | (rw [bI, if_pos (by omega)]
      done)
   | (rw [bI, if_neg (by omega), if_pos (by omega)]
      exact he9.symm)
   | (rw [bI, if_neg (by omega), if_neg (by omega), if_pos (by first | exact .inl (of_decide_eq_false h10_2) | exact .inr (.inl (by omega)) | exact .inr (.inr (by omega)))]
      done)
   | (rw [bI, if_neg (by omega), if_neg (by omega), if_neg (fun q => q.elim (fun q => q (of_decide_eq_true h10_2)) (fun q => by omega))]
      done)
   | (trace_state; fail)
 refine aa ?_
 refine aj ?_
 refine aD rfl ?_
 refine aQ ?_
 refine aj ?_
 refine ap ?_
 refine ap ?_
 refine ae ?_
 refine aq (aB bX rfl) rfl rfl ?_
 refine aq (aC 0 bz rfl rfl rfl) rfl rfl ?_
 refine aq (bg Tryz.underlying22 rfl) rfl rfl ?_
 refine aq (am rfl) rfl rfl ?_
 refine aa ?_
 refine aj ?_
 refine aS ?_
 refine cC (σ := Nat) [2, 4, 5, 14, 15, 16, 17, 18, 19, 20, 21, 22, 23] (fun k => k ≤ l.length ∧ cA l = cA (l.drop k)) (fun k => l.length - k) (fun k => [(14, .int .i64 k)]) (0) ?_ ⟨rfl, trivial⟩ (fun k hI => ?_)
 exact ⟨Nat.zero_le _, rfl⟩
 refine ap ?_
 refine ae ?_
 refine aq (bW rfl rfl) rfl rfl ?_
 refine ay (t := 15) rfl (fun h4_0 => ?_) (fun h4_0 => ?_)
 have hk : k < l.length := by omega
 have hb9 := hok.at hk
 have hdk := drop_getE hk
 refine aa ?_
 refine aj ?_
 refine ap ?_
 refine aA rfl ?_
 refine aQ ?_
 refine aj ?_
 refine ap ?_
 refine aS ?_
 refine ap ?_
 refine ae ?_
 refine aq (bB  Tryz.underlying22 aU rfl rfl (bF 0 rfl) rfl (by omega)) rfl rfl ?_
 refine aq (b6 bp bm aU rfl (bF 0 rfl) (by omega) rfl rfl rfl) rfl rfl ?_
 refine bH aU rfl rfl (fun b2 => ?_)
 refine aW aU rfl rfl rfl .z rfl rfl rfl rfl ?_
 refine aa ?_
 refine aj ?_
 refine ap ?_
 refine ae ?_
 refine aq (bu 0 aU rfl rfl rfl rfl) rfl rfl ?_
 refine bA rfl ent_138 rfl (jb _ _ _ _ _ hb9.wa (by have := hb9.la; omega) (by have := hb9.lp; omega) hb9.k) (fun w hw => (az (cJ (bo 1 rfl hw) (bM (aZ (by omega)) _ (hU _))) (az (cJ (bo 1 rfl hw) (bM (aZ (by omega)) _ (im _))) aY))) ?_
 refine aq (ai rfl) rfl rfl ?_
 refine aa ?_
 refine aj ?_
 refine ap ?_
 refine ae ?_
 refine aq (am rfl) rfl rfl ?_
 refine aq (cO rfl rfl) rfl rfl ?_
 refine ay (t := 21) rfl (fun h7_1 => ?_) (fun h7_1 => ?_)
 refine aa ?_
 refine aj ?_
 refine aA rfl ?_
 refine ap ?_
 have he9 : cA l = cV (l.getD k bm).e := by rw [hI.2, hdk, cA, if_pos h7_1]
 refine ae ?_
 refine aq (am rfl) rfl rfl ?_
 refine aq (ai rfl) rfl rfl ?_
 refine aa ?_
 refine aj ?_
 refine aN ?_
 refine aJ ?_
 refine ax ?_
 refine bh ?_
 refine aJ ?_
 refine ax ?_
 refine aR (ts := [2]) rfl rfl rfl (fun w hw => ?_)
 refine ⟨(), ?_, hw.base, (hw.weak (List.nil_sublist _) (fun s hs => hs)).toNews⟩
 show Ending.returned (.int _ _) = _
 congr 2
 focus first
   | (rw [bI, if_pos (by omega)]
      done)
   | (rw [bI, if_neg (by omega), if_pos (by omega)]
      exact he9.symm)
   | (rw [bI, if_neg (by omega), if_neg (by omega), if_pos (by first | exact .inl (of_decide_eq_false h10_2) | exact .inr (.inl (by omega)) | exact .inr (.inr (by omega)))]
      done)
   | (rw [bI, if_neg (by omega), if_neg (by omega), if_neg (fun q => q.elim (fun q => q (of_decide_eq_true h10_2)) (fun q => by omega))]
      done)
   | (trace_state; fail)
 refine aa ?_
 refine aj ?_
 refine aD rfl ?_
 refine aQ ?_
 refine bj ?_
 refine aj ?_
 refine ae ?_
 refine aq (br rfl rfl (by omega) (by omega)) rfl rfl ?_
 refine aq (am rfl) rfl rfl ?_
 refine aa ?_
 refine bv (k + 1) ?_ ?_ ⟨rfl, trivial⟩ (by repeat (first | exact trivial | refine ⟨rfl, ?_⟩)) (bq 1)
 exact ⟨by omega, by rw [hI.2, hdk, cA, if_neg h7_1]⟩
 omega
 refine aa ?_
 refine aj ?_
 refine ap ?_
 refine aD rfl ?_
 refine bJ ?_
 refine aV ?_
 refine aX ?_
 refine a8 ?_
 refine aj ?_
 refine ap ?_
 refine ae ?_
 have he0 : cA l = 0 := by rw [hI.2, List.drop_of_length_le (by omega)]; rfl
 have hhs := hok.hosts
 refine aq (aB bX rfl) rfl rfl ?_
 refine aq (aC 0 bz rfl rfl rfl) rfl rfl ?_
 refine bA rfl ent_139 rfl (c_IsSorted _ _ _ (by omega) hhs) (fun w hw => (az (bo 0 rfl hw) aY)) ?_
 refine bN (t := 26) rfl (fun h10_2 => ?_) (fun h10_2 => ?_)
 refine aq (ai rfl) rfl rfl ?_
 refine aa ?_
 refine aj ?_
 refine ap ?_
 refine ap ?_
 refine ae ?_
 refine aq (am rfl) rfl rfl ?_
 refine aq (bS rfl) rfl rfl ?_
 refine aq (am rfl) rfl rfl ?_
 refine au rfl rfl ?_
 refine aq (aB dZ rfl) rfl rfl ?_
 refine au rfl rfl ?_
 refine aq (aC 0 cX rfl rfl rfl) rfl rfl ?_
 refine au rfl rfl ?_
 refine aq (bW rfl rfl) rfl rfl ?_
 refine ay (t := 32) rfl (fun h11_5 => ?_) (fun h11_5 => ?_)
 refine aq (aF rfl rfl) rfl rfl ?_
 refine aq (am rfl) rfl rfl ?_
 refine ar rfl rfl rfl rfl ?_
 refine ar rfl rfl rfl rfl ?_
 refine ar rfl rfl rfl rfl ?_
 refine aq (aH rfl rfl) rfl rfl ?_
 refine aa ?_
 refine aj ?_
 refine aA rfl ?_
 refine ap ?_
 refine ae ?_
 refine aq (ai rfl) rfl rfl ?_
 refine aa ?_
 refine aj ?_
 refine aN ?_
 refine ax ?_
 refine aR (ts := [2]) rfl rfl rfl (fun w hw => ?_)
 refine ⟨(), ?_, hw.base, (hw.weak (List.nil_sublist _) (fun s hs => hs)).toNews⟩
 show Ending.returned (.int _ _) = _
 congr 2
 focus first
   | (rw [bI, if_pos (by omega)]
      done)
   | (rw [bI, if_neg (by omega), if_pos (by omega)]
      exact he9.symm)
   | (rw [bI, if_neg (by omega), if_neg (by omega), if_pos (by first | exact .inl (of_decide_eq_false h10_2) | exact .inr (.inl (by omega)) | exact .inr (.inr (by omega)))]
      done)
   | (rw [bI, if_neg (by omega), if_neg (by omega), if_neg (fun q => q.elim (fun q => q (of_decide_eq_true h10_2)) (fun q => by omega))]
      done)
   | (trace_state; fail)
 refine aq (aF rfl rfl) rfl rfl ?_
 refine aq (am rfl) rfl rfl ?_
 refine au rfl rfl ?_
 refine aq (aB dZ rfl) rfl rfl ?_
 refine au rfl rfl ?_
 refine aq (aC 0 cX rfl rfl rfl) rfl rfl ?_
 refine au rfl rfl ?_
 refine aq (dB rfl rfl) rfl rfl ?_
 refine ay (t := 37) rfl (fun h11_10 => ?_) (fun h11_10 => ?_)
 refine aq (aF rfl rfl) rfl rfl ?_
 refine aa ?_
 refine aj ?_
 refine aA rfl ?_
 refine ap ?_
 refine ae ?_
 refine aq (ai rfl) rfl rfl ?_
 refine aa ?_
 refine aj ?_
 refine aN ?_
 refine ax ?_
 refine aR (ts := [2]) rfl rfl rfl (fun w hw => ?_)
 refine ⟨(), ?_, hw.base, (hw.weak (List.nil_sublist _) (fun s hs => hs)).toNews⟩
 show Ending.returned (.int _ _) = _
 congr 2
 focus first
   | (rw [bI, if_pos (by omega)]
      done)
   | (rw [bI, if_neg (by omega), if_pos (by omega)]
      exact he9.symm)
   | (rw [bI, if_neg (by omega), if_neg (by omega), if_pos (by first | exact .inl (of_decide_eq_false h10_2) | exact .inr (.inl (by omega)) | exact .inr (.inr (by omega)))]
      done)
   | (rw [bI, if_neg (by omega), if_neg (by omega), if_neg (fun q => q.elim (fun q => q (of_decide_eq_true h10_2)) (fun q => by omega))]
      done)
   | (trace_state; fail)
 refine aq (aF rfl rfl) rfl rfl ?_
 refine aa ?_
 refine aj ?_
 refine aD rfl ?_
 refine aQ ?_
 refine aj ?_
 refine ap ?_
 refine ae ?_
 refine aq (ai rfl) rfl rfl ?_
 refine aa ?_
 refine aj ?_
 refine aN ?_
 refine aR (ts := [2]) rfl rfl rfl (fun w hw => ?_)
 refine ⟨(), ?_, hw.base, (hw.weak (List.nil_sublist _) (fun s hs => hs)).toNews⟩
 show Ending.returned (.int _ _) = _
 congr 2
 focus first
   | (rw [bI, if_pos (by omega)]
      done)
   | (rw [bI, if_neg (by omega), if_pos (by omega)]
      exact he9.symm)
   | (rw [bI, if_neg (by omega), if_neg (by omega), if_pos (by first | exact .inl (of_decide_eq_false h10_2) | exact .inr (.inl (by omega)) | exact .inr (.inr (by omega)))]
      done)
   | (rw [bI, if_neg (by omega), if_neg (by omega), if_neg (fun q => q.elim (fun q => q (of_decide_eq_true h10_2)) (fun q => by omega))]
      done)
   | (trace_state; fail)
 refine aq (ai rfl) rfl rfl ?_
 refine aa ?_
 refine aj ?_
 refine ap ?_
 refine ap ?_
 refine ae ?_
 refine aq (am rfl) rfl rfl ?_
 refine aq (bS rfl) rfl rfl ?_
 refine aq (am rfl) rfl rfl ?_
 refine ar rfl rfl rfl rfl ?_
 refine ar rfl rfl rfl rfl ?_
 refine ar rfl rfl rfl rfl ?_
 refine aq (aH rfl rfl) rfl rfl ?_
 refine aq (am rfl) rfl rfl ?_
 refine ar rfl rfl rfl rfl ?_
 refine ar rfl rfl rfl rfl ?_
 refine ar rfl rfl rfl rfl ?_
 refine aq (aH rfl rfl) rfl rfl ?_
 refine aa ?_
 refine aj ?_
 refine aA rfl ?_
 refine ap ?_
 refine ae ?_
 refine aq (ai rfl) rfl rfl ?_
 refine aa ?_
 refine aj ?_
 refine aN ?_
 refine ax ?_
 refine aR (ts := [2]) rfl rfl rfl (fun w hw => ?_)
 refine ⟨(), ?_, hw.base, (hw.weak (List.nil_sublist _) (fun s hs => hs)).toNews⟩
 show Ending.returned (.int _ _) = _
 congr 2
 focus first
   | (rw [bI, if_pos (by omega)]
      done)
   | (rw [bI, if_neg (by omega), if_pos (by omega)]
      exact he9.symm)
   | (rw [bI, if_neg (by omega), if_neg (by omega), if_pos (by first | exact .inl (of_decide_eq_false h10_2) | exact .inr (.inl (by omega)) | exact .inr (.inr (by omega)))]
      done)
   | (rw [bI, if_neg (by omega), if_neg (by omega), if_neg (fun q => q.elim (fun q => q (of_decide_eq_true h10_2)) (fun q => by omega))]
      done)
   | (trace_state; fail)

theorem gb {l : List Le} {j : Nat} (h0 : 0 < j) (hj : j < l.length) (h : 0 ≤ bR (l.getD (j - 1) bm).e.host (l.getD j bm).e.host) : ¬ ir l := fun q => by
  have := q j h0 hj
  rw [dM (l.getD (j - 1) bm).e.host] at this
  omega
theorem rises_step {l : List Le} {j : Nat} (h : ¬ 0 ≤ bR (l.getD (j - 1) bm).e.host (l.getD j bm).e.host) : 0 < bR (l.getD j bm).e.host (l.getD (j - 1) bm).e.host := by
  rw [dM (l.getD (j - 1) bm).e.host]; omega

set_option maxRecDepth 100000 in
theorem eV (v : Int) (l : List Le) (A : Option Addr) (c : Nat) (hok : TbOk l) (hlen : l.length ≤ 9223372036854775807) : RC Tryz.prog 62 #[.agg (eE v A l.length c).toArray] [Ch.rd A 7 dF l, Ch.rall (l.flatMap fm)] (α := Unit) (fun _ => .int .i64 (bI v l)) (fun _ => []) := by
 refine bK (args := [.agg (eE v A l.length c).toArray]) 56 Tryz.func62 rfl rfl rfl (fun w0 => ?_)
 refine ap ?_
 refine ae ?_
 refine cL rfl rfl rfl (fun b1 => ?_)
 refine aq (ai rfl) rfl rfl ?_
 refine aa ?_
 refine aj ?_
 refine ap ?_
 refine ap ?_
 refine ae ?_
 refine aq (aB bX rfl) rfl rfl ?_
 refine aq (aC 0 bz rfl rfl rfl) rfl rfl ?_
 refine aq (bg Tryz.underlying22 rfl) rfl rfl ?_
 refine aq (dB rfl rfl) rfl rfl ?_
 refine ay (t := 9) rfl (fun h1_3 => ?_) (fun h1_3 => ?_)
 refine aa ?_
 refine aj ?_
 refine aA rfl ?_
 refine ap ?_
 refine ae ?_
 refine aq (ai rfl) rfl rfl ?_
 refine aa ?_
 refine aj ?_
 refine aN ?_
 refine ax ?_
 refine aR (ts := [2]) rfl rfl rfl (fun w hw => ?_)
 refine ⟨(), ?_, hw.base, (hw.weak (List.nil_sublist _) (fun s hs => hs)).toNews⟩
 show Ending.returned (.int _ _) = _
 congr 2
 focus first
   | (rw [bI, if_pos (by omega)]
      done)
   | (rw [bI, if_neg (by omega), if_pos (by omega)]
      exact he9.symm)
   | (rw [bI, if_neg (by omega), if_neg (by omega), if_pos (by first | exact .inl (gb (j := j) (by omega) (by omega) h12_14) | exact .inr (.inl (by omega)) | exact .inr (.inr (by omega)))]
      done)
   | (rw [bI, if_neg (by omega), if_neg (by omega), if_neg (fun q => q.elim (fun q => q hR9) (fun q => by omega))]
      done)
   | (trace_state; fail)
 refine aa ?_
 refine aj ?_
 refine aD rfl ?_
 refine aQ ?_
 refine aj ?_
 refine ap ?_
 refine ap ?_
 refine ae ?_
 refine aq (ai rfl) rfl rfl ?_
 refine aa ?_
 refine aj ?_
 refine aS ?_
 refine cC (σ := Nat) [2, 3, 4, 10, 11, 12, 13, 14, 15, 16, 17, 18, 19, 20, 21, 22, 23, 24, 25] (fun k => k ≤ l.length ∧ cA l = cA (l.drop k)) (fun k => l.length - k) (fun k => [(3, .int .i64 k)]) (0) ?_ ⟨rfl, trivial⟩ (fun k hI => ?_)
 exact ⟨Nat.zero_le _, rfl⟩
 refine ap ?_
 refine ap ?_
 refine ae ?_
 refine aq (am rfl) rfl rfl ?_
 refine aq (aB bX rfl) rfl rfl ?_
 refine aq (aC 0 bz rfl rfl rfl) rfl rfl ?_
 refine aq (bg Tryz.underlying22 rfl) rfl rfl ?_
 refine aq (bW rfl rfl) rfl rfl ?_
 refine ay (t := 14) rfl (fun h4_4 => ?_) (fun h4_4 => ?_)
 have hk : k < l.length := by omega
 have hb9 := hok.at hk
 have hdk := drop_getE hk
 refine aa ?_
 refine aj ?_
 refine aA rfl ?_
 refine aQ ?_
 refine aj ?_
 refine ap ?_
 refine aS ?_
 refine ap ?_
 refine ae ?_
 refine aq (aB bX rfl) rfl rfl ?_
 refine aq (aC 0 bz rfl rfl rfl) rfl rfl ?_
 refine aq (am rfl) rfl rfl ?_
 refine aq (bB  Tryz.underlying22 aU rfl rfl (bF 0 rfl) rfl (by omega)) rfl rfl ?_
 refine aq (b6 bp bm aU rfl (bF 0 rfl) (by omega) rfl rfl rfl) rfl rfl ?_
 refine bA rfl ent_133 rfl (gI _ _ _ _ _ hb9.wa (by have := hb9.la; omega) (by have := hb9.lp; omega) hb9.k) (fun w hw => (az (cJ (bo 1 rfl hw) (bM (aZ (by omega)) _ (hU _))) (az (cJ (bo 1 rfl hw) (bM (aZ (by omega)) _ (im _))) aY))) ?_
 refine aq (ai rfl) rfl rfl ?_
 refine aa ?_
 refine aj ?_
 refine ap ?_
 refine ae ?_
 refine aq (am rfl) rfl rfl ?_
 refine aq (cO rfl rfl) rfl rfl ?_
 refine ay (t := 24) rfl (fun h7_1 => ?_) (fun h7_1 => ?_)
 refine aa ?_
 refine aj ?_
 refine aA rfl ?_
 refine ap ?_
 have he9 : cA l = cV (l.getD k bm).e := by rw [hI.2, hdk, cA, if_pos h7_1]
 refine ae ?_
 refine aq (am rfl) rfl rfl ?_
 refine aq (ai rfl) rfl rfl ?_
 refine aa ?_
 refine aj ?_
 refine aN ?_
 refine aJ ?_
 refine ax ?_
 refine bh ?_
 refine aJ ?_
 refine ax ?_
 refine aR (ts := [2]) rfl rfl rfl (fun w hw => ?_)
 refine ⟨(), ?_, hw.base, (hw.weak (List.nil_sublist _) (fun s hs => hs)).toNews⟩
 show Ending.returned (.int _ _) = _
 congr 2
 focus first
   | (rw [bI, if_pos (by omega)]
      done)
   | (rw [bI, if_neg (by omega), if_pos (by omega)]
      exact he9.symm)
   | (rw [bI, if_neg (by omega), if_neg (by omega), if_pos (by first | exact .inl (gb (j := j) (by omega) (by omega) h12_14) | exact .inr (.inl (by omega)) | exact .inr (.inr (by omega)))]
      done)
   | (rw [bI, if_neg (by omega), if_neg (by omega), if_neg (fun q => q.elim (fun q => q hR9) (fun q => by omega))]
      done)
   | (trace_state; fail)
 refine aa ?_
 refine aj ?_
 refine aD rfl ?_
 refine aQ ?_
 refine bj ?_
 refine aj ?_
 refine ae ?_
 refine aq (am rfl) rfl rfl ?_
 refine aq (br rfl rfl (by omega) (by omega)) rfl rfl ?_
 refine aq (ai rfl) rfl rfl ?_
 refine aa ?_
 refine bv (k + 1) ?_ ?_ ⟨rfl, trivial⟩ (by repeat (first | exact trivial | refine ⟨rfl, ?_⟩)) aG
 exact ⟨by omega, by rw [hI.2, hdk, cA, if_neg h7_1]⟩
 omega
 refine aa ?_
 refine aj ?_
 refine aD rfl ?_
 refine bJ ?_
 refine aV ?_
 refine aX ?_
 refine a8 ?_
 refine aj ?_
 refine ap ?_
 refine ap ?_
 have he0 : cA l = 0 := by rw [hI.2, List.drop_of_length_le (by omega)]; rfl
 refine ae ?_
 refine aq (ai rfl) rfl rfl ?_
 refine aa ?_
 refine aj ?_
 refine aS ?_
 refine cC (σ := Nat) [2, 5, 26, 27, 28, 29, 30, 31, 32, 33, 34, 35, 36, 37, 38, 39, 40, 41, 42, 43, 44, 45, 46, 47] (fun j => 1 ≤ j ∧ ∀ i, 0 < i → i < j → 0 < bR (l.getD i bm).e.host (l.getD (i - 1) bm).e.host) (fun j => l.length - j) (fun j => [(5, .int .i64 j)]) (1) ?_ ⟨rfl, trivial⟩ (fun j hI => ?_)
 exact ⟨Nat.le_refl _, fun i h1 h2 => by omega⟩
 refine ap ?_
 refine ap ?_
 refine ae ?_
 refine aq (am rfl) rfl rfl ?_
 refine aq (aB bX rfl) rfl rfl ?_
 refine aq (aC 0 bz rfl rfl rfl) rfl rfl ?_
 refine aq (bg Tryz.underlying22 rfl) rfl rfl ?_
 refine aq (bW rfl rfl) rfl rfl ?_
 refine ay (t := 30) rfl (fun h10_4 => ?_) (fun h10_4 => ?_)
 have hj9 := hok.at (k := j) (by omega)
 have hj8 := hok.at (k := j - 1) (by omega)
 refine aa ?_
 refine aj ?_
 refine aA rfl ?_
 refine aQ ?_
 refine aj ?_
 refine ap ?_
 refine aS ?_
 refine ap ?_
 refine dQ 15 rfl mixed ?_
 refine aK (i := 0) rfl ak (aB bX rfl) aG aG rfl (ah (ao (ah (av (ao (ah aw)))))) (by kernel_rfl) rfl ?_
 refine aK (i := 1) rfl ak (aC 0 bz rfl rfl rfl) aG aG rfl (ah (ao (ah (av (ao (ah aw)))))) (by kernel_rfl) rfl ?_
 refine aK (i := 2) rfl ak (am rfl) aG aG rfl (ah (ao (ah (av (ao (ah aw)))))) (by kernel_rfl) rfl ?_
 refine aK (i := 3) rfl ak (fd rfl rfl (by omega) (by omega)) aG aG rfl (ah (ao (ah (av (ao (ah aw)))))) (by kernel_rfl) rfl ?_
 refine aK (i := 4) rfl ak (bB (k := j - 1) Tryz.underlying22 aU rfl rfl (bF 0 rfl) (by omega) (by omega)) aG aG rfl (ah (ao (ah (av (ao (ah aw)))))) (by kernel_rfl) rfl ?_
 refine aK (i := 5) rfl ak (aB cM rfl) aG aG rfl (ah (ao (ah (av (ao (ah aw)))))) (by kernel_rfl) rfl ?_
 refine aK (i := 6) rfl ak (bZ bp bm bE rfl (bF 0 rfl) (by omega) rfl rfl) aG aG rfl (ah (ao (ah (av (ao (ah aw)))))) (by kernel_rfl) rfl ?_
 refine aK (i := 7) rfl ak (aB bX rfl) aG aG rfl (ah (ao (ah (av (ao (ah aw)))))) (by kernel_rfl) rfl ?_
 refine aK (i := 8) rfl ak (aC 0 bz rfl rfl rfl) aG aG rfl (ah (ao (ah (av (ao (ah aw)))))) (by kernel_rfl) rfl ?_
 refine aK (i := 9) rfl ak (am rfl) aG aG rfl (ah (ao (ah (av (ao (ah aw)))))) (by kernel_rfl) rfl ?_
 refine aK (i := 10) rfl ak (bB  Tryz.underlying22 aU rfl rfl (bF 0 rfl) rfl (by omega)) aG aG rfl (ah (ao (ah (av (ao (ah aw)))))) (by kernel_rfl) rfl ?_
 refine aK (i := 11) rfl ak (aB cM rfl) aG aG rfl (ah (ao (ah (av (ao (ah aw)))))) (by kernel_rfl) rfl ?_
 refine aK (i := 12) rfl ak (bZ bp bm bE rfl (bF 0 rfl) (by omega) rfl rfl) aG aG rfl (ah (ao (ah (av (ao (ah aw)))))) (by kernel_rfl) rfl ?_
 refine dG (i := 13) rfl rfl rfl (bf rfl ent_141) (by kernel_rfl) rfl ?_
 refine bD rfl ent_141 (iq _ _ (by have := hj8.h; omega) (by have := hj9.h; omega)) rfl ?_
 refine aa ?_
 refine eO aG ?_
 refine aK (i := 14) rfl ak (gD rfl rfl) aG aG rfl (ah (ao (ah (av (ao (ah aw)))))) (by kernel_rfl) rfl ?_
 refine dN (t := 47) rfl (fun h12_14 => ?_) (fun h12_14 => ?_)
 refine cF (by kernel_rfl) ?_
 refine aj ?_
 refine aA rfl ?_
 refine ap ?_
 refine ae ?_
 refine aq (ai rfl) rfl rfl ?_
 refine aa ?_
 refine aj ?_
 refine aN ?_
 refine aJ ?_
 refine ax ?_
 refine bh ?_
 refine aJ ?_
 refine ax ?_
 refine aR (ts := [2]) rfl rfl rfl (fun w hw => ?_)
 refine ⟨(), ?_, hw.base, (hw.weak (List.nil_sublist _) (fun s hs => hs)).toNews⟩
 show Ending.returned (.int _ _) = _
 congr 2
 focus first
   | (rw [bI, if_pos (by omega)]
      done)
   | (rw [bI, if_neg (by omega), if_pos (by omega)]
      exact he9.symm)
   | (rw [bI, if_neg (by omega), if_neg (by omega), if_pos (by first | exact .inl (gb (j := j) (by omega) (by omega) h12_14) | exact .inr (.inl (by omega)) | exact .inr (.inr (by omega)))]
      done)
   | (rw [bI, if_neg (by omega), if_neg (by omega), if_neg (fun q => q.elim (fun q => q hR9) (fun q => by omega))]
      done)
   | (trace_state; fail)
 refine cF (by kernel_rfl) ?_
 refine aj ?_
 refine aD rfl ?_
 refine aQ ?_
 refine bj ?_
 refine aj ?_
 refine ae ?_
 refine aq (am rfl) rfl rfl ?_
 refine aq (br rfl rfl (by omega) (by omega)) rfl rfl ?_
 refine aq (ai rfl) rfl rfl ?_
 refine aa ?_
 refine bv (j + 1) ?_ ?_ ⟨rfl, trivial⟩ (by repeat (first | exact trivial | refine ⟨rfl, ?_⟩)) aG
 refine ⟨by omega, fun i h1 h2 => ?_⟩
 by_cases e : i = j
 · rw [e]; exact rises_step h12_14
 · exact hI.2 i h1 (by omega)
 omega
 refine aa ?_
 refine aj ?_
 refine aD rfl ?_
 refine bJ ?_
 refine aV ?_
 refine aX ?_
 refine a8 ?_
 refine aj ?_
 refine ap ?_
 refine ap ?_
 have hR9 : ir l := fun i h1 h2 => hI.2 i h1 (by omega)
 refine ae ?_
 refine aq (aB dZ rfl) rfl rfl ?_
 refine aq (aC 0 cX rfl rfl rfl) rfl rfl ?_
 refine aq (bW rfl rfl) rfl rfl ?_
 refine ay (t := 50) rfl (fun h14_2 => ?_) (fun h14_2 => ?_)
 refine aq (am rfl) rfl rfl ?_
 refine ar rfl rfl rfl rfl ?_
 refine ar rfl rfl rfl rfl ?_
 refine ar rfl rfl rfl rfl ?_
 refine aq (aH rfl rfl) rfl rfl ?_
 refine aa ?_
 refine aj ?_
 refine aA rfl ?_
 refine ap ?_
 refine ae ?_
 refine aq (ai rfl) rfl rfl ?_
 refine aa ?_
 refine aj ?_
 refine aN ?_
 refine ax ?_
 refine aR (ts := [2]) rfl rfl rfl (fun w hw => ?_)
 refine ⟨(), ?_, hw.base, (hw.weak (List.nil_sublist _) (fun s hs => hs)).toNews⟩
 show Ending.returned (.int _ _) = _
 congr 2
 focus first
   | (rw [bI, if_pos (by omega)]
      done)
   | (rw [bI, if_neg (by omega), if_pos (by omega)]
      exact he9.symm)
   | (rw [bI, if_neg (by omega), if_neg (by omega), if_pos (by first | exact .inl (gb (j := j) (by omega) (by omega) h12_14) | exact .inr (.inl (by omega)) | exact .inr (.inr (by omega)))]
      done)
   | (rw [bI, if_neg (by omega), if_neg (by omega), if_neg (fun q => q.elim (fun q => q hR9) (fun q => by omega))]
      done)
   | (trace_state; fail)
 refine aq (am rfl) rfl rfl ?_
 refine au rfl rfl ?_
 refine aq (aB dZ rfl) rfl rfl ?_
 refine au rfl rfl ?_
 refine aq (aC 0 cX rfl rfl rfl) rfl rfl ?_
 refine au rfl rfl ?_
 refine aq (dB rfl rfl) rfl rfl ?_
 refine ay (t := 54) rfl (fun h14_6 => ?_) (fun h14_6 => ?_)
 refine aq (aF rfl rfl) rfl rfl ?_
 refine aa ?_
 refine aj ?_
 refine aA rfl ?_
 refine ap ?_
 refine ae ?_
 refine aq (ai rfl) rfl rfl ?_
 refine aa ?_
 refine aj ?_
 refine aN ?_
 refine ax ?_
 refine aR (ts := [2]) rfl rfl rfl (fun w hw => ?_)
 refine ⟨(), ?_, hw.base, (hw.weak (List.nil_sublist _) (fun s hs => hs)).toNews⟩
 show Ending.returned (.int _ _) = _
 congr 2
 focus first
   | (rw [bI, if_pos (by omega)]
      done)
   | (rw [bI, if_neg (by omega), if_pos (by omega)]
      exact he9.symm)
   | (rw [bI, if_neg (by omega), if_neg (by omega), if_pos (by first | exact .inl (gb (j := j) (by omega) (by omega) h12_14) | exact .inr (.inl (by omega)) | exact .inr (.inr (by omega)))]
      done)
   | (rw [bI, if_neg (by omega), if_neg (by omega), if_neg (fun q => q.elim (fun q => q hR9) (fun q => by omega))]
      done)
   | (trace_state; fail)
 refine aq (aF rfl rfl) rfl rfl ?_
 refine aa ?_
 refine aj ?_
 refine aD rfl ?_
 refine aQ ?_
 refine aj ?_
 refine ap ?_
 refine ae ?_
 refine aq (ai rfl) rfl rfl ?_
 refine aa ?_
 refine aj ?_
 refine aN ?_
 refine aR (ts := [2]) rfl rfl rfl (fun w hw => ?_)
 refine ⟨(), ?_, hw.base, (hw.weak (List.nil_sublist _) (fun s hs => hs)).toNews⟩
 show Ending.returned (.int _ _) = _
 congr 2
 focus first
   | (rw [bI, if_pos (by omega)]
      done)
   | (rw [bI, if_neg (by omega), if_pos (by omega)]
      exact he9.symm)
   | (rw [bI, if_neg (by omega), if_neg (by omega), if_pos (by first | exact .inl (gb (j := j) (by omega) (by omega) h12_14) | exact .inr (.inl (by omega)) | exact .inr (.inr (by omega)))]
      done)
   | (rw [bI, if_neg (by omega), if_neg (by omega), if_neg (fun q => q.elim (fun q => q hR9) (fun q => by omega))]
      done)
   | (trace_state; fail)
end Go.Proofs.YtnpdgmoeoidppaaGreat

/- an index: made of a table, asked for names -/
namespace Go.Proofs.YtnpdgmoeoidppaaGreat
open Go.RowKit Go.Shelf
set_option linter.unusedVariables false
set_option linter.unusedSimpArgs false

theorem ent_61 : Enters Tryz.prog 61 := enters_of Tryz.func61 (by kernel_rfl) rfl
theorem ent_69 : Enters Tryz.prog 69 := enters_of Tryz.func69 (by kernel_rfl) rfl
theorem ent_71 : Enters Tryz.prog 71 := enters_of Tryz.func71 (by kernel_rfl) rfl
theorem bw : TyI Tryz.prog 24 true 2 32 (.agg #[.int .i64 0, .slice none 0 0]) := TyI.mk' (by kernel_rfl) (fun _ => by kernel_rfl)

theorem EnB.eq {e f : En} (h : EnB e) (q : f = e) : EnB f := q ▸ h

end Go.Proofs.YtnpdgmoeoidppaaGreat

/- the laws of candidates -/
namespace Go.Proofs.YtnpdgmoeoidppaaGreat
open Go.RowKit Go.Shelf
set_option linter.unusedVariables false
set_option linter.unusedSimpArgs false

theorem Ok.pos {s : Sr} {n : a6} (h : Ok s n) : 1 ≤ (jK s n).length := List.length_pos_of_mem h.mem
theorem Ok.nd {s : Sr} {n : a6} (h : Ok s n) (k : Int) (h1 : 0 ≤ k) (h2 : k ≤ 15) : Ok { s with ndots := k } n := by
  refine ⟨?_, h.n0⟩
  have h3 := h.s0
  unfold srCk at h3 ⊢
  split at h3
  · omega
  · rename_i q1
    split at h3
    · omega
    · rename_i q2
      split at h3
      · omega
      · rename_i q3
        rw [if_neg q1, if_neg q2, if_neg]
        rintro (q | q)
        · exact q3 (.inl q)
        · show False
          have q' : k < 0 ∨ 15 < k := q
          omega
theorem Ok.names {s : Sr} {n : a6} (h : Ok s n) : namesE s n = 0 := by rw [namesE, if_neg (by rw [h.s0]; decide)]; exact h.n0
end Go.Proofs.YtnpdgmoeoidppaaGreat

/- an index asked; the reference of indexes; the first candidate -/
namespace Go.Proofs.YtnpdgmoeoidppaaGreat
open Go.RowKit Go.Shelf
set_option linter.unusedVariables false
set_option linter.unusedSimpArgs false

theorem bu_34 : Tryz.prog.built 34 [] = some [.string ⟨#[]⟩, .int .i64 0, .string ⟨#[]⟩, .slice none 0 0, .string ⟨#[]⟩, .slice none 0 0, .int .u32 0].toArray := by kernel_rfl
theorem ent_46 : Enters Tryz.prog 46 := enters_of Tryz.func46 (by kernel_rfl) rfl
theorem ent_62 : Enters Tryz.prog 62 := enters_of Tryz.func62 (by kernel_rfl) rfl
def hst (l : List Le) (i : Nat) : a6 := (l.getD i bm).e.host
end Go.Proofs.YtnpdgmoeoidppaaGreat

/- an index finds what the reference finds: the plain law -/
namespace Go.Proofs.YtnpdgmoeoidppaaGreat
open Go.RowKit Go.Shelf
set_option linter.unusedVariables false
set_option linter.unusedSimpArgs false

def b8 (es : List En) (key : a6) : Option En := es.find? fun e => decide (a7 e.host = key)
/-- Hosts that may be, unlike one another. -/
structure HostsOk (es : List En) : Prop where
  ck : ∀ e ∈ es, bd e.host = 0
  dis : ∀ e ∈ es, ∀ f ∈ es, a7 e.host = a7 f.host → e = f
theorem iV {es : List En} (h : HostsOk es) {e : En} (he : e ∈ es) : b8 es (a7 e.host) = some e := by
  cases hl : b8 es (a7 e.host) with
  | none =>
    have := List.find?_eq_none.1 hl e he
    simp at this
  | some f =>
    have h1 := List.mem_of_find?_eq_some hl
    have h2 := List.find?_some hl
    simp only [decide_eq_true_eq] at h2
    rw [h.dis f h1 e he h2]
theorem look_mem {es : List En} {key : a6} {e : En} (h : b8 es key = some e) : e ∈ es ∧ a7 e.host = key := by
  have h1 := List.mem_of_find?_eq_some h
  have h2 := List.find?_some h
  simp only [decide_eq_true_eq] at h2
  exact ⟨h1, h2⟩
theorem same2_iff {a b : a6} (ha : bd a = 0) (hb : bd b = 0) : gn a b = true ↔ a7 a = a7 b := by
  simp [gn, ha, hb]
/-- A table that may be. -/
theorem tab_zero {v : Int} {l : List Le} (h : bI v l = 0) : (∀ x ∈ l, cV x.e = 0) ∧ ir l ∧ l.length ≤ 256 ∧ 0 ≤ v ∧ v ≤ 2147483647 := by
  unfold bI at h
  split at h
  · omega
  · split at h
    · omega
    · split at h
      · omega
      · rename_i h1 h2 h3
        refine ⟨entsCk_zero.1 (by omega), ?_, by omega, ?_, ?_⟩
        · exact Decidable.not_not.1 (fun q => h3 (.inl q))
        · by_cases q : 0 ≤ v
          · exact q
          · exact absurd (.inr (.inl (by omega))) h3
        · by_cases q : v ≤ 2147483647
          · exact q
          · exact absurd (.inr (.inr (by omega))) h3
theorem rises_far {l : List Le} (h : ir l) (i : Nat) : ∀ d, i + d + 1 < l.length → bR (hst l i) (hst l (i + d + 1)) < 0
  | 0, hd => by
    have := h (i + 1) (by omega) hd
    rw [dM (l.getD (i + 1 - 1) bm).e.host] at this
    show bR (l.getD i bm).e.host (l.getD (i + 1) bm).e.host < 0
    rw [Nat.add_sub_cancel] at this
    omega
  | d + 1, hd => by
    have ih := rises_far h i d (by omega)
    have := h (i + (d + 1) + 1) (by omega) hd
    rw [dM (l.getD (i + (d + 1) + 1 - 1) bm).e.host] at this
    rw [Nat.add_sub_cancel] at this
    exact ef ih (by show bR (l.getD (i + (d + 1)) bm).e.host (l.getD (i + (d + 1) + 1) bm).e.host < 0; omega)
theorem tab_hosts {v : Int} {l : List Le} (h : bI v l = 0) : HostsOk (l.map (·.e)) := by
  obtain ⟨h1, h2, _⟩ := tab_zero h
  have ck : ∀ e ∈ l.map (·.e), bd e.host = 0 := fun e he => by
    obtain ⟨x, hx, rfl⟩ := List.mem_map.1 he
    exact j3 (h1 x hx)
  have at_ : ∀ i, i < l.length → l[i]? = some (l.getD i bm) := fun i hi => by rw [List.getD_eq_getElem?_getD, List.getElem?_eq_getElem hi]; rfl
  have key : ∀ i j, i < j → j < l.length → a7 (hst l i) ≠ a7 (hst l j) := fun i j hij hj e => by
    obtain ⟨d, rfl⟩ : ∃ d, j = i + d + 1 := ⟨j - i - 1, by omega⟩
    have h3 := rises_far h2 i d hj
    have c1 : bd (hst l i) = 0 := j3 (h1 _ (aZ (by omega)))
    have c2 : bd (hst l (i + d + 1)) = 0 := j3 (h1 _ (aZ hj))
    rw [(ea c1 c2).2 e] at h3
    omega
  refine ⟨ck, fun e he f hf hef => ?_⟩
  obtain ⟨x, hx, rfl⟩ := List.mem_map.1 he
  obtain ⟨y, hy, rfl⟩ := List.mem_map.1 hf
  obtain ⟨i, hi, rfl⟩ := List.mem_iff_getElem.1 hx
  obtain ⟨j, hj, rfl⟩ := List.mem_iff_getElem.1 hy
  have gi : (l.getD i bm) = l[i] := by rw [List.getD_eq_getElem?_getD, List.getElem?_eq_getElem hi]; rfl
  have gj : (l.getD j bm) = l[j] := by rw [List.getD_eq_getElem?_getD, List.getElem?_eq_getElem hj]; rfl
  rcases Nat.lt_trichotomy i j with q | q | q
  · exact absurd (by rw [hst, hst, gi, gj]; exact hef) (key i j q hj)
  · subst q; rfl
  · exact absurd (by rw [hst, hst, gi, gj]; exact hef.symm) (key j i q hi)
end Go.Proofs.YtnpdgmoeoidppaaGreat

/- the first candidate that an index finds; its law -/
namespace Go.Proofs.YtnpdgmoeoidppaaGreat
open Go.RowKit Go.Shelf
set_option linter.unusedVariables false
set_option linter.unusedSimpArgs false

theorem dc_le {w : World} : Dc Tryz.prog w 34 (α := Le) (dF) (fm) (fun x => EnOk x.e) := fun H enc base sp hd fuel cs x h => by
  obtain ⟨xs, n, rfl, _, hcl, hxl, hf⟩ := DataW.trod_struct Tryz.underlying34 h
  have hcl2 : cs.length = 7 := hcl.trans (by kernel_rfl)
  obtain ⟨x0, c0, r0, o0⟩ := dH hxl hf 0 (ft := 26) (off := 0) (k := 1) (by kernel_rfl) (by kernel_rfl) (dc_str Tryz.underlying26)
  obtain ⟨x1, c1, r1, o1⟩ := dH hxl hf 1 (ft := 3) (off := 1) (k := 1) (by kernel_rfl) (by kernel_rfl) (iw Tryz.underlying3)
  obtain ⟨x2, c2, r2, o2⟩ := dH hxl hf 2 (ft := 9) (off := 2) (k := 1) (by kernel_rfl) (by kernel_rfl) (dc_str Tryz.underlying9)
  obtain ⟨⟨x3, A, c⟩, c3, r3, o3⟩ := dH hxl hf 3 (ft := 30) (off := 3) (k := 1) (by kernel_rfl) (by kernel_rfl) dc_ads
  obtain ⟨x4, c4, r4, o4⟩ := dH hxl hf 4 (ft := 26) (off := 4) (k := 1) (by kernel_rfl) (by kernel_rfl) (dc_str Tryz.underlying26)
  obtain ⟨⟨x5, B, d⟩, c5, r5, o5⟩ := dH hxl hf 5 (ft := 31) (off := 5) (k := 1) (by kernel_rfl) (by kernel_rfl) dc_ints
  obtain ⟨x6, c6, r6, o6⟩ := dH hxl hf 6 (ft := 32) (off := 6) (k := 1) (by kernel_rfl) (by kernel_rfl) (iw Tryz.underlying32)
  have hcs := cut0 (iB c0 (iB c1 (iB c2 (iB c3 (iB c4 (iB c5 (iB c6 (cutn hcl2) rfl) rfl) rfl) rfl) rfl) rfl) rfl)
  exact ⟨⟨⟨x0, x1, x2, x3, x4, x5, x6⟩, A, c, B, d⟩, hcs, az (r3 _ List.mem_cons_self) (az (r5 _ List.mem_cons_self) nofun), o0, o1, o2, o3.2, o3.1, o4, o5.2, o5.1, o6⟩

theorem dc_ents {w : World} : Dc Tryz.prog w 22 (fun p : List Le × Option Addr × Nat => [.slice p.2.1 p.1.length p.2.2]) (fun p => Ch.rd p.2.1 7 dF p.1 :: p.1.flatMap fm) (fun p => p.1.length ≤ 9223372036854775807 ∧ ∀ x ∈ p.1, EnOk x.e) := jy Tryz.underlying22 (by kernel_rfl) (by decide) bp dc_le

theorem dc_tb {w : World} : Dc Tryz.prog w 24 (α := Int × List Le × Option Addr × Nat) (fun q => eE q.1 q.2.2.1 q.2.1.length q.2.2.2) (fun q => [Ch.rd q.2.2.1 7 dF q.2.1, Ch.rall (q.2.1.flatMap fm)]) (fun q => q.2.1.length ≤ 9223372036854775807 ∧ ∀ x ∈ q.2.1, EnOk x.e) := fun H enc base sp hd fuel cs x h => by
  obtain ⟨xs, n, rfl, _, hcl, hxl, hf⟩ := DataW.trod_struct Tryz.underlying24 h
  have hcl2 : cs.length = 2 := hcl.trans (by kernel_rfl)
  obtain ⟨x0, c0, r0, o0⟩ := dH hxl hf 0 (ft := 3) (off := 0) (k := 1) (by kernel_rfl) (by kernel_rfl) (iw Tryz.underlying3)
  obtain ⟨⟨x1, A, c⟩, c1, r1, o1⟩ := dH hxl hf 1 (ft := 22) (off := 1) (k := 1) (by kernel_rfl) (by kernel_rfl) dc_ents
  have hcs := cut0 (iB c0 (iB c1 (cutn hcl2) rfl) rfl)
  exact ⟨(x0, x1, A, c), hcs, az (r1 _ List.mem_cons_self) (az (ek (fun s hs => r1 s (.tail _ hs))) nofun), o1⟩
end Go.Proofs.YtnpdgmoeoidppaaGreat
