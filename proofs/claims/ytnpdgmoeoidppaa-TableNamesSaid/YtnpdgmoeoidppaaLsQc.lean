import Derived.Test.YtnpdgmoeoidppaaSbQc
import Derived.OrdersIn
/- tables: looked at -/
namespace Go.Proofs.Ytnpdgmoeoidppaa
open Go.RowKit Go.Shelf
set_option linter.unusedVariables false
set_option linter.unusedSimpArgs false

theorem ent_47 : Enters Try.prog 47 := enters_of Try.func47 (by kernel_rfl) rfl
theorem ent_53 : Enters Try.prog 53 := enters_of Try.func53 (by kernel_rfl) rfl
theorem ent_54 : Enters Try.prog 54 := enters_of Try.func54 (by kernel_rfl) rfl
theorem ent_55 : Enters Try.prog 55 := enters_of Try.func55 (by kernel_rfl) rfl
theorem eY : FA Try.prog 24 0 0 := fun b o w => by kernel_rfl
theorem cS : FA Try.prog 24 1 1 := fun b o w => by kernel_rfl
theorem bX : TyI Try.prog 22 false 1 24 (.slice none 0 0) := TyI.mk' (by kernel_rfl) (fun _ => by kernel_rfl)

def dU (v : Int) (A : Option Addr) (n c : Nat) : List Value := [.int .i64 v, .slice A n c]
def cmp1 (a b : aW) : Int := if bP a b ≠ 0 then bP a b else -1
def gz (l : List Le) : Prop := ∀ i, 0 < i → i < l.length → 0 < bP (l.getD i bQ).e.host (l.getD (i - 1) bQ).e.host
instance (l : List Le) : Decidable (gz l) := by
  have : Decidable (∀ i, i < l.length → (0 < i → 0 < bP (l.getD i bQ).e.host (l.getD (i - 1) bQ).e.host)) := inferInstance
  exact decidable_of_iff _ ⟨fun h i h0 hi => h i hi h0, fun h i hi h0 => h i h0 hi⟩
theorem cmp1_neg {a b : aW} : cmp1 a b < 0 ↔ ¬ 0 < bP a b := by
  unfold cmp1
  split
  · omega
  · constructor
    · intro _; omega
    · intro _; decide

theorem c_tCheck1 (x y : Le) (hx : x.e.host.length ≤ 1000000000) (hy : y.e.host.length ≤ 1000000000) : d4 Try.prog 55 #[.agg (dT x).toArray, .agg (dT y).toArray] (.int .i64 (cmp1 x.e.host y.e.host)) := by
 intro w0
 refine bR (ok0 := no) (S := []) (args := [.agg (dT x).toArray, .agg (dT y).toArray]) 14 Try.func55 rfl rfl rfl (by simp) (by simp) ?_
 refine ap ?_
 refine ah ?_
 refine da rfl rfl rfl (fun b1 => ?_)
 refine da rfl rfl rfl (fun b2 => ?_)
 refine au (aj rfl) rfl rfl ?_
 refine aa ?_
 refine am ?_
 refine ap ?_
 refine ap ?_
 refine ah ?_
 refine au (aR db rfl) rfl rfl ?_
 refine au (aN 1 bN rfl rfl rfl) rfl rfl ?_
 refine au (aR db rfl) rfl rfl ?_
 refine au (aN 0 bN rfl rfl rfl) rfl rfl ?_
 refine bL rfl ent_47 (d0 _ _ (by omega) (by omega)) rfl ?_
 refine au (aj rfl) rfl rfl ?_
 refine aa ?_
 refine am ?_
 refine ap ?_
 refine ah ?_
 refine au (ak rfl) rfl rfl ?_
 refine au (dA rfl rfl) rfl rfl ?_
 refine aG (t := 12) rfl (fun h2_1 => ?_) (fun h2_1 => ?_)
 refine aa ?_
 refine am ?_
 refine aI rfl ?_
 refine ap ?_
 refine ah ?_
 refine au (ak rfl) rfl rfl ?_
 refine au (aj rfl) rfl rfl ?_
 refine aa ?_
 refine am ?_
 refine aU ?_
 refine aA ?_
 refine aX (ts := [4]) rfl rfl rfl (fun w hw => ?_)
 refine ⟨?_, hw.base⟩
 show Ending.returned (.int _ _) = _
 congr 2
 focus first
   | (rw [cmp1, if_pos h2_1]
      done)
   | (rw [cmp1, if_neg h2_1]
      done)
 refine aa ?_
 refine am ?_
 refine aK rfl ?_
 refine aZ ?_
 refine am ?_
 refine ap ?_
 refine ah ?_
 refine au (aj rfl) rfl rfl ?_
 refine aa ?_
 refine am ?_
 refine aU ?_
 refine aX (ts := [4]) rfl rfl rfl (fun w hw => ?_)
 refine ⟨?_, hw.base⟩
 show Ending.returned (.int _ _) = _
 congr 2
 focus first
   | (rw [cmp1, if_pos h2_1]
      done)
   | (rw [cmp1, if_neg h2_1]
      done)

set_option maxRecDepth 100000 in
theorem c_IsSorted (l : List Le) (A : Option Addr) (c : Nat) (hl : l.length ≤ 1000000000) (hh : ∀ x ∈ l, x.e.host.length ≤ 1000000000) : RC Try.prog 54 #[.slice A l.length c, .func (.func 55) #[] #[]] [Ch.rd A 7 dT l] (α := Unit) (fun _ => .bool (decide (gz l))) (fun _ => []) := by
 refine bZ (args := [.slice A l.length c, .func (.func 55) #[] #[]]) 25 Try.func54 rfl rfl rfl (fun w0 => ?_)
 refine ap ?_
 refine ah ?_
 refine au (aj rfl) rfl rfl ?_
 refine aa ?_
 refine am ?_
 refine ap ?_
 refine ap ?_
 refine ah ?_
 refine au (ak rfl) rfl rfl ?_
 refine au (bu Try.underlying22 rfl) rfl rfl ?_
 refine au (eR rfl rfl (by omega) (by omega)) rfl rfl ?_
 refine au (aj rfl) rfl rfl ?_
 refine aa ?_
 refine am ?_
 refine bk ?_
 refine dd (σ := Int) [4, 5, 9, 10, 11, 12, 13, 14, 15, 16, 17, 18, 19, 20, 21, 22, 23, 24] (fun jz => -1 ≤ jz ∧ jz ≤ (l.length : Int) - 1 ∧ ∀ i : Nat, jz < i → 0 < i → i < l.length → 0 < bP (l.getD i bQ).e.host (l.getD (i - 1) bQ).e.host) (fun jz => (jz + 1).toNat) (fun jz => [(5, .int .i64 jz)]) (((l.length : Int) - 1)) ?_ ⟨rfl, trivial⟩ (fun jz hI => ?_)
 exact ⟨by omega, by omega, fun i h1 h2 h3 => by omega⟩
 refine ap ?_
 refine ap ?_
 refine ah ?_
 refine au (ak rfl) rfl rfl ?_
 refine au (em rfl rfl) rfl rfl ?_
 refine aG (t := 10) rfl (fun h2_1 => ?_) (fun h2_1 => ?_)
 refine aa ?_
 refine am ?_
 refine aI rfl ?_
 refine aZ ?_
 refine am ?_
 refine ap ?_
 refine bk ?_
 refine ap ?_
 refine dX 12 rfl mixed ?_
 refine aY (i := 0) rfl ae (ak rfl) aD aD rfl (ai (aC (ai (aV (aC (ai ar)))))) (by kernel_rfl) rfl ?_
 refine aY (i := 1) rfl ae (ak rfl) aD aD rfl (ai (aC (ai (aV (aC (ai ar)))))) (by kernel_rfl) rfl ?_
 refine aY (i := 2) rfl ae (ak rfl) aD aD rfl (ai (aC (ai (aV (aC (ai ar)))))) (by kernel_rfl) rfl ?_
 refine aY (i := 3) rfl ae (co (k := jz.toNat) Try.underlying22 a7 rfl rfl (cI 0 rfl) (by omega) (by omega)) aD aD rfl (ai (aC (ai (aV (aC (ai ar)))))) (by kernel_rfl) rfl ?_
 refine aY (i := 4) rfl ae (de bw bQ a7 rfl (cI 0 rfl) (by omega) rfl rfl rfl) aD aD rfl (ai (aC (ai (aV (aC (ai ar)))))) (by kernel_rfl) rfl ?_
 refine aY (i := 5) rfl ae (ak rfl) aD aD rfl (ai (aC (ai (aV (aC (ai ar)))))) (by kernel_rfl) rfl ?_
 refine aY (i := 6) rfl ae (ak rfl) aD aD rfl (ai (aC (ai (aV (aC (ai ar)))))) (by kernel_rfl) rfl ?_
 refine aY (i := 7) rfl ae (eR rfl rfl (by omega) (by omega)) aD aD rfl (ai (aC (ai (aV (aC (ai ar)))))) (by kernel_rfl) rfl ?_
 refine aY (i := 8) rfl ae (co (k := jz.toNat - 1) Try.underlying22 a7 rfl rfl (cI 0 rfl) (by omega) (by omega)) aD aD rfl (ai (aC (ai (aV (aC (ai ar)))))) (by kernel_rfl) rfl ?_
 refine aY (i := 9) rfl ae (de bw bQ a7 rfl (cI 0 rfl) (by omega) rfl rfl rfl) aD aD rfl (ai (aC (ai (aV (aC (ai ar)))))) (by kernel_rfl) rfl ?_
 refine eB (i := 10) rfl rfl rfl (aB rfl ent_55) (by kernel_rfl) rfl ?_
 refine g4 rfl rfl rfl ent_55 (c_tCheck1 _ _ (hh _ (bD (by omega))) (hh _ (bD (by omega)))) rfl ?_
 refine aa ?_
 refine e_one aD ?_
 refine aY (i := 11) rfl ae (cX rfl rfl) aD aD rfl (ai (aC (ai (aV (aC (ai ar)))))) (by kernel_rfl) rfl ?_
 refine gb (t := 24) rfl (fun h4_11 => ?_) (fun h4_11 => ?_)
 refine dz (by kernel_rfl) ?_
 refine am ?_
 refine aI rfl ?_
 refine ap ?_
 refine ah ?_
 refine au (aj rfl) rfl rfl ?_
 refine aa ?_
 refine am ?_
 refine aU ?_
 refine aO ?_
 refine aA ?_
 refine bG ?_
 refine aO ?_
 refine aA ?_
 refine aX (ts := [4]) rfl rfl rfl (fun w hw => ?_)
 have hR : ¬ gz l := fun h => by
   have h9 := h4_11
   rw [cmp1_neg] at h9
   exact h9 (h _ (by omega) (by omega))
 exact ⟨(), by rw [decide_eq_false hR]; rfl, hw.base, (hw.weak (List.nil_sublist _) (fun s hs => hs)).toNews⟩
 refine dz (by kernel_rfl) ?_
 refine am ?_
 refine aK rfl ?_
 refine aZ ?_
 refine bV ?_
 refine am ?_
 refine ah ?_
 refine au (ak rfl) rfl rfl ?_
 refine au (eR rfl rfl (by omega) (by omega)) rfl rfl ?_
 refine au (aj rfl) rfl rfl ?_
 refine aa ?_
 refine cn (jz - 1) ?_ ?_ ⟨rfl, trivial⟩ (by repeat (first | exact trivial | refine ⟨rfl, ?_⟩)) aD
 refine ⟨by omega, by omega, fun i h1 h2 h3 => ?_⟩
 by_cases e : jz = i
 · have e2 : jz.toNat = i := by omega
   have h9 := h4_11
   rw [cmp1_neg, e2] at h9
   exact Decidable.not_not.1 h9
 · exact hI.2.2 i (by omega) h2 h3
 omega
 refine aa ?_
 refine am ?_
 refine aK rfl ?_
 refine cB ?_
 refine bl ?_
 refine bq ?_
 refine bA ?_
 refine am ?_
 refine ap ?_
 refine ah ?_
 refine au (aj rfl) rfl rfl ?_
 refine aa ?_
 refine am ?_
 refine aU ?_
 refine aX (ts := [4]) rfl rfl rfl (fun w hw => ?_)
 have hR : gz l := fun i h1 h2 => hI.2.2 i (by omega) h1 h2
 exact ⟨(), by rw [decide_eq_true hR]; rfl, hw.base, (hw.weak (List.nil_sublist _) (fun s hs => hs)).toNews⟩

def cR : List Le → Int
  | [] => 0
  | x :: r => if cM x.e ≠ 0 then cM x.e else cR r
theorem entsCk_zero : ∀ {l : List Le}, cR l = 0 ↔ ∀ x ∈ l, cM x.e = 0
  | [] => by simp [cR]
  | d :: r => by
    rw [cR]
    by_cases h : cM d.e ≠ 0
    · rw [if_pos h]; simp [h]
    · rw [if_neg h, entsCk_zero]
      have : cM d.e = 0 := by omega
      simp [this]
/-- table.Check. -/
def bY (v : Int) (l : List Le) : Int := if 256 < l.length then 3 else if cR l ≠ 0 then cR l else if ¬ gz l ∨ v < 0 ∨ 2147483647 < v then 2 else 0
/-- What is known of a table's entries: their octets are so many, their numbers are such. -/
def TbOk (l : List Le) : Prop := ∀ x ∈ l, EnOk x.e ∧ lightE x.e = true
structure EnB (e : En) : Prop where
  wa : ∀ a ∈ e.addrs, 0 ≤ a.lo
  la : e.addrs.length ≤ 1000
  lp : e.ports.length ≤ 1000
  k : -9223372036854775808 ≤ e.kind ∧ e.kind ≤ 9223372036854775807
  h : e.host.length ≤ 1000
  al : e.alias.length ≤ 1000
theorem TbOk.at {l : List Le} (h : TbOk l) {k : Nat} (hk : k < l.length) : EnB (l.getD k bQ).e := by
  obtain ⟨h1, h2⟩ := h _ (bD (d := bQ) hk)
  have h3 := hX h2
  exact ⟨h1.lo, by omega, by omega, h1.2.1, by omega, by omega⟩
theorem TbOk.hosts {l : List Le} (h : TbOk l) : ∀ x ∈ l, x.e.host.length ≤ 1000000000 := fun x hx => by
  have := hX (h x hx).2; omega
theorem drop_getE {l : List Le} {k : Nat} (h : k < l.length) : l.drop k = l.getD k bQ :: l.drop (k + 1) := b4 l bQ k h

theorem cD (v : Int) (l : List Le) (A : Option Addr) (c : Nat) (hok : TbOk l) (hlen : l.length ≤ 9223372036854775807) : RC Try.prog 17 #[.agg (dU v A l.length c).toArray] [Ch.rd A 7 dT l, Ch.rall (l.flatMap fv)] (α := Unit) (fun _ => .int .i64 (bY v l)) (fun _ => []) := by
 refine bZ (args := [.agg (dU v A l.length c).toArray]) 39 Try.func17 rfl rfl rfl (fun w0 => ?_)
 refine ap ?_
 refine ah ?_
 refine da rfl rfl rfl (fun b1 => ?_)
 refine au (aj rfl) rfl rfl ?_
 refine aa ?_
 refine am ?_
 refine ap ?_
 refine ap ?_
 refine ah ?_
 refine au (aR cS rfl) rfl rfl ?_
 refine au (aN 0 bX rfl rfl rfl) rfl rfl ?_
 refine au (bu Try.underlying22 rfl) rfl rfl ?_
 refine au (em rfl rfl) rfl rfl ?_
 refine aG (t := 10) rfl (fun h1_3 => ?_) (fun h1_3 => ?_)
 refine aa ?_
 refine am ?_
 refine aI rfl ?_
 refine ap ?_
 refine ah ?_
 refine au (aj rfl) rfl rfl ?_
 refine aa ?_
 refine am ?_
 refine aU ?_
 refine aA ?_
 refine aX (ts := [2]) rfl rfl rfl (fun w hw => ?_)
 refine ⟨(), ?_, hw.base, (hw.weak (List.nil_sublist _) (fun s hs => hs)).toNews⟩
 show Ending.returned (.int _ _) = _
 congr 2
 focus first
   | (rw [bY, if_pos (by omega)]
      done)
   | (rw [bY, if_neg (by omega), if_pos (by omega)]
      exact he9.symm)
   | (rw [bY, if_neg (by omega), if_neg (by omega), if_pos (by first | exact .inl (of_decide_eq_false h10_2) | exact .inr (.inl (by omega)) | exact .inr (.inr (by omega)))]
      done)
   | (rw [bY, if_neg (by omega), if_neg (by omega), if_neg (fun q => q.elim (fun q => q (of_decide_eq_true h10_2)) (fun q => by omega))]
      done)
   | (trace_state; fail)
 refine aa ?_
 refine am ?_
 refine aK rfl ?_
 refine aZ ?_
 refine am ?_
 refine ap ?_
 refine ap ?_
 refine ah ?_
 refine au (aR cS rfl) rfl rfl ?_
 refine au (aN 0 bX rfl rfl rfl) rfl rfl ?_
 refine au (bu Try.underlying22 rfl) rfl rfl ?_
 refine au (ak rfl) rfl rfl ?_
 refine aa ?_
 refine am ?_
 refine bk ?_
 refine dd (σ := Nat) [2, 4, 5, 14, 15, 16, 17, 18, 19, 20, 21, 22, 23] (fun k => k ≤ l.length ∧ cR l = cR (l.drop k)) (fun k => l.length - k) (fun k => [(14, .int .i64 k)]) (0) ?_ ⟨rfl, trivial⟩ (fun k hI => ?_)
 exact ⟨Nat.zero_le _, rfl⟩
 refine ap ?_
 refine ah ?_
 refine au (cX rfl rfl) rfl rfl ?_
 refine aG (t := 15) rfl (fun h4_0 => ?_) (fun h4_0 => ?_)
 have hk : k < l.length := by omega
 have hb9 := hok.at hk
 have hdk := drop_getE hk
 refine aa ?_
 refine am ?_
 refine ap ?_
 refine aI rfl ?_
 refine aZ ?_
 refine am ?_
 refine ap ?_
 refine bk ?_
 refine ap ?_
 refine ah ?_
 refine au (co  Try.underlying22 a7 rfl rfl (cI 0 rfl) rfl (by omega)) rfl rfl ?_
 refine au (de bw bQ a7 rfl (cI 0 rfl) (by omega) rfl rfl rfl) rfl rfl ?_
 refine bo a7 rfl rfl (fun b2 => ?_)
 refine bf a7 rfl rfl rfl .z rfl rfl rfl rfl ?_
 refine aa ?_
 refine am ?_
 refine ap ?_
 refine ah ?_
 refine au (bj 0 a7 rfl rfl rfl rfl) rfl rfl ?_
 refine aS rfl ent_53 rfl (gw _ _ _ _ _ hb9.wa (by have := hb9.la; omega) (by have := hb9.lp; omega) hb9.k) (fun w hw => (ao (dH (cW 1 rfl hw) (cJ (bD (by omega)) _ (elRA _))) (ao (dH (cW 1 rfl hw) (cJ (bD (by omega)) _ (elRB _))) aM))) ?_
 refine au (aj rfl) rfl rfl ?_
 refine aa ?_
 refine am ?_
 refine ap ?_
 refine ah ?_
 refine au (ak rfl) rfl rfl ?_
 refine au (dA rfl rfl) rfl rfl ?_
 refine aG (t := 21) rfl (fun h7_1 => ?_) (fun h7_1 => ?_)
 refine aa ?_
 refine am ?_
 refine aI rfl ?_
 refine ap ?_
 have he9 : cR l = cM (l.getD k bQ).e := by rw [hI.2, hdk, cR, if_pos h7_1]
 refine ah ?_
 refine au (ak rfl) rfl rfl ?_
 refine au (aj rfl) rfl rfl ?_
 refine aa ?_
 refine am ?_
 refine aU ?_
 refine aO ?_
 refine aA ?_
 refine bG ?_
 refine aO ?_
 refine aA ?_
 refine aX (ts := [2]) rfl rfl rfl (fun w hw => ?_)
 refine ⟨(), ?_, hw.base, (hw.weak (List.nil_sublist _) (fun s hs => hs)).toNews⟩
 show Ending.returned (.int _ _) = _
 congr 2
 focus first
   | (rw [bY, if_pos (by omega)]
      done)
   | (rw [bY, if_neg (by omega), if_pos (by omega)]
      exact he9.symm)
   | (rw [bY, if_neg (by omega), if_neg (by omega), if_pos (by first | exact .inl (of_decide_eq_false h10_2) | exact .inr (.inl (by omega)) | exact .inr (.inr (by omega)))]
      done)
   | (rw [bY, if_neg (by omega), if_neg (by omega), if_neg (fun q => q.elim (fun q => q (of_decide_eq_true h10_2)) (fun q => by omega))]
      done)
   | (trace_state; fail)
 refine aa ?_
 refine am ?_
 refine aK rfl ?_
 refine aZ ?_
 refine bV ?_
 refine am ?_
 refine ah ?_
 refine au (cr rfl rfl (by omega) (by omega)) rfl rfl ?_
 refine au (ak rfl) rfl rfl ?_
 refine aa ?_
 refine cn (k + 1) ?_ ?_ ⟨rfl, trivial⟩ (by repeat (first | exact trivial | refine ⟨rfl, ?_⟩)) (aJ 1)
 exact ⟨by omega, by rw [hI.2, hdk, cR, if_neg h7_1]⟩
 omega
 refine aa ?_
 refine am ?_
 refine ap ?_
 refine aK rfl ?_
 refine cB ?_
 refine bl ?_
 refine bq ?_
 refine bA ?_
 refine am ?_
 refine ap ?_
 refine ah ?_
 have he0 : cR l = 0 := by rw [hI.2, List.drop_of_length_le (by omega)]; rfl
 have hhs := hok.hosts
 refine au (aR cS rfl) rfl rfl ?_
 refine au (aN 0 bX rfl rfl rfl) rfl rfl ?_
 refine aS rfl ent_54 rfl (c_IsSorted _ _ _ (by omega) hhs) (fun w hw => (ao (cW 0 rfl hw) aM)) ?_
 refine b6 (t := 26) rfl (fun h10_2 => ?_) (fun h10_2 => ?_)
 refine au (aj rfl) rfl rfl ?_
 refine aa ?_
 refine am ?_
 refine ap ?_
 refine ap ?_
 refine ah ?_
 refine au (ak rfl) rfl rfl ?_
 refine au (cC rfl) rfl rfl ?_
 refine au (ak rfl) rfl rfl ?_
 refine av rfl rfl ?_
 refine au (aR eY rfl) rfl rfl ?_
 refine av rfl rfl ?_
 refine au (aN 0 d6 rfl rfl rfl) rfl rfl ?_
 refine av rfl rfl ?_
 refine au (cX rfl rfl) rfl rfl ?_
 refine aG (t := 32) rfl (fun h11_5 => ?_) (fun h11_5 => ?_)
 refine au (aT rfl rfl) rfl rfl ?_
 refine au (ak rfl) rfl rfl ?_
 refine aw rfl rfl rfl rfl ?_
 refine aw rfl rfl rfl rfl ?_
 refine aw rfl rfl rfl rfl ?_
 refine au (aF rfl rfl) rfl rfl ?_
 refine aa ?_
 refine am ?_
 refine aI rfl ?_
 refine ap ?_
 refine ah ?_
 refine au (aj rfl) rfl rfl ?_
 refine aa ?_
 refine am ?_
 refine aU ?_
 refine aA ?_
 refine aX (ts := [2]) rfl rfl rfl (fun w hw => ?_)
 refine ⟨(), ?_, hw.base, (hw.weak (List.nil_sublist _) (fun s hs => hs)).toNews⟩
 show Ending.returned (.int _ _) = _
 congr 2
 focus first
   | (rw [bY, if_pos (by omega)]
      done)
   | (rw [bY, if_neg (by omega), if_pos (by omega)]
      exact he9.symm)
   | (rw [bY, if_neg (by omega), if_neg (by omega), if_pos (by first | exact .inl (of_decide_eq_false h10_2) | exact .inr (.inl (by omega)) | exact .inr (.inr (by omega)))]
      done)
   | (rw [bY, if_neg (by omega), if_neg (by omega), if_neg (fun q => q.elim (fun q => q (of_decide_eq_true h10_2)) (fun q => by omega))]
      done)
   | (trace_state; fail)
 refine au (aT rfl rfl) rfl rfl ?_
 refine au (ak rfl) rfl rfl ?_
 refine av rfl rfl ?_
 refine au (aR eY rfl) rfl rfl ?_
 refine av rfl rfl ?_
 refine au (aN 0 d6 rfl rfl rfl) rfl rfl ?_
 refine av rfl rfl ?_
 refine au (em rfl rfl) rfl rfl ?_
 refine aG (t := 37) rfl (fun h11_10 => ?_) (fun h11_10 => ?_)
 refine au (aT rfl rfl) rfl rfl ?_
 refine aa ?_
 refine am ?_
 refine aI rfl ?_
 refine ap ?_
 refine ah ?_
 refine au (aj rfl) rfl rfl ?_
 refine aa ?_
 refine am ?_
 refine aU ?_
 refine aA ?_
 refine aX (ts := [2]) rfl rfl rfl (fun w hw => ?_)
 refine ⟨(), ?_, hw.base, (hw.weak (List.nil_sublist _) (fun s hs => hs)).toNews⟩
 show Ending.returned (.int _ _) = _
 congr 2
 focus first
   | (rw [bY, if_pos (by omega)]
      done)
   | (rw [bY, if_neg (by omega), if_pos (by omega)]
      exact he9.symm)
   | (rw [bY, if_neg (by omega), if_neg (by omega), if_pos (by first | exact .inl (of_decide_eq_false h10_2) | exact .inr (.inl (by omega)) | exact .inr (.inr (by omega)))]
      done)
   | (rw [bY, if_neg (by omega), if_neg (by omega), if_neg (fun q => q.elim (fun q => q (of_decide_eq_true h10_2)) (fun q => by omega))]
      done)
   | (trace_state; fail)
 refine au (aT rfl rfl) rfl rfl ?_
 refine aa ?_
 refine am ?_
 refine aK rfl ?_
 refine aZ ?_
 refine am ?_
 refine ap ?_
 refine ah ?_
 refine au (aj rfl) rfl rfl ?_
 refine aa ?_
 refine am ?_
 refine aU ?_
 refine aX (ts := [2]) rfl rfl rfl (fun w hw => ?_)
 refine ⟨(), ?_, hw.base, (hw.weak (List.nil_sublist _) (fun s hs => hs)).toNews⟩
 show Ending.returned (.int _ _) = _
 congr 2
 focus first
   | (rw [bY, if_pos (by omega)]
      done)
   | (rw [bY, if_neg (by omega), if_pos (by omega)]
      exact he9.symm)
   | (rw [bY, if_neg (by omega), if_neg (by omega), if_pos (by first | exact .inl (of_decide_eq_false h10_2) | exact .inr (.inl (by omega)) | exact .inr (.inr (by omega)))]
      done)
   | (rw [bY, if_neg (by omega), if_neg (by omega), if_neg (fun q => q.elim (fun q => q (of_decide_eq_true h10_2)) (fun q => by omega))]
      done)
   | (trace_state; fail)
 refine au (aj rfl) rfl rfl ?_
 refine aa ?_
 refine am ?_
 refine ap ?_
 refine ap ?_
 refine ah ?_
 refine au (ak rfl) rfl rfl ?_
 refine au (cC rfl) rfl rfl ?_
 refine au (ak rfl) rfl rfl ?_
 refine aw rfl rfl rfl rfl ?_
 refine aw rfl rfl rfl rfl ?_
 refine aw rfl rfl rfl rfl ?_
 refine au (aF rfl rfl) rfl rfl ?_
 refine au (ak rfl) rfl rfl ?_
 refine aw rfl rfl rfl rfl ?_
 refine aw rfl rfl rfl rfl ?_
 refine aw rfl rfl rfl rfl ?_
 refine au (aF rfl rfl) rfl rfl ?_
 refine aa ?_
 refine am ?_
 refine aI rfl ?_
 refine ap ?_
 refine ah ?_
 refine au (aj rfl) rfl rfl ?_
 refine aa ?_
 refine am ?_
 refine aU ?_
 refine aA ?_
 refine aX (ts := [2]) rfl rfl rfl (fun w hw => ?_)
 refine ⟨(), ?_, hw.base, (hw.weak (List.nil_sublist _) (fun s hs => hs)).toNews⟩
 show Ending.returned (.int _ _) = _
 congr 2
 focus first
   | (rw [bY, if_pos (by omega)]
      done)
   | (rw [bY, if_neg (by omega), if_pos (by omega)]
      exact he9.symm)
   | (rw [bY, if_neg (by omega), if_neg (by omega), if_pos (by first | exact .inl (of_decide_eq_false h10_2) | exact .inr (.inl (by omega)) | exact .inr (.inr (by omega)))]
      done)
   | (rw [bY, if_neg (by omega), if_neg (by omega), if_neg (fun q => q.elim (fun q => q (of_decide_eq_true h10_2)) (fun q => by omega))]
      done)
   | (trace_state; fail)

end Go.Proofs.Ytnpdgmoeoidppaa

/- an index: made of a table, asked for names -/
namespace Go.Proofs.Ytnpdgmoeoidppaa
open Go.RowKit Go.Shelf
set_option linter.unusedVariables false
set_option linter.unusedSimpArgs false

theorem EnB.eq {e f : En} (h : EnB e) (q : f = e) : EnB f := q ▸ h

end Go.Proofs.Ytnpdgmoeoidppaa

/- the laws of candidates -/
namespace Go.Proofs.Ytnpdgmoeoidppaa
open Go.RowKit Go.Shelf
set_option linter.unusedVariables false
set_option linter.unusedSimpArgs false

theorem Ok.pos {s : Sr} {n : aW} (h : Ok s n) : 1 ≤ (gW s n).length := List.length_pos_of_mem h.mem
theorem Ok.nd {s : Sr} {n : aW} (h : Ok s n) (k : Int) (h1 : 0 ≤ k) (h2 : k ≤ 15) : Ok { s with ndots := k } n := by
  refine ⟨?_, h.n0⟩
  have h3 := h.s0
  unfold srCk at h3 ⊢
  split at h3
  · omega
  · rename_i q1
    split at h3
    · omega
    · rename_i q2
      split at h3
      · omega
      · rename_i q3
        rw [if_neg q1, if_neg q2, if_neg]
        rintro (q | q)
        · exact q3 (.inl q)
        · show False
          have q' : k < 0 ∨ 15 < k := q
          omega
theorem Ok.names {s : Sr} {n : aW} (h : Ok s n) : namesE s n = 0 := by rw [namesE, if_neg (by rw [h.s0]; decide)]; exact h.n0
end Go.Proofs.Ytnpdgmoeoidppaa

/- an index asked; the reference of indexes; the first candidate -/
namespace Go.Proofs.Ytnpdgmoeoidppaa
open Go.RowKit Go.Shelf
set_option linter.unusedVariables false
set_option linter.unusedSimpArgs false

def hst (l : List Le) (i : Nat) : aW := (l.getD i bQ).e.host
end Go.Proofs.Ytnpdgmoeoidppaa

/- an index finds what the reference finds: the plain law -/
namespace Go.Proofs.Ytnpdgmoeoidppaa
open Go.RowKit Go.Shelf
set_option linter.unusedVariables false
set_option linter.unusedSimpArgs false

def bS (es : List En) (key : aW) : Option En := es.find? fun e => decide (bg e.host = key)
/-- Hosts that may be, unlike one another. -/
structure HostsOk (es : List En) : Prop where
  ck : ∀ e ∈ es, bi e.host = 0
  dis : ∀ e ∈ es, ∀ f ∈ es, bg e.host = bg f.host → e = f
theorem look_some {es : List En} (h : HostsOk es) {e : En} (he : e ∈ es) : bS es (bg e.host) = some e := by
  cases hl : bS es (bg e.host) with
  | none =>
    have := List.find?_eq_none.1 hl e he
    simp at this
  | some f =>
    have h1 := List.mem_of_find?_eq_some hl
    have h2 := List.find?_some hl
    simp only [decide_eq_true_eq] at h2
    rw [h.dis f h1 e he h2]
theorem look_mem {es : List En} {key : aW} {e : En} (h : bS es key = some e) : e ∈ es ∧ bg e.host = key := by
  have h1 := List.mem_of_find?_eq_some h
  have h2 := List.find?_some h
  simp only [decide_eq_true_eq] at h2
  exact ⟨h1, h2⟩
/-- A table that may be. -/
theorem tab_zero {v : Int} {l : List Le} (h : bY v l = 0) : (∀ x ∈ l, cM x.e = 0) ∧ gz l ∧ l.length ≤ 256 ∧ 0 ≤ v ∧ v ≤ 2147483647 := by
  unfold bY at h
  split at h
  · omega
  · split at h
    · omega
    · split at h
      · omega
      · rename_i h1 h2 h3
        refine ⟨entsCk_zero.1 (by omega), ?_, by omega, ?_, ?_⟩
        · exact Decidable.not_not.1 (fun q => h3 (.inl q))
        · by_cases q : 0 ≤ v
          · exact q
          · exact absurd (.inr (.inl (by omega))) h3
        · by_cases q : v ≤ 2147483647
          · exact q
          · exact absurd (.inr (.inr (by omega))) h3
theorem rises_far {l : List Le} (h : gz l) (i : Nat) : ∀ d, i + d + 1 < l.length → bP (hst l i) (hst l (i + d + 1)) < 0
  | 0, hd => by
    have := h (i + 1) (by omega) hd
    rw [dg (l.getD (i + 1 - 1) bQ).e.host] at this
    show bP (l.getD i bQ).e.host (l.getD (i + 1) bQ).e.host < 0
    rw [Nat.add_sub_cancel] at this
    omega
  | d + 1, hd => by
    have ih := rises_far h i d (by omega)
    have := h (i + (d + 1) + 1) (by omega) hd
    rw [dg (l.getD (i + (d + 1) + 1 - 1) bQ).e.host] at this
    rw [Nat.add_sub_cancel] at this
    exact c9 ih (by show bP (l.getD (i + (d + 1)) bQ).e.host (l.getD (i + (d + 1) + 1) bQ).e.host < 0; omega)
theorem tab_hosts {v : Int} {l : List Le} (h : bY v l = 0) : HostsOk (l.map (·.e)) := by
  obtain ⟨h1, h2, _⟩ := tab_zero h
  have ck : ∀ e ∈ l.map (·.e), bi e.host = 0 := fun e he => by
    obtain ⟨x, hx, rfl⟩ := List.mem_map.1 he
    exact fE (h1 x hx)
  have at_ : ∀ i, i < l.length → l[i]? = some (l.getD i bQ) := fun i hi => by rw [List.getD_eq_getElem?_getD, List.getElem?_eq_getElem hi]; rfl
  have key : ∀ i j, i < j → j < l.length → bg (hst l i) ≠ bg (hst l j) := fun i j hij hj e => by
    obtain ⟨d, rfl⟩ : ∃ d, j = i + d + 1 := ⟨j - i - 1, by omega⟩
    have h3 := rises_far h2 i d hj
    have c1 : bi (hst l i) = 0 := fE (h1 _ (bD (by omega)))
    have c2 : bi (hst l (i + d + 1)) = 0 := fE (h1 _ (bD hj))
    rw [(dm c1 c2).2 e] at h3
    omega
  refine ⟨ck, fun e he f hf hef => ?_⟩
  obtain ⟨x, hx, rfl⟩ := List.mem_map.1 he
  obtain ⟨y, hy, rfl⟩ := List.mem_map.1 hf
  obtain ⟨i, hi, rfl⟩ := List.mem_iff_getElem.1 hx
  obtain ⟨j, hj, rfl⟩ := List.mem_iff_getElem.1 hy
  have gi : (l.getD i bQ) = l[i] := by rw [List.getD_eq_getElem?_getD, List.getElem?_eq_getElem hi]; rfl
  have gj : (l.getD j bQ) = l[j] := by rw [List.getD_eq_getElem?_getD, List.getElem?_eq_getElem hj]; rfl
  rcases Nat.lt_trichotomy i j with q | q | q
  · exact absurd (by rw [hst, hst, gi, gj]; exact hef) (key i j q hj)
  · subst q; rfl
  · exact absurd (by rw [hst, hst, gi, gj]; exact hef.symm) (key j i q hi)
end Go.Proofs.Ytnpdgmoeoidppaa

/- Regions with open order, inside rounds too, calls of yield in them; scopes; parts of slices. -/
namespace Go.Proofs.Ytnpdgmoeoidppaa
open Go.RowKit Go.Shelf
set_option linter.unusedVariables false
set_option linter.unusedSimpArgs false

/-! A scope through which nothing jumps. -/
section
variable {x : Cx} {l : Fr} {L S : List Ch} {Q : Exit → Act → World → Prop}
theorem pk_rd {x : Cx} {Bk : List Ch} {σ : Type} {It : σ → Prop} {Ij : Code → σ → Prop} {Lf : σ → List Ch} {S : List Ch} : PkOk (Qr x Bk It Ij Lf S) := fun _ _ _ _ _ h => h.elim
end

/-! Regions with open order. -/
def noDefer (ops : Array Oper) : Bool := ops.all fun o => match o.op with
  | .defer _ => false
  | _ => true
theorem noDefer_spec {ops : Array Oper} (h : noDefer ops = true) {j : Nat} {o : Oper} (ho : ops[j]? = some o) : ∀ c, o.op ≠ .defer c := fun c e => by
  have h1 := Array.all_eq_true'.1 h o (Array.mem_of_getElem? ho)
  rw [e] at h1
  cases h1
theorem wpOpIn_putIf {ro : Option Nat} {P : Program} {ops : Array Oper} {Q : Exit → Act → World → Prop} {C : World → Prop} {j : Nat} {oi oj : Oper} {v : Value} (hj : ops[j]? = some oj) (hap : oi.apart ops oj = true)
    (hsi : ∀ cs b, oi.op ≠ .select cs b) (hsj : ∀ cs b, oj.op ≠ .select cs b) (hdj : ∀ c, oj.op ≠ .defer c)
    (hQ : ∀ c a w, Q (.panic c) (a.put oi.dst v) w → Q (.panic c) a w) {K : Act → World → Prop} {a : Act} {w : World}
    (hy : YieldsIf P ops C oi v a) (h : wpOpIn (fw ro) 0 P ops Q j K (a.put oi.dst v) w) :
    wpOpIn (fw ro) 0 P ops Q j (fun a' w' => YieldsIf P ops C oi v a' ∧ K (a'.put oi.dst v) w') a w := by
  obtain ⟨h1, h2, h3⟩ := Oper.apart_spec hap
  have eV : ∀ (a : Act), YieldsIf P ops C oi v a → ∀ u, YieldsIf P ops C oi v (a.put oj.dst u) := fun a hy u =>
    hy.of_same (execOp_put oi hsi a oj.dst u h3) (wanted_put oi a oj.dst u h3)
  have keepD : ∀ d, YieldsIf P ops C oi v { a with defers := d :: a.defers } := fun d => hy.of_same rfl rfl
  unfold wpOpIn at *
  simp only [hj] at *
  rw [wanted_put oj a oi.dst v h1] at h
  split
  · rename_i hw
    simp only [hw, if_true] at h
    unfold Oper.wpIn at *
    refine ⟨fun _ _ => trivial, ?_⟩
    have h := h.2
    rw [Oper.semAt_eq _ _ _ hdj, execOp_put oj hsj a oi.dst v h1] at h
    rw [Oper.semAt_eq _ _ _ hdj]
    generalize (execOp a.eval oj).run P w = r at *
    cases r with
    | ok n w' =>
      cases n <;> simp only [Oper.uponIn] at h ⊢
      case value u => exact ⟨eV a hy u, by rw [← Act.put_comm a v u h2]; exact h⟩
      case skip => exact ⟨eV a hy _, by rw [← Act.put_comm a v undef h2]; exact h⟩
      case defer d =>
        refine ⟨eV _ (keepD d) _, ?_⟩
        rw [← Act.put_comm _ v undef h2, ← Act.put_defers]
        exact h
      case enter f args =>
        refine ⟨h.1, CallsIn.mono h.2 fun e w'' he => ?_⟩
        cases e with
        | returned u => exact ⟨eV a hy u, by rw [← Act.put_comm a v u h2]; exact he⟩
        | panicked c => exact hQ _ _ _ he
        | outgrown => exact he
      case row row args => exact ⟨h.1, RowsIn.mono h.2 fun u w'' he => ⟨eV a hy u, by rw [← Act.put_comm a v u h2]; exact he⟩⟩
      case round l f tmps assign body =>
        refine ⟨h.1, RoundIn.mono h.2 fun e w'' he => ?_⟩
        cases e with
        | returned u => exact ⟨eV a hy u, by rw [← Act.put_comm a v u h2]; exact he⟩
        | panicked c => exact hQ _ _ _ he
        | outgrown => exact he
    | halt x w' =>
      cases x <;> simp only [Oper.uponIn] at h ⊢
      case panic u => exact hQ _ _ _ h
  · rename_i hw
    simp only [hw] at h
    exact ⟨fun _ _ => trivial, eV a hy _, by rw [← Act.put_comm a v undef h2]; exact h.2⟩
theorem fM {ro : Option Nat} {P : Program} {ops : Array Oper} {Q : Exit → Act → World → Prop} {C : World → Prop} {i : Nat} {o : Oper} {v : Value} {a : Act} (hi : ops[i]? = some o) (hd : ∀ c, o.op ≠ .defer c) (hy : YieldsIf P ops C o v a)
    {K : Act → World → Prop} {w : World} (hS : C w) (h : K (a.put o.dst v) w) : wpOpIn (fw ro) 0 P ops Q i K a w := by
  unfold Go.wpOpIn
  simp only [hi]
  rcases hy with ⟨hw, hv⟩ | ⟨hw, rfl⟩
  · simp only [hw, if_true, Oper.wpIn, Oper.semAt_eq _ _ _ hd, hv w hS, Oper.uponIn]; exact ⟨fun _ _ => trivial, h⟩
  · simp only [hw, Bool.false_eq_true, if_false]; exact ⟨fun _ _ => trivial, h⟩
def gI (ro : Option Nat) (P : Program) (ops : Array Oper) (Q : Exit → Act → World → Prop) (C : World → Prop) (m : Nat) : Nat → Array Bool → Act → World → Prop
  | 0, listed, a, _w => Region.ready .any ops listed = [] ∧ Q .normal a _w
  | fuel + 1, listed, a, w =>
    (Region.ready .any ops listed = [] → Q .normal a w) ∧
    ∀ i ∈ Region.ready .any ops listed, wpOpIn (fw ro) 0 P ops Q i (fun a' w' => (dR m (listed.setIfInBounds i true) = true → C w') ∧ gI ro P ops Q C m fuel (listed.setIfInBounds i true) a' w') a w
theorem wpAny_of_V {ro : Option Nat} {P : Program} {ops : Array Oper} {Q : Exit → Act → World → Prop} {C : World → Prop} {m : Nat} : ∀ (fuel : Nat) (listed : Array Bool) (a : Act) (w : World), gI ro P ops Q C m fuel listed a w → wpAnyIn (fw ro) 0 P .any ops Q fuel listed a w
  | 0, _, _, _, h => h
  | fuel + 1, _, _, _, h => ⟨h.1, fun i hi => wpOpIn_mono (fun a' w' h' => wpAny_of_V fuel _ a' w' h'.2) (h.2 i hi)⟩
theorem wpAnyV_first {ro : Option Nat} {P : Program} {ops : Array Oper} {Q : Exit → Act → World → Prop} {C : World → Prop} {m i : Nat} {oi : Oper} {v : Value} (hi : ops[i]? = some oi) (hsel : ∀ (j : Nat) (o : Oper) cs b, ops[j]? = some o → o.op ≠ .select cs b) (hdef : ∀ (j : Nat) (o : Oper), ops[j]? = some o → ∀ c, o.op ≠ .defer c)
    (hQ : ∀ c a w, Q (.panic c) (a.put oi.dst v) w → Q (.panic c) a w) (hm : tailW2 ops m i = true) (him : i < m) :
    ∀ (fuel : Nat) (listed : Array Bool) (a : Act) (w : World), dR m listed = true → gc ops listed →
      (∀ j oj, ops[j]? = some oj → j ≠ i → listed.getD j true = false → (∀ e ∈ oj.after, Region.binds .any e = true → e.on ≠ i) → oi.apart ops oj = true) →
      i ∈ Region.ready .any ops listed → YieldsIf P ops C oi v a → C w →
      gI ro P ops Q C m fuel (listed.setIfInBounds i true) (a.put oi.dst v) w → gI ro P ops Q C m (fuel + 1) listed a w := by
  intro fuel
  induction fuel with
  | zero =>
    intro listed a w hnt hcl _ hr hy hS H
    refine ⟨fun h => (by rw [h] at hr; cases hr), fun j hj => ?_⟩
    by_cases hji : j = i
    · subst hji; exact fM hi (hdef _ _ hi) hy hS ⟨fun _ => hS, H⟩
    · have := ready_mono hj hji
      rw [H.1] at this
      cases this
  | succ fuel ih =>
    intro listed a w hnt hcl hfree hr hy hS H
    refine ⟨fun h => (by rw [h] at hr; cases hr), fun j hj => ?_⟩
    by_cases hji : j = i
    · subst hji; exact fM hi (hdef _ _ hi) hy hS ⟨fun _ => hS, H⟩
    · have h1 := H.2 j (ready_mono hj hji)
      obtain ⟨hjun, oj, hoj, hall⟩ := mem_ready.1 hj
      have hun : listed.getD i false = false := by
        have h0 := (mem_ready.1 hr).1
        rcases Nat.lt_or_ge i listed.size with h' | h'
        · simpa [h'] using h0
        · simp [Array.getElem?_eq_none h']
      have hnot : ∀ e ∈ oj.after, Region.binds .any e = true → e.on ≠ i := fun e he hb heq => by
        have h1 := hall e he hb
        rw [heq, hun] at h1
        cases h1
      have hjm : j < m := by
        rcases Nat.lt_or_ge j m with h | h
        · exact h
        · simp only [tailW2, List.all_eq_true, List.mem_range] at hm
          have h1 := hm j (Array.getElem?_eq_some_iff.1 hoj).1
          rw [Bool.or_eq_true] at h1
          rcases h1 with h1 | h1
          · have := Nat.le_of_ble_eq_true h1; omega
          · rw [fC hcl _ j oj hoj hall h1] at hun; cases hun
      have h2 := wpOpIn_putIf hoj (hfree j oj hoj hji hjun hnot) (fun cs b => hsel i oi cs b hi) (fun cs b => hsel j oj cs b hoj) (hdef j oj hoj) hQ hy h1
      have hfree' : ∀ k ok, ops[k]? = some ok → k ≠ i → (listed.setIfInBounds j true).getD k true = false →
          (∀ e ∈ ok.after, Region.binds .any e = true → e.on ≠ i) → oi.apart ops ok = true := fun k ok hk hki hun' hno => by
        refine hfree k ok hk hki ?_ hno
        by_cases hjk : j = k
        · subst hjk; exact hjun
        · rw [getD_set_ne true hjk] at hun'; exact hun'
      have hC := d7 (d7 hnt him) hjm
      refine wpOpIn_mono (fun a' w' h3 => ⟨fun _ => h3.2.1 hC, ih (listed.setIfInBounds j true) a' w' (d7 hnt hjm) (closed_set hcl hoj hall) hfree' (ready_mono hr (Ne.symm hji)) h3.1 (h3.2.1 hC) ?_⟩) h2
      rw [Array.setIfInBounds_comm _ _ hji]
      exact h3.2.2
def WV (x : Cx) (C : World → Prop) (m : Nat) (ops : Array Oper) (fuel : Nat) (listed : Array Bool) (l : Fr) (L S : List Ch) (Q : Exit → Act → World → Prop) : Prop :=
  ∀ a w, Kn x.N x.ds l a → Hp x.ok0 x.w0 L S w → gI x.ro x.P ops Q C m fuel listed a w
def QnV (x : Cx) (C : World → Prop) (m : Nat) (ops : Array Oper) (fuel : Nat) (listed : Array Bool) (Q : Exit → Act → World → Prop) : Exit → Act → World → Prop := Exit.then (fun a w => (dR m listed = true → C w) ∧ gI x.ro x.P ops Q C m fuel listed a w) Q
def WRV (x : Cx) (C : World → Prop) (m : Nat) (ops : Array Oper) (fuel : Nat) (listed : Array Bool) (js : List Nat) (l : Fr) (L S : List Ch) (Q : Exit → Act → World → Prop) : Prop :=
  ∀ i ∈ js, ∀ a w, Kn x.N x.ds l a → Hp x.ok0 x.w0 L S w → wpOpIn (fw x.ro) 0 x.P ops Q i (fun a' w' => (dR m (listed.setIfInBounds i true) = true → C w') ∧ gI x.ro x.P ops Q C m fuel (listed.setIfInBounds i true) a' w') a w
section
variable {x : Cx} {C : World → Prop} {l : Fr} {L S : List Ch} {Q : Exit → Act → World → Prop} {ops : Array Oper} {fuel m : Nat} {listed : Array Bool}
theorem w_drawV {id : Nat} {ol : List Oper} (m : Nat) (hm : x.P.follows .mixedOrders = true) (h : WV x (Hp x.ok0 x.w0 L S) m ol.toArray ol.length (Array.replicate ol.length false) l L S Q) : W x l L S (.region id ol.toArray true) Q := fun a w ha hw => by
  refine wpIn_region_any hm (wpAny_of_V (C := Hp x.ok0 x.w0 L S) (m := m) _ _ _ _ ?_)
  have := h a { w with drawn := w.drawn + 1 } ha hw.drew
  simpa using this
theorem eA {i d : Nat} {op : Op} {ty : TypeId} {pos : String} {af : Array Edge} {gd : Option (Nat × Bool)} {v : Value} {listed' : Array Bool} {L0 S0 : List Ch} (hi : ops[i]? = some ⟨some d, op, ty, pos, af, gd⟩) (hw : ∀ a, Kn x.N x.ds l a → Region.wanted ⟨some d, op, ty, pos, af, gd⟩ (yielded ops a.tmps) = true)
    (hy : Yv x l L0 S0 ⟨some d, op, ty, pos, af, gd⟩ v) (hC : ∀ w, Hp x.ok0 x.w0 L S w → C w) (hC0 : ∀ w, C w → Hp x.ok0 x.w0 L0 S0 w) (hN : Nat.blt d x.N = true) (hpk : PkOk Q)
    (hs : (Region.noSelect ops && noDefer ops && Region.free .any ops listed i && (Region.ready .any ops listed).contains i && tailW2 ops m i && Nat.blt i m && dR m listed && closedB ops listed) = true) (hl : listed.setIfInBounds i true = listed')
    (k : WV x C m ops fuel listed' ((d, v) :: l) L S Q) : WV x C m ops (fuel + 1) listed l L S Q := fun a w ha hh => by
  simp only [Bool.and_eq_true] at hs
  obtain ⟨⟨⟨⟨⟨⟨⟨h1, h0⟩, h2⟩, h3⟩, h4⟩, h5⟩, h6⟩, h7⟩ := hs
  exact wpAnyV_first hi (Region.noSelect_spec h1) (fun _ _ ho => noDefer_spec h0 ho) (fun c a w h => hpk c a w _ _ h) h4 (Nat.le_of_ble_eq_true h5) fuel listed a w h6 (closed_of h7) (Region.free_spec hi h2) (by simpa using h3) (.inl ⟨hw a ha, fun w' hw' => hy a w' ha (hC0 w' hw')⟩) (hC w hh) (by rw [hl]; exact k _ w (ha.put (Nat.le_of_ble_eq_true hN) v) hh)
theorem dh {C : World → Prop} {l : Fr} {L S : List Ch} (hC : ∀ w, Hp x.ok0 x.w0 L S w → C w) (h : WV x C m ops fuel listed l L S Q) : E x l L S .normal (QnV x C m ops fuel listed Q) := fun a w ha hw => ⟨fun _ => hC w hw, h a w ha hw⟩
theorem dN {C : World → Prop} {l : Fr} {L S : List Ch} (hi : dR m listed = false) (h : WV x C m ops fuel listed l L S Q) : E x l L S .normal (QnV x C m ops fuel listed Q) := fun a w ha hw => ⟨fun h' => absurd (hi.symm.trans h') (by decide), h a w ha hw⟩
theorem v_many {js : List Nat} (hr : Region.ready .any ops listed = js) (hne : js.isEmpty = false) (h : WRV x C m ops fuel listed js l L S Q) : WV x C m ops (fuel + 1) listed l L S Q := fun a w ha hh =>
  ⟨fun h0 => by rw [hr] at h0; subst h0; simp at hne, fun j hj => h j (hr ▸ hj) a w ha hh⟩
theorem hU : WRV x C m ops fuel listed [] l L S Q := fun i hi => by cases hi
theorem dV {js : List Nat} {o : Oper} {i : Nat} {listed' : Array Bool} (hi : ops[i]? = some o) (hl : listed.setIfInBounds i true = listed')
    (h : WL x l L S ops [o] (QnV x C m ops fuel listed' Q)) (k : WRV x C m ops fuel listed js l L S Q) : WRV x C m ops fuel listed (i :: js) l L S Q := fun j hj => by
  rcases List.mem_cons.1 hj with rfl | hj
  · intro a w ha hh
    rw [hl]
    have h1 := h a w ha hh
    unfold wpListIn at h1
    unfold wpOpIn
    simp only [hi]
    split
    · rename_i hw
      rw [if_pos hw] at h1
      obtain ⟨_, h1⟩ := h1
      refine ⟨fun _ _ => trivial, ?_⟩
      generalize (Oper.semAt (fw x.ro).round a.eval o).run x.P w = r at *
      cases r with
      | halt hh w' => cases hh <;> exact h1
      | ok n w' =>
        cases n with
        | enter f args => exact ⟨h1.1, CallsIn.mono h1.2 fun e w'' hR => by cases e <;> exact hR⟩
        | row r args => exact ⟨h1.1, RowsIn.mono h1.2 fun _ _ hR => hR⟩
        | round l2 f tmps asg body => exact ⟨h1.1, RoundIn.mono h1.2 fun e w'' hR => by cases e <;> exact hR⟩
        | _ => exact h1
    · rename_i hw
      rw [if_neg hw] at h1
      exact ⟨fun _ _ => trivial, h1.2⟩
  · exact k j hj
theorem dB {o : Oper} {i : Nat} {listed' : Array Bool} (hi : ops[i]? = some o) (hr : Region.ready .any ops listed = [i]) (hl : listed.setIfInBounds i true = listed')
    (h : WL x l L S ops [o] (QnV x C m ops fuel listed' Q)) : WV x C m ops (fuel + 1) listed l L S Q := v_many hr rfl (dV hi hl h hU)
theorem gG {fuel : Nat} (hr : Region.ready .any ops listed = []) (h : E x l L S .normal Q) : WV x C m ops fuel listed l L S Q := fun a w ha hh => by
  cases fuel with
  | zero => exact ⟨hr, h a w ha hh⟩
  | succ n => exact ⟨fun _ => h a w ha hh, by rw [hr]; simp⟩
end

/-! Parts of slices. -/
def sA (A : Option Addr) (m c sz : Nat) : Option Addr := if c = m then A else A.map (·.add (m * sz))
theorem fl_drop {α : Type} {enc : α → List Value} {sz : Nat} (hE : Enc enc sz) : ∀ (xs : List α) (m : Nat), fl enc (xs.drop m) = (fl enc xs).drop (m * sz)
  | [], m => by simp [fl]
  | x :: xs, 0 => by simp
  | x :: xs, m + 1 => by
    rw [List.drop_succ_cons, fl_drop hE xs m]
    have : fl enc (x :: xs) = enc x ++ fl enc xs := rfl
    have h2 : (enc x).drop ((m + 1) * sz) = [] := List.drop_of_length_le (by rw [hE.len x, Nat.succ_mul]; omega)
    rw [this, List.drop_append, hE.len x, h2, List.nil_append]
    congr 1
    rw [Nat.succ_mul]; omega
theorem hG {α : Type} {enc : α → List Value} {sz : Nat} (hE : Enc enc sz) : ∀ (xs : List α) (m : Nat), fl enc (xs.take m) = (fl enc xs).take (m * sz)
  | [], m => by simp [fl]
  | x :: xs, 0 => by simp [fl]
  | x :: xs, m + 1 => by
    have e1 : fl enc ((x :: xs).take (m + 1)) = enc x ++ fl enc (xs.take m) := rfl
    have e2 : fl enc (x :: xs) = enc x ++ fl enc xs := rfl
    have h2 : (enc x).take ((m + 1) * sz) = enc x := List.take_of_length_le (by rw [hE.len x, Nat.succ_mul]; omega)
    rw [e1, e2, hG hE xs m, List.take_append, hE.len x, h2]
    congr 2
    rw [Nat.succ_mul]; omega
theorem rsP_drop {α : Type} {enc : α → List Value} {sz : Nat} (hE : Enc enc sz) {A : Option Addr} {c m : Nat} {xs : List α} {w : World} (h : RsP A xs.length sz (fl enc xs) w) (hc : xs.length ≤ c) (hm : m ≤ xs.length) : RsP (sA A m c sz) (xs.drop m).length sz (fl enc (xs.drop m)) w := by
  refine ⟨dD hE.len _, fun u hu => h.one u ?_, ?_⟩
  · rw [fl_drop hE] at hu; exact List.mem_of_mem_drop hu
  · by_cases e : (xs.drop m).length = 0
    · exact .inl e
    · rw [List.length_drop] at e
      rcases h.at_ with h0 | ⟨b, off, rfl, hv⟩
      · omega
      · refine .inr ⟨b, off + m * sz, ?_, fun i hi => ?_⟩
        · rw [sA, if_neg (by omega)]
          show some (Addr.add _ _) = _
          unfold Addr.add; split
          · rename_i h0; rw [h0]; rfl
          · rfl
        · rw [fl_drop hE] at hi ⊢
          rw [List.length_drop] at hi
          rw [List.getElem?_drop, Nat.add_assoc]
          exact hv _ (by omega)
theorem rsP_take {α : Type} {enc : α → List Value} {sz : Nat} (hE : Enc enc sz) {A : Option Addr} {m : Nat} {xs : List α} {w : World} (h : RsP A xs.length sz (fl enc xs) w) (hm : m ≤ xs.length) : RsP A (xs.take m).length sz (fl enc (xs.take m)) w := by
  refine ⟨dD hE.len _, fun u hu => h.one u ?_, ?_⟩
  · rw [hG hE] at hu; exact List.mem_of_mem_take hu
  · rcases h.at_ with h0 | ⟨b, off, rfl, hv⟩
    · left; simp; omega
    · refine .inr ⟨b, off, rfl, fun i hi => ?_⟩
      rw [hG hE] at hi ⊢
      rw [List.length_take] at hi
      rw [List.getElem?_take, if_pos (by omega)]
      exact hv _ (by omega)
section
variable {x : Cx} {l : Fr} {L S : List Ch}
theorem rd_takeL {α : Type} {enc : α → List Value} {sz : Nat} (hE : Enc enc sz) {A : Option Addr} {c m : Nat} {e : TypeId} {xs : List α} {w : World} (i : Nat) (h : L[i]? = some (Ch.ls A c e sz enc xs)) (hm : m ≤ xs.length) (hw : Hp x.ok0 x.w0 L S w) : (Ch.rd A sz enc (xs.take m)).P w ∧ ∀ b, (Ch.rd A sz enc (xs.take m)).ok b → b < w.heap.size := by
  have h1 : SlP A xs.length c e sz (fl enc xs) w := hw.own _ (List.mem_of_getElem? h)
  refine ⟨rsP_take hE h1.rs hm, fun b hb => ?_⟩
  refine (rd_slrs (hw.rdL (List.mem_of_getElem? h))).2 b ⟨?_, hb.2⟩
  have := hb.1; simp at this; omega
variable {d : Nat} {ty : TypeId} {pos : String} {af : Array Edge} {gd : Option (Nat × Bool)}
theorem eZ {P : Program} {t e : TypeId} (h : P.underlying t = some (.slice e)) : P.elem t = e := by simp [Program.elem, h]
theorem y_drop {α : Type} {y i1 : Operand} {A : Option Addr} {xs : List α} {c m sz bytes : Nat} {i : Int} {k1 : IntKind} {t e : TypeId} {agg : Bool} {z : Value} (h0 : x.P.underlying t = some (.slice e)) (he : TyI x.P e agg sz bytes z) (hy : ev l y = some (.slice A xs.length c)) (hi : ev l i1 = some (.int k1 i)) (hm : i = (m : Int)) (b1 : m ≤ xs.length) :
    Yv x l L S ⟨some d, .slice t y (some i1) none none, ty, pos, af, gd⟩ (.slice (sA A m c sz) (xs.drop m).length (c - m)) := fun a w ha hw => by
  have h1 : x.P.underlying t = some (.slice (x.P.elem t)) := by rw [eZ h0]; exact h0
  have h2 := eZ h0
  subst hm
  have e1 := run_slice_l (P := x.P) w t A xs.length c h1 k1 (m : Int) (by omega) (by omega)
  simp [execOp, ha.ev hy, ha.ev hi, run_sliceAt_slice (P := x.P) w t _ _ _ _ h1, e1, sA, sliced, Result.andThen, h2, he.size w]
theorem y_takes {α : Type} {y i1 : Operand} {A : Option Addr} {xs : List α} {c m sz bytes : Nat} {i : Int} {k1 : IntKind} {t e : TypeId} {agg : Bool} {z : Value} (h0 : x.P.underlying t = some (.slice e)) (he : TyI x.P e agg sz bytes z) (hy : ev l y = some (.slice A xs.length c)) (hi : ev l i1 = some (.int k1 i)) (hm : i = (m : Int)) (b1 : m ≤ xs.length) (hc : ∀ w, Hp x.ok0 x.w0 L S w → xs.length ≤ c) :
    Yv x l L S ⟨some d, .slice t y none (some i1) none, ty, pos, af, gd⟩ (.slice A (xs.take m).length c) := fun a w ha hw => by
  have h1 : x.P.underlying t = some (.slice (x.P.elem t)) := by rw [eZ h0]; exact h0
  have h2 := eZ h0
  subst hm
  have hc' := hc w hw
  have e1 := run_slice_h (P := x.P) w t A xs.length c h1 k1 (m : Int) (by omega) (by omega)
  have e2 : min m xs.length = m := by omega
  have e3 : A.map (fun a => a.add 0) = A := by cases A <;> rfl
  simp [execOp, ha.ev hy, ha.ev hi, run_sliceAt_slice (P := x.P) w t _ _ _ _ h1, e1, e2, e3, sliced, Result.andThen, h2, he.size w]
theorem cap_L {α : Type} {enc : α → List Value} {A : Option Addr} {c sz : Nat} {e : TypeId} {xs : List α} (i : Nat) (h : L[i]? = some (Ch.ls A c e sz enc xs)) : ∀ w, Hp x.ok0 x.w0 L S w → xs.length ≤ c := fun w hw => by
  have h1 : SlP A xs.length c e sz (fl enc xs) w := hw.own _ (List.mem_of_getElem? h)
  rcases h1.at_ with ⟨_, h2, h3⟩ | ⟨g, cur, fz, _, _, h2, _⟩
  · omega
  · exact h2
end
end Go.Proofs.Ytnpdgmoeoidppaa

/- Chains: plain laws. -/
namespace Go.Proofs.Ytnpdgmoeoidppaa
open Go.RowKit Go.Shelf
set_option linter.unusedVariables false
set_option linter.unusedSimpArgs false

section
variable {G : aW → Option aW}
end
/-- Neighbours. -/
def pairs : List aW → List (aW × aW)
  | a :: b :: r => (a, b) :: pairs (b :: r)
  | _ => []
end Go.Proofs.Ytnpdgmoeoidppaa

/- tables: pushed to (nothing dropped) -/
namespace Go.Proofs.Ytnpdgmoeoidppaa
open Go.RowKit Go.Shelf
set_option linter.unusedVariables false
set_option linter.unusedSimpArgs false

/-- ref17.put. -/
def fg (x : Le) : Bool → List Le → List Le
  | done, [] => if done then [] else [x]
  | done, y :: r => (if !done && decide (bP x.e.host y.e.host ≤ 0) then [x] else []) ++ (if bP x.e.host y.e.host ≠ 0 then [y] else []) ++ fg x (done || decide (bP x.e.host y.e.host ≤ 0)) r
def putE (l : List Le) (x : Le) : List Le := fg x false l
def di (l : List Le) (p : List Le) : List Le := p.foldl putE l
theorem gY {x y : Le} : ∀ {l : List Le} {d : Bool}, y ∈ fg x d l → y = x ∨ y ∈ l
  | [], d, h => by
    rw [fg] at h; split at h
    · cases h
    · exact .inl (List.mem_singleton.1 h)
  | z :: r, d, h => by
    rw [fg, List.mem_append, List.mem_append] at h
    rcases h with (h | h) | h
    · split at h
      · exact .inl (List.mem_singleton.1 h)
      · cases h
    · split at h
      · exact .inr (by rw [List.mem_singleton.1 h]; exact .head _)
      · cases h
    · exact (gY h).imp id (.tail _)
def MapIs (m : List (aW × Bool)) (pre : List aW) : Prop := ∀ key, lkp m key = if key ∈ pre then some true else none
theorem mapIs_val {m : List (aW × Bool)} {pre : List aW} (h : MapIs m pre) (a : aW) : ((lkp m a).map fun b : Bool => Value.bool b).getD (.bool false) = .bool (decide (a ∈ pre)) := by
  rw [h a]; split
  · rename_i h1; rw [decide_eq_true h1]; rfl
  · rename_i h1; rw [decide_eq_false h1]; rfl
theorem mapIs_succ {m : List (aW × Bool)} {l : List aW} {k : Nat} (h : MapIs m (l.take k)) (hk : k < l.length) : MapIs (upd m (l.getD k []) true) (l.take (k + 1)) := fun key => by
  rw [lkp_upd, h key, dE l [] k hk]
  by_cases e : key = l.getD k []
  · rw [if_pos e, if_pos (by rw [e]; simp)]
  · rw [if_neg e]
    by_cases h3 : key ∈ l.take k
    · rw [if_pos h3, if_pos (List.mem_append_left _ h3)]
    · rw [if_neg h3, if_neg (fun q => (List.mem_append.1 q).elim h3 (fun q => e (List.mem_singleton.1 q)))]
theorem not_mem_take {l : List aW} (h : l.Nodup) {k : Nat} (hk : k < l.length) : ¬ l.getD k [] ∈ l.take k := fun q => by
  obtain ⟨i, hi, e⟩ := List.mem_iff_getElem.1 q
  have hi2 : i < k := by simp at hi; omega
  rw [List.getElem_take, List.getD_eq_getElem?_getD, List.getElem?_eq_getElem hk] at e
  have := List.pairwise_iff_getElem.1 h i k (by omega) hk hi2
  exact this e

theorem fL {w : World} {l : List Le} (h : ∀ x ∈ l, x.e.addrs = [] ∧ x.e.ports = []) : Rd (l.flatMap fv) w := fun c hc => by
  obtain ⟨x, hx, hc⟩ := List.mem_flatMap.1 hc
  obtain ⟨h1, h2⟩ := h x hx
  simp only [fv, List.mem_cons, List.not_mem_nil, or_false] at hc
  rcases hc with rfl | rfl
  · rw [h1]; exact ⟨⟨rfl, nofun, .inl rfl⟩, fun b hb => absurd hb.1 (by simp)⟩
  · rw [h2]; exact ⟨⟨rfl, nofun, .inl rfl⟩, fun b hb => absurd hb.1 (by simp)⟩

end Go.Proofs.Ytnpdgmoeoidppaa

/- Parts of slices that are read. -/
namespace Go.Proofs.Ytnpdgmoeoidppaa
open Go.RowKit Go.Shelf
set_option linter.unusedVariables false

section
variable {x : Cx} {l : Fr} {L S : List Ch}
theorem rd_dropR {α : Type} {enc : α → List Value} {sz : Nat} (hE : Enc enc sz) {A : Option Addr} {c m : Nat} {xs : List α} {w : World} (h : (Ch.rd A sz enc xs).P w ∧ ∀ b, (Ch.rd A sz enc xs).ok b → b < w.heap.size) (hc : xs.length ≤ c) (hm : m ≤ xs.length) : (Ch.rd (sA A m c sz) sz enc (xs.drop m)).P w ∧ ∀ b, (Ch.rd (sA A m c sz) sz enc (xs.drop m)).ok b → b < w.heap.size := by
  refine ⟨rsP_drop hE h.1 hc hm, fun b hb => h.2 b ⟨?_, ?_⟩⟩
  · have := hb.1; simp at this; omega
  · have := hb.2
    unfold sA at this
    split at this
    · exact this
    · cases A with
      | none => exact this
      | some a =>
        rw [← this]
        show some a.block = some (Addr.add a _).block
        unfold Addr.add; split <;> rfl
theorem dY {α : Type} {enc : α → List Value} {sz : Nat} (hE : Enc enc sz) {A : Option Addr} {c m : Nat} {xs : List α} {w : World} (i : Nat) (h : S[i]? = some (Ch.rd A sz enc xs)) (hm : m ≤ xs.length) (hc : xs.length ≤ c) (hw : Hp x.ok0 x.w0 L S w) : (Ch.rd (sA A m c sz) sz enc (xs.drop m)).P w ∧ ∀ b, (Ch.rd (sA A m c sz) sz enc (xs.drop m)).ok b → b < w.heap.size :=
  rd_dropR hE (hw.rdS (List.mem_of_getElem? h)) hc hm
end
section
variable {x : Cx} {C : World → Prop} {l : Fr} {L S : List Ch} {Q : Exit → Act → World → Prop} {ops : Array Oper} {fuel m : Nat} {listed : Array Bool}
theorem cH {t : Nat} {p : Prop} [Decidable p] (h : look l t = some (.bool (decide p))) (hp : p) (k : WU x C m ops fuel listed ((t, .bool true) :: l) L S Q) : WU x C m ops fuel listed l L S Q := bO (.bool true) h (by rw [decide_eq_true hp]) k
end
theorem ga {x : Cx} {l : Fr} {L S : List Ch} {Q : Exit → Act → World → Prop} {y z : Code} {σ : Type} (lf : σ → Fr) (Lf : σ → List Ch) (K : ∀ g : σ, W x (lf g ++ l) (Lf g) S z Q) (h : (∀ (g : σ) (l' : Fr), Kn2 l' [] (lf g ++ l) → W x l' (Lf g) S z Q) → W x l L S (.seq y z) Q) : W x l L S (.seq y z) Q := h (fun g l' hk a w ha hw => K g a w (ha.mono fun t v ht => hk.look t v ht rfl) hw)
end Go.Proofs.Ytnpdgmoeoidppaa
