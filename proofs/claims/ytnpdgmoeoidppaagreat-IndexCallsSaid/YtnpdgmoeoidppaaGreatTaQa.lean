import Derived.Test.YtnpdgmoeoidppaaGreatPfQa
import Derived.Test.YtnpdgmoeoidppaaGreatNaQa
/- search: each candidate once; the laws of candidates -/
namespace Go.Proofs.YtnpdgmoeoidppaaGreat
open Go.RowKit Go.Shelf
set_option linter.unusedVariables false
set_option linter.unusedSimpArgs false

theorem ip : TyI Tryz.prog 59 false 1 24 (.slice none 0 0) := TyI.mk' (by kernel_rfl) (fun _ => by kernel_rfl)

def namesE (s : Sr) (n : bf) : Int := if srCk s ≠ 0 then srCk s else a8 n
end Go.Proofs.YtnpdgmoeoidppaaGreat

/- tables: looked at -/
namespace Go.Proofs.YtnpdgmoeoidppaaGreat
open Go.RowKit Go.Shelf
set_option linter.unusedVariables false
set_option linter.unusedSimpArgs false

theorem ent_12 : Enters Tryz.prog 12 := enters_of Tryz.func12 (by kernel_rfl) rfl
theorem ent_131 : Enters Tryz.prog 131 := enters_of Tryz.func131 (by kernel_rfl) rfl
theorem ent_139 : Enters Tryz.prog 139 := enters_of Tryz.func139 (by kernel_rfl) rfl
theorem ent_140 : Enters Tryz.prog 140 := enters_of Tryz.func140 (by kernel_rfl) rfl
theorem ent_141 : Enters Tryz.prog 141 := enters_of Tryz.func141 (by kernel_rfl) rfl
theorem eQ : FA Tryz.prog 24 0 0 := fun b o w => by kernel_rfl
theorem cw : FA Tryz.prog 24 1 1 := fun b o w => by kernel_rfl
theorem bZ : TyI Tryz.prog 22 false 1 24 (.slice none 0 0) := TyI.mk' (by kernel_rfl) (fun _ => by kernel_rfl)

def iM (v : Int) (A : Option Addr) (n c : Nat) : List Value := [.int .i64 v, .slice A n c]
def gX (l : List Le) (m : Int) : Bool := decide (∀ x ∈ l, ek x.e = true) && decide ((l.length : Int) ≤ m)
theorem lightEs_bad {l : List Le} {m : Int} {k : Nat} (hk : k < l.length) (h : ek (l.getD k br).e = false) : gX l m = false := by
  rw [gX, decide_eq_false (fun q => by rw [q _ (bA (d := br) hk)] at h; cases h), Bool.false_and]
theorem lightEs_ok {l : List Le} {m : Int} (h : ∀ i, i < l.length → ek (l.getD i br).e = true) : gX l m = decide ((l.length : Int) ≤ m) := by
  rw [gX, decide_eq_true, Bool.true_and]
  intro s hs
  obtain ⟨i, hi, rfl⟩ := List.mem_iff_getElem.1 hs
  have := h i hi
  rwa [List.getD_eq_getElem?_getD, List.getElem?_eq_getElem hi] at this
theorem lightEs_le {l : List Le} {m : Int} (h : gX l m = true) : (∀ x ∈ l, ek x.e = true) ∧ (l.length : Int) ≤ m := by
  simpa [gX] using h

theorem iw (l : List Le) (A : Option Addr) (c : Nat) (m : Int) (hl : l.length ≤ 9223372036854775807) : RC Tryz.prog 10 #[.slice A l.length c, .int .i64 m] [Ch.rd A 7 dB l] (α := Unit) (fun _ => .bool (gX l m)) (fun _ => []) := by
 refine bx (args := [.slice A l.length c, .int .i64 m]) 22 Tryz.func10 rfl rfl rfl (fun w0 => ?_)
 refine ar ?_
 refine ai ?_
 refine au (ao rfl) rfl rfl ?_
 refine ah ?_
 refine aq ?_
 refine ar ?_
 refine ar ?_
 refine ai ?_
 refine au (ao rfl) rfl rfl ?_
 refine ah ?_
 refine aq ?_
 refine aW ?_
 refine bV (σ := Nat) [4, 5, 6, 7, 8, 9, 10, 11, 12, 13, 14, 15, 16, 17] (fun k => k ≤ l.length ∧ ∀ i, i < k → ek (l.getD i br).e = true) (fun k => l.length - k) (fun k => [(5, .int .i64 k)]) (0) ?_ ⟨rfl, trivial⟩ (fun k hI => ?_)
 exact ⟨Nat.zero_le _, nofun⟩
 refine ar ?_
 refine ar ?_
 refine ai ?_
 refine au (ap rfl) rfl rfl ?_
 refine au (ap rfl) rfl rfl ?_
 refine au (bg Tryz.underlying22 rfl) rfl rfl ?_
 refine au (bI rfl rfl) rfl rfl ?_
 refine aB (t := 9) rfl (fun h2_3 => ?_) (fun h2_3 => ?_)
 refine ah ?_
 refine aq ?_
 refine aA rfl ?_
 refine aS ?_
 refine aq ?_
 refine ar ?_
 refine aW ?_
 refine ar ?_
 refine ai ?_
 refine au (ap rfl) rfl rfl ?_
 refine au (ap rfl) rfl rfl ?_
 refine au (bz  Tryz.underlying22 aR rfl rfl (bE 0 rfl) rfl (by omega)) rfl rfl ?_
 refine au (bW cj br aR rfl (bE 0 rfl) (by omega) rfl rfl rfl) rfl rfl ?_
 refine bb rfl ent_12 (hG _ _ _ _ _) rfl ?_
 refine bD (t := 16) rfl (fun h4_4 => ?_) (fun h4_4 => ?_)
 refine au (bC rfl) rfl rfl ?_
 refine ah ?_
 refine aq ?_
 refine aC rfl ?_
 refine aS ?_
 refine bo ?_
 refine aq ?_
 refine ai ?_
 refine au (ap rfl) rfl rfl ?_
 refine au (bl rfl rfl (by omega) (by omega)) rfl rfl ?_
 refine au (ao rfl) rfl rfl ?_
 refine ah ?_
 refine bq (k + 1) ?_ ?_ ⟨rfl, trivial⟩ (by repeat (first | exact trivial | refine ⟨rfl, ?_⟩)) aE
 exact ⟨by omega, eH hI.2 h4_4⟩
 omega
 refine au (bC rfl) rfl rfl ?_
 refine ah ?_
 refine aq ?_
 refine aA rfl ?_
 refine ar ?_
 refine ai ?_
 refine au (ao rfl) rfl rfl ?_
 refine ah ?_
 refine aq ?_
 refine aQ ?_
 refine aK ?_
 refine ay ?_
 refine a9 ?_
 refine aK ?_
 refine ay ?_
 refine aV (ts := [4]) rfl rfl rfl (fun w hw => ?_)
 exact ⟨(), by rw [lightEs_bad (k := k) (by omega) h4_4]; rfl, hw.base, (hw.weak (List.nil_sublist _) (fun s hs => hs)).toNews⟩
 refine ah ?_
 refine aq ?_
 refine aC rfl ?_
 refine bw ?_
 refine aY ?_
 refine aZ ?_
 refine a7 ?_
 refine aq ?_
 refine ar ?_
 refine ai ?_
 refine au (ap rfl) rfl rfl ?_
 refine au (bg Tryz.underlying22 rfl) rfl rfl ?_
 refine au (ap rfl) rfl rfl ?_
 refine au (fp rfl rfl) rfl rfl ?_
 refine au (ao rfl) rfl rfl ?_
 refine ah ?_
 refine aq ?_
 refine aQ ?_
 refine aV (ts := [4]) rfl rfl rfl (fun w hw => ?_)
 exact ⟨(), by rw [lightEs_ok (fun i hi => hI.2 i (by omega))]; rfl, hw.base, (hw.weak (List.nil_sublist _) (fun s hs => hs)).toNews⟩

def cmp1 (a b : bf) : Int := if du a b ≠ 0 then du a b else -1
def ig (l : List Le) : Prop := ∀ i, 0 < i → i < l.length → 0 < du (l.getD i br).e.host (l.getD (i - 1) br).e.host
instance (l : List Le) : Decidable (ig l) := by
  have : Decidable (∀ i, i < l.length → (0 < i → 0 < du (l.getD i br).e.host (l.getD (i - 1) br).e.host)) := inferInstance
  exact decidable_of_iff _ ⟨fun h i h0 hi => h i hi h0, fun h i hi h0 => h i h0 hi⟩
theorem cmp1_neg {a b : bf} : cmp1 a b < 0 ↔ ¬ 0 < du a b := by
  unfold cmp1
  split
  · omega
  · constructor
    · intro _; omega
    · intro _; decide

theorem c_tCheck1 (x y : Le) (hx : x.e.host.length ≤ 1000000000) (hy : y.e.host.length ≤ 1000000000) : dQ Tryz.prog 140 #[.agg (dB x).toArray, .agg (dB y).toArray] (.int .i64 (cmp1 x.e.host y.e.host)) := by
 intro w0
 refine bH (ok0 := no) (S := []) (args := [.agg (dB x).toArray, .agg (dB y).toArray]) 14 Tryz.func140 rfl rfl rfl (by simp) (by simp) ?_
 refine ar ?_
 refine ai ?_
 refine cv rfl rfl rfl (fun b1 => ?_)
 refine cv rfl rfl rfl (fun b2 => ?_)
 refine au (ao rfl) rfl rfl ?_
 refine ah ?_
 refine aq ?_
 refine ar ?_
 refine ar ?_
 refine ai ?_
 refine au (aD cQ rfl) rfl rfl ?_
 refine au (aM 1 bN rfl rfl rfl) rfl rfl ?_
 refine au (aD cQ rfl) rfl rfl ?_
 refine au (aM 0 bN rfl rfl rfl) rfl rfl ?_
 refine bb rfl ent_131 (p_name_Compare _ _ (by omega) (by omega)) rfl ?_
 refine au (ao rfl) rfl rfl ?_
 refine ah ?_
 refine aq ?_
 refine ar ?_
 refine ai ?_
 refine au (ap rfl) rfl rfl ?_
 refine au (bX rfl rfl) rfl rfl ?_
 refine aB (t := 12) rfl (fun h2_1 => ?_) (fun h2_1 => ?_)
 refine ah ?_
 refine aq ?_
 refine aA rfl ?_
 refine ar ?_
 refine ai ?_
 refine au (ap rfl) rfl rfl ?_
 refine au (ao rfl) rfl rfl ?_
 refine ah ?_
 refine aq ?_
 refine aQ ?_
 refine ay ?_
 refine aV (ts := [4]) rfl rfl rfl (fun w hw => ?_)
 refine ⟨?_, hw.base⟩
 show Ending.returned (.int _ _) = _
 congr 2
 focus first
   | (rw [cmp1, if_pos h2_1]
      done)
   | (rw [cmp1, if_neg h2_1]
      done)
 refine ah ?_
 refine aq ?_
 refine aC rfl ?_
 refine aS ?_
 refine aq ?_
 refine ar ?_
 refine ai ?_
 refine au (ao rfl) rfl rfl ?_
 refine ah ?_
 refine aq ?_
 refine aQ ?_
 refine aV (ts := [4]) rfl rfl rfl (fun w hw => ?_)
 refine ⟨?_, hw.base⟩
 show Ending.returned (.int _ _) = _
 congr 2
 focus first
   | (rw [cmp1, if_pos h2_1]
      done)
   | (rw [cmp1, if_neg h2_1]
      done)

set_option maxRecDepth 100000 in
theorem c_IsSorted (l : List Le) (A : Option Addr) (c : Nat) (hl : l.length ≤ 1000000000) (hh : ∀ x ∈ l, x.e.host.length ≤ 1000000000) : RC Tryz.prog 139 #[.slice A l.length c, .func (.func 140) #[] #[]] [Ch.rd A 7 dB l] (α := Unit) (fun _ => .bool (decide (ig l))) (fun _ => []) := by
 refine bx (args := [.slice A l.length c, .func (.func 140) #[] #[]]) 25 Tryz.func139 rfl rfl rfl (fun w0 => ?_)
 refine ar ?_
 refine ai ?_
 refine au (ao rfl) rfl rfl ?_
 refine ah ?_
 refine aq ?_
 refine ar ?_
 refine ar ?_
 refine ai ?_
 refine au (ap rfl) rfl rfl ?_
 refine au (bg Tryz.underlying22 rfl) rfl rfl ?_
 refine au (eg rfl rfl (by omega) (by omega)) rfl rfl ?_
 refine au (ao rfl) rfl rfl ?_
 refine ah ?_
 refine aq ?_
 refine aW ?_
 refine bV (σ := Int) [4, 5, 9, 10, 11, 12, 13, 14, 15, 16, 17, 18, 19, 20, 21, 22, 23, 24] (fun jz => -1 ≤ jz ∧ jz ≤ (l.length : Int) - 1 ∧ ∀ i : Nat, jz < i → 0 < i → i < l.length → 0 < du (l.getD i br).e.host (l.getD (i - 1) br).e.host) (fun jz => (jz + 1).toNat) (fun jz => [(5, .int .i64 jz)]) (((l.length : Int) - 1)) ?_ ⟨rfl, trivial⟩ (fun jz hI => ?_)
 exact ⟨by omega, by omega, fun i h1 h2 h3 => by omega⟩
 refine ar ?_
 refine ar ?_
 refine ai ?_
 refine au (ap rfl) rfl rfl ?_
 refine au (c9 rfl rfl) rfl rfl ?_
 refine aB (t := 10) rfl (fun h2_1 => ?_) (fun h2_1 => ?_)
 refine ah ?_
 refine aq ?_
 refine aA rfl ?_
 refine aS ?_
 refine aq ?_
 refine ar ?_
 refine aW ?_
 refine ar ?_
 refine dz 12 rfl cu ?_
 refine aF (i := 0) rfl aj (ap rfl) aE aE rfl (aa (ae (aa (ak (ae (aa av)))))) (by kernel_rfl) rfl ?_
 refine aF (i := 1) rfl aj (ap rfl) aE aE rfl (aa (ae (aa (ak (ae (aa av)))))) (by kernel_rfl) rfl ?_
 refine aF (i := 2) rfl aj (ap rfl) aE aE rfl (aa (ae (aa (ak (ae (aa av)))))) (by kernel_rfl) rfl ?_
 refine aF (i := 3) rfl aj (bz (k := jz.toNat) Tryz.underlying22 aR rfl rfl (bE 0 rfl) (by omega) (by omega)) aE aE rfl (aa (ae (aa (ak (ae (aa av)))))) (by kernel_rfl) rfl ?_
 refine aF (i := 4) rfl aj (bW cj br aR rfl (bE 0 rfl) (by omega) rfl rfl rfl) aE aE rfl (aa (ae (aa (ak (ae (aa av)))))) (by kernel_rfl) rfl ?_
 refine aF (i := 5) rfl aj (ap rfl) aE aE rfl (aa (ae (aa (ak (ae (aa av)))))) (by kernel_rfl) rfl ?_
 refine aF (i := 6) rfl aj (ap rfl) aE aE rfl (aa (ae (aa (ak (ae (aa av)))))) (by kernel_rfl) rfl ?_
 refine aF (i := 7) rfl aj (eg rfl rfl (by omega) (by omega)) aE aE rfl (aa (ae (aa (ak (ae (aa av)))))) (by kernel_rfl) rfl ?_
 refine aF (i := 8) rfl aj (bz (k := jz.toNat - 1) Tryz.underlying22 aR rfl rfl (bE 0 rfl) (by omega) (by omega)) aE aE rfl (aa (ae (aa (ak (ae (aa av)))))) (by kernel_rfl) rfl ?_
 refine aF (i := 9) rfl aj (bW cj br aR rfl (bE 0 rfl) (by omega) rfl rfl rfl) aE aE rfl (aa (ae (aa (ak (ae (aa av)))))) (by kernel_rfl) rfl ?_
 refine cy (i := 10) rfl rfl rfl (bm rfl ent_140) (by kernel_rfl) rfl ?_
 refine o_callvp rfl rfl rfl ent_140 (c_tCheck1 _ _ (hh _ (bA (by omega))) (hh _ (bA (by omega)))) rfl ?_
 refine ah ?_
 refine cW aE ?_
 refine aF (i := 11) rfl aj (bI rfl rfl) aE aE rfl (aa (ae (aa (ak (ae (aa av)))))) (by kernel_rfl) rfl ?_
 refine dn (t := 24) rfl (fun h4_11 => ?_) (fun h4_11 => ?_)
 refine cp (by kernel_rfl) ?_
 refine aq ?_
 refine aA rfl ?_
 refine ar ?_
 refine ai ?_
 refine au (ao rfl) rfl rfl ?_
 refine ah ?_
 refine aq ?_
 refine aQ ?_
 refine aK ?_
 refine ay ?_
 refine a9 ?_
 refine aK ?_
 refine ay ?_
 refine aV (ts := [4]) rfl rfl rfl (fun w hw => ?_)
 have hR : ¬ ig l := fun h => by
   have h9 := h4_11
   rw [cmp1_neg] at h9
   exact h9 (h _ (by omega) (by omega))
 exact ⟨(), by rw [decide_eq_false hR]; rfl, hw.base, (hw.weak (List.nil_sublist _) (fun s hs => hs)).toNews⟩
 refine cp (by kernel_rfl) ?_
 refine aq ?_
 refine aC rfl ?_
 refine aS ?_
 refine bo ?_
 refine aq ?_
 refine ai ?_
 refine au (ap rfl) rfl rfl ?_
 refine au (eg rfl rfl (by omega) (by omega)) rfl rfl ?_
 refine au (ao rfl) rfl rfl ?_
 refine ah ?_
 refine bq (jz - 1) ?_ ?_ ⟨rfl, trivial⟩ (by repeat (first | exact trivial | refine ⟨rfl, ?_⟩)) aE
 refine ⟨by omega, by omega, fun i h1 h2 h3 => ?_⟩
 by_cases e : jz = i
 · have e2 : jz.toNat = i := by omega
   have h9 := h4_11
   rw [cmp1_neg, e2] at h9
   exact Decidable.not_not.1 h9
 · exact hI.2.2 i (by omega) h2 h3
 omega
 refine ah ?_
 refine aq ?_
 refine aC rfl ?_
 refine bw ?_
 refine aY ?_
 refine aZ ?_
 refine a7 ?_
 refine aq ?_
 refine ar ?_
 refine ai ?_
 refine au (ao rfl) rfl rfl ?_
 refine ah ?_
 refine aq ?_
 refine aQ ?_
 refine aV (ts := [4]) rfl rfl rfl (fun w hw => ?_)
 have hR : ig l := fun i h1 h2 => hI.2.2 i (by omega) h1 h2
 exact ⟨(), by rw [decide_eq_true hR]; rfl, hw.base, (hw.weak (List.nil_sublist _) (fun s hs => hs)).toNews⟩

def dL : List Le → Int
  | [] => 0
  | x :: r => if cJ x.e ≠ 0 then cJ x.e else dL r
theorem entsCk_zero : ∀ {l : List Le}, dL l = 0 ↔ ∀ x ∈ l, cJ x.e = 0
  | [] => by simp [dL]
  | d :: r => by
    rw [dL]
    by_cases h : cJ d.e ≠ 0
    · rw [if_pos h]; simp [h]
    · rw [if_neg h, entsCk_zero]
      have : cJ d.e = 0 := by omega
      simp [this]
/-- table.Check. -/
def bO (v : Int) (l : List Le) : Int := if 256 < l.length then 3 else if dL l ≠ 0 then dL l else if ¬ ig l ∨ v < 0 ∨ 2147483647 < v then 2 else 0
/-- What is known of a table's entries: their octets are so many, their numbers are such. -/
def TbOk (l : List Le) : Prop := ∀ x ∈ l, EnOk x.e ∧ ek x.e = true
structure EnB (e : En) : Prop where
  wa : ∀ a ∈ e.addrs, 0 ≤ a.lo
  la : e.addrs.length ≤ 1000
  lp : e.ports.length ≤ 1000
  k : -9223372036854775808 ≤ e.kind ∧ e.kind ≤ 9223372036854775807
  h : e.host.length ≤ 1000
  al : e.alias.length ≤ 1000
theorem TbOk.at {l : List Le} (h : TbOk l) {k : Nat} (hk : k < l.length) : EnB (l.getD k br).e := by
  obtain ⟨h1, h2⟩ := h _ (bA (d := br) hk)
  have h3 := iA h2
  exact ⟨h1.lo, by omega, by omega, h1.2.1, by omega, by omega⟩
theorem TbOk.hosts {l : List Le} (h : TbOk l) : ∀ x ∈ l, x.e.host.length ≤ 1000000000 := fun x hx => by
  have := iA (h x hx).2; omega
theorem drop_getE {l : List Le} {k : Nat} (h : k < l.length) : l.drop k = l.getD k br :: l.drop (k + 1) := cG l br k h

theorem gz (v : Int) (l : List Le) (A : Option Addr) (c : Nat) (hok : TbOk l) (hlen : l.length ≤ 9223372036854775807) : RC Tryz.prog 61 #[.agg (iM v A l.length c).toArray] [Ch.rd A 7 dB l, Ch.rall (l.flatMap e6)] (α := Unit) (fun _ => .int .i64 (bO v l)) (fun _ => []) := by
 refine bx (args := [.agg (iM v A l.length c).toArray]) 39 Tryz.func61 rfl rfl rfl (fun w0 => ?_)
 refine ar ?_
 refine ai ?_
 refine cv rfl rfl rfl (fun b1 => ?_)
 refine au (ao rfl) rfl rfl ?_
 refine ah ?_
 refine aq ?_
 refine ar ?_
 refine ar ?_
 refine ai ?_
 refine au (aD cw rfl) rfl rfl ?_
 refine au (aM 0 bZ rfl rfl rfl) rfl rfl ?_
 refine au (bg Tryz.underlying22 rfl) rfl rfl ?_
 refine au (c9 rfl rfl) rfl rfl ?_
 refine aB (t := 10) rfl (fun h1_3 => ?_) (fun h1_3 => ?_)
 refine ah ?_
 refine aq ?_
 refine aA rfl ?_
 refine ar ?_
 refine ai ?_
 refine au (ao rfl) rfl rfl ?_
 refine ah ?_
 refine aq ?_
 refine aQ ?_
 refine ay ?_
 refine aV (ts := [2]) rfl rfl rfl (fun w hw => ?_)
 refine ⟨(), ?_, hw.base, (hw.weak (List.nil_sublist _) (fun s hs => hs)).toNews⟩
 show Ending.returned (.int _ _) = _
 congr 2
 focus first
   | (rw [bO, if_pos (by omega)]
      done)
   | (rw [bO, if_neg (by omega), if_pos (by omega)]
      exact he9.symm)
   | (rw [bO, if_neg (by omega), if_neg (by omega), if_pos (by first | exact .inl (of_decide_eq_false h10_2) | exact .inr (.inl (by omega)) | exact .inr (.inr (by omega)))]
      done)
   | (rw [bO, if_neg (by omega), if_neg (by omega), if_neg (fun q => q.elim (fun q => q (of_decide_eq_true h10_2)) (fun q => by omega))]
      done)
   | (trace_state; fail)
 refine ah ?_
 refine aq ?_
 refine aC rfl ?_
 refine aS ?_
 refine aq ?_
 refine ar ?_
 refine ar ?_
 refine ai ?_
 refine au (aD cw rfl) rfl rfl ?_
 refine au (aM 0 bZ rfl rfl rfl) rfl rfl ?_
 refine au (bg Tryz.underlying22 rfl) rfl rfl ?_
 refine au (ap rfl) rfl rfl ?_
 refine ah ?_
 refine aq ?_
 refine aW ?_
 refine bV (σ := Nat) [2, 4, 5, 14, 15, 16, 17, 18, 19, 20, 21, 22, 23] (fun k => k ≤ l.length ∧ dL l = dL (l.drop k)) (fun k => l.length - k) (fun k => [(14, .int .i64 k)]) (0) ?_ ⟨rfl, trivial⟩ (fun k hI => ?_)
 exact ⟨Nat.zero_le _, rfl⟩
 refine ar ?_
 refine ai ?_
 refine au (bI rfl rfl) rfl rfl ?_
 refine aB (t := 15) rfl (fun h4_0 => ?_) (fun h4_0 => ?_)
 have hk : k < l.length := by omega
 have hb9 := hok.at hk
 have hdk := drop_getE hk
 refine ah ?_
 refine aq ?_
 refine ar ?_
 refine aA rfl ?_
 refine aS ?_
 refine aq ?_
 refine ar ?_
 refine aW ?_
 refine ar ?_
 refine ai ?_
 refine au (bz  Tryz.underlying22 aR rfl rfl (bE 0 rfl) rfl (by omega)) rfl rfl ?_
 refine au (bW cj br aR rfl (bE 0 rfl) (by omega) rfl rfl rfl) rfl rfl ?_
 refine bj aR rfl rfl (fun b2 => ?_)
 refine a0 aR rfl rfl rfl .z rfl rfl rfl rfl ?_
 refine ah ?_
 refine aq ?_
 refine ar ?_
 refine ai ?_
 refine au (a6 0 aR rfl rfl rfl rfl) rfl rfl ?_
 refine bp rfl ent_138 rfl (i4 _ _ _ _ _ hb9.wa (by have := hb9.la; omega) (by have := hb9.lp; omega) hb9.k) (fun w hw => (aO (bG (bJ 1 rfl hw) (bL (bA (by omega)) _ (gD _))) (aO (bG (bJ 1 rfl hw) (bL (bA (by omega)) _ (jA _))) bd))) ?_
 refine au (ao rfl) rfl rfl ?_
 refine ah ?_
 refine aq ?_
 refine ar ?_
 refine ai ?_
 refine au (ap rfl) rfl rfl ?_
 refine au (bX rfl rfl) rfl rfl ?_
 refine aB (t := 21) rfl (fun h7_1 => ?_) (fun h7_1 => ?_)
 refine ah ?_
 refine aq ?_
 refine aA rfl ?_
 refine ar ?_
 have he9 : dL l = cJ (l.getD k br).e := by rw [hI.2, hdk, dL, if_pos h7_1]
 refine ai ?_
 refine au (ap rfl) rfl rfl ?_
 refine au (ao rfl) rfl rfl ?_
 refine ah ?_
 refine aq ?_
 refine aQ ?_
 refine aK ?_
 refine ay ?_
 refine a9 ?_
 refine aK ?_
 refine ay ?_
 refine aV (ts := [2]) rfl rfl rfl (fun w hw => ?_)
 refine ⟨(), ?_, hw.base, (hw.weak (List.nil_sublist _) (fun s hs => hs)).toNews⟩
 show Ending.returned (.int _ _) = _
 congr 2
 focus first
   | (rw [bO, if_pos (by omega)]
      done)
   | (rw [bO, if_neg (by omega), if_pos (by omega)]
      exact he9.symm)
   | (rw [bO, if_neg (by omega), if_neg (by omega), if_pos (by first | exact .inl (of_decide_eq_false h10_2) | exact .inr (.inl (by omega)) | exact .inr (.inr (by omega)))]
      done)
   | (rw [bO, if_neg (by omega), if_neg (by omega), if_neg (fun q => q.elim (fun q => q (of_decide_eq_true h10_2)) (fun q => by omega))]
      done)
   | (trace_state; fail)
 refine ah ?_
 refine aq ?_
 refine aC rfl ?_
 refine aS ?_
 refine bo ?_
 refine aq ?_
 refine ai ?_
 refine au (bl rfl rfl (by omega) (by omega)) rfl rfl ?_
 refine au (ap rfl) rfl rfl ?_
 refine ah ?_
 refine bq (k + 1) ?_ ?_ ⟨rfl, trivial⟩ (by repeat (first | exact trivial | refine ⟨rfl, ?_⟩)) (fun w h => h.weak (.cons _ (List.Sublist.refl _)) (fun s hs => hs))
 exact ⟨by omega, by rw [hI.2, hdk, dL, if_neg h7_1]⟩
 omega
 refine ah ?_
 refine aq ?_
 refine ar ?_
 refine aC rfl ?_
 refine bw ?_
 refine aY ?_
 refine aZ ?_
 refine a7 ?_
 refine aq ?_
 refine ar ?_
 refine ai ?_
 have he0 : dL l = 0 := by rw [hI.2, List.drop_of_length_le (by omega)]; rfl
 have hhs := hok.hosts
 refine au (aD cw rfl) rfl rfl ?_
 refine au (aM 0 bZ rfl rfl rfl) rfl rfl ?_
 refine bp rfl ent_139 rfl (c_IsSorted _ _ _ (by omega) hhs) (fun w hw => (aO (bJ 0 rfl hw) bd)) ?_
 refine bD (t := 26) rfl (fun h10_2 => ?_) (fun h10_2 => ?_)
 refine au (ao rfl) rfl rfl ?_
 refine ah ?_
 refine aq ?_
 refine ar ?_
 refine ar ?_
 refine ai ?_
 refine au (ap rfl) rfl rfl ?_
 refine au (bC rfl) rfl rfl ?_
 refine au (ap rfl) rfl rfl ?_
 refine az rfl rfl ?_
 refine au (aD eQ rfl) rfl rfl ?_
 refine az rfl rfl ?_
 refine au (aM 0 de rfl rfl rfl) rfl rfl ?_
 refine az rfl rfl ?_
 refine au (bI rfl rfl) rfl rfl ?_
 refine aB (t := 32) rfl (fun h11_5 => ?_) (fun h11_5 => ?_)
 refine au (aI rfl rfl) rfl rfl ?_
 refine au (ap rfl) rfl rfl ?_
 refine ax rfl rfl rfl rfl ?_
 refine ax rfl rfl rfl rfl ?_
 refine ax rfl rfl rfl rfl ?_
 refine au (aG rfl rfl) rfl rfl ?_
 refine ah ?_
 refine aq ?_
 refine aA rfl ?_
 refine ar ?_
 refine ai ?_
 refine au (ao rfl) rfl rfl ?_
 refine ah ?_
 refine aq ?_
 refine aQ ?_
 refine ay ?_
 refine aV (ts := [2]) rfl rfl rfl (fun w hw => ?_)
 refine ⟨(), ?_, hw.base, (hw.weak (List.nil_sublist _) (fun s hs => hs)).toNews⟩
 show Ending.returned (.int _ _) = _
 congr 2
 focus first
   | (rw [bO, if_pos (by omega)]
      done)
   | (rw [bO, if_neg (by omega), if_pos (by omega)]
      exact he9.symm)
   | (rw [bO, if_neg (by omega), if_neg (by omega), if_pos (by first | exact .inl (of_decide_eq_false h10_2) | exact .inr (.inl (by omega)) | exact .inr (.inr (by omega)))]
      done)
   | (rw [bO, if_neg (by omega), if_neg (by omega), if_neg (fun q => q.elim (fun q => q (of_decide_eq_true h10_2)) (fun q => by omega))]
      done)
   | (trace_state; fail)
 refine au (aI rfl rfl) rfl rfl ?_
 refine au (ap rfl) rfl rfl ?_
 refine az rfl rfl ?_
 refine au (aD eQ rfl) rfl rfl ?_
 refine az rfl rfl ?_
 refine au (aM 0 de rfl rfl rfl) rfl rfl ?_
 refine az rfl rfl ?_
 refine au (c9 rfl rfl) rfl rfl ?_
 refine aB (t := 37) rfl (fun h11_10 => ?_) (fun h11_10 => ?_)
 refine au (aI rfl rfl) rfl rfl ?_
 refine ah ?_
 refine aq ?_
 refine aA rfl ?_
 refine ar ?_
 refine ai ?_
 refine au (ao rfl) rfl rfl ?_
 refine ah ?_
 refine aq ?_
 refine aQ ?_
 refine ay ?_
 refine aV (ts := [2]) rfl rfl rfl (fun w hw => ?_)
 refine ⟨(), ?_, hw.base, (hw.weak (List.nil_sublist _) (fun s hs => hs)).toNews⟩
 show Ending.returned (.int _ _) = _
 congr 2
 focus first
   | (rw [bO, if_pos (by omega)]
      done)
   | (rw [bO, if_neg (by omega), if_pos (by omega)]
      exact he9.symm)
   | (rw [bO, if_neg (by omega), if_neg (by omega), if_pos (by first | exact .inl (of_decide_eq_false h10_2) | exact .inr (.inl (by omega)) | exact .inr (.inr (by omega)))]
      done)
   | (rw [bO, if_neg (by omega), if_neg (by omega), if_neg (fun q => q.elim (fun q => q (of_decide_eq_true h10_2)) (fun q => by omega))]
      done)
   | (trace_state; fail)
 refine au (aI rfl rfl) rfl rfl ?_
 refine ah ?_
 refine aq ?_
 refine aC rfl ?_
 refine aS ?_
 refine aq ?_
 refine ar ?_
 refine ai ?_
 refine au (ao rfl) rfl rfl ?_
 refine ah ?_
 refine aq ?_
 refine aQ ?_
 refine aV (ts := [2]) rfl rfl rfl (fun w hw => ?_)
 refine ⟨(), ?_, hw.base, (hw.weak (List.nil_sublist _) (fun s hs => hs)).toNews⟩
 show Ending.returned (.int _ _) = _
 congr 2
 focus first
   | (rw [bO, if_pos (by omega)]
      done)
   | (rw [bO, if_neg (by omega), if_pos (by omega)]
      exact he9.symm)
   | (rw [bO, if_neg (by omega), if_neg (by omega), if_pos (by first | exact .inl (of_decide_eq_false h10_2) | exact .inr (.inl (by omega)) | exact .inr (.inr (by omega)))]
      done)
   | (rw [bO, if_neg (by omega), if_neg (by omega), if_neg (fun q => q.elim (fun q => q (of_decide_eq_true h10_2)) (fun q => by omega))]
      done)
   | (trace_state; fail)
 refine au (ao rfl) rfl rfl ?_
 refine ah ?_
 refine aq ?_
 refine ar ?_
 refine ar ?_
 refine ai ?_
 refine au (ap rfl) rfl rfl ?_
 refine au (bC rfl) rfl rfl ?_
 refine au (ap rfl) rfl rfl ?_
 refine ax rfl rfl rfl rfl ?_
 refine ax rfl rfl rfl rfl ?_
 refine ax rfl rfl rfl rfl ?_
 refine au (aG rfl rfl) rfl rfl ?_
 refine au (ap rfl) rfl rfl ?_
 refine ax rfl rfl rfl rfl ?_
 refine ax rfl rfl rfl rfl ?_
 refine ax rfl rfl rfl rfl ?_
 refine au (aG rfl rfl) rfl rfl ?_
 refine ah ?_
 refine aq ?_
 refine aA rfl ?_
 refine ar ?_
 refine ai ?_
 refine au (ao rfl) rfl rfl ?_
 refine ah ?_
 refine aq ?_
 refine aQ ?_
 refine ay ?_
 refine aV (ts := [2]) rfl rfl rfl (fun w hw => ?_)
 refine ⟨(), ?_, hw.base, (hw.weak (List.nil_sublist _) (fun s hs => hs)).toNews⟩
 show Ending.returned (.int _ _) = _
 congr 2
 focus first
   | (rw [bO, if_pos (by omega)]
      done)
   | (rw [bO, if_neg (by omega), if_pos (by omega)]
      exact he9.symm)
   | (rw [bO, if_neg (by omega), if_neg (by omega), if_pos (by first | exact .inl (of_decide_eq_false h10_2) | exact .inr (.inl (by omega)) | exact .inr (.inr (by omega)))]
      done)
   | (rw [bO, if_neg (by omega), if_neg (by omega), if_neg (fun q => q.elim (fun q => q (of_decide_eq_true h10_2)) (fun q => by omega))]
      done)
   | (trace_state; fail)

theorem fY {l : List Le} {j : Nat} (h0 : 0 < j) (hj : j < l.length) (h : 0 ≤ du (l.getD (j - 1) br).e.host (l.getD j br).e.host) : ¬ ig l := fun q => by
  have := q j h0 hj
  rw [iU (l.getD (j - 1) br).e.host] at this
  omega
theorem rises_step {l : List Le} {j : Nat} (h : ¬ 0 ≤ du (l.getD (j - 1) br).e.host (l.getD j br).e.host) : 0 < du (l.getD j br).e.host (l.getD (j - 1) br).e.host := by
  rw [iU (l.getD (j - 1) br).e.host]; omega

set_option maxRecDepth 100000 in
theorem eO (v : Int) (l : List Le) (A : Option Addr) (c : Nat) (hok : TbOk l) (hlen : l.length ≤ 9223372036854775807) : RC Tryz.prog 62 #[.agg (iM v A l.length c).toArray] [Ch.rd A 7 dB l, Ch.rall (l.flatMap e6)] (α := Unit) (fun _ => .int .i64 (bO v l)) (fun _ => []) := by
 refine bx (args := [.agg (iM v A l.length c).toArray]) 56 Tryz.func62 rfl rfl rfl (fun w0 => ?_)
 refine ar ?_
 refine ai ?_
 refine cv rfl rfl rfl (fun b1 => ?_)
 refine au (ao rfl) rfl rfl ?_
 refine ah ?_
 refine aq ?_
 refine ar ?_
 refine ar ?_
 refine ai ?_
 refine au (aD cw rfl) rfl rfl ?_
 refine au (aM 0 bZ rfl rfl rfl) rfl rfl ?_
 refine au (bg Tryz.underlying22 rfl) rfl rfl ?_
 refine au (c9 rfl rfl) rfl rfl ?_
 refine aB (t := 9) rfl (fun h1_3 => ?_) (fun h1_3 => ?_)
 refine ah ?_
 refine aq ?_
 refine aA rfl ?_
 refine ar ?_
 refine ai ?_
 refine au (ao rfl) rfl rfl ?_
 refine ah ?_
 refine aq ?_
 refine aQ ?_
 refine ay ?_
 refine aV (ts := [2]) rfl rfl rfl (fun w hw => ?_)
 refine ⟨(), ?_, hw.base, (hw.weak (List.nil_sublist _) (fun s hs => hs)).toNews⟩
 show Ending.returned (.int _ _) = _
 congr 2
 focus first
   | (rw [bO, if_pos (by omega)]
      done)
   | (rw [bO, if_neg (by omega), if_pos (by omega)]
      exact he9.symm)
   | (rw [bO, if_neg (by omega), if_neg (by omega), if_pos (by first | exact .inl (fY (j := j) (by omega) (by omega) h12_14) | exact .inr (.inl (by omega)) | exact .inr (.inr (by omega)))]
      done)
   | (rw [bO, if_neg (by omega), if_neg (by omega), if_neg (fun q => q.elim (fun q => q hR9) (fun q => by omega))]
      done)
   | (trace_state; fail)
 refine ah ?_
 refine aq ?_
 refine aC rfl ?_
 refine aS ?_
 refine aq ?_
 refine ar ?_
 refine ar ?_
 refine ai ?_
 refine au (ao rfl) rfl rfl ?_
 refine ah ?_
 refine aq ?_
 refine aW ?_
 refine bV (σ := Nat) [2, 3, 4, 10, 11, 12, 13, 14, 15, 16, 17, 18, 19, 20, 21, 22, 23, 24, 25] (fun k => k ≤ l.length ∧ dL l = dL (l.drop k)) (fun k => l.length - k) (fun k => [(3, .int .i64 k)]) (0) ?_ ⟨rfl, trivial⟩ (fun k hI => ?_)
 exact ⟨Nat.zero_le _, rfl⟩
 refine ar ?_
 refine ar ?_
 refine ai ?_
 refine au (ap rfl) rfl rfl ?_
 refine au (aD cw rfl) rfl rfl ?_
 refine au (aM 0 bZ rfl rfl rfl) rfl rfl ?_
 refine au (bg Tryz.underlying22 rfl) rfl rfl ?_
 refine au (bI rfl rfl) rfl rfl ?_
 refine aB (t := 14) rfl (fun h4_4 => ?_) (fun h4_4 => ?_)
 have hk : k < l.length := by omega
 have hb9 := hok.at hk
 have hdk := drop_getE hk
 refine ah ?_
 refine aq ?_
 refine aA rfl ?_
 refine aS ?_
 refine aq ?_
 refine ar ?_
 refine aW ?_
 refine ar ?_
 refine ai ?_
 refine au (aD cw rfl) rfl rfl ?_
 refine au (aM 0 bZ rfl rfl rfl) rfl rfl ?_
 refine au (ap rfl) rfl rfl ?_
 refine au (bz  Tryz.underlying22 aR rfl rfl (bE 0 rfl) rfl (by omega)) rfl rfl ?_
 refine au (bW cj br aR rfl (bE 0 rfl) (by omega) rfl rfl rfl) rfl rfl ?_
 refine bp rfl ent_133 rfl (fA _ _ _ _ _ hb9.wa (by have := hb9.la; omega) (by have := hb9.lp; omega) hb9.k) (fun w hw => (aO (bG (bJ 1 rfl hw) (bL (bA (by omega)) _ (gD _))) (aO (bG (bJ 1 rfl hw) (bL (bA (by omega)) _ (jA _))) bd))) ?_
 refine au (ao rfl) rfl rfl ?_
 refine ah ?_
 refine aq ?_
 refine ar ?_
 refine ai ?_
 refine au (ap rfl) rfl rfl ?_
 refine au (bX rfl rfl) rfl rfl ?_
 refine aB (t := 24) rfl (fun h7_1 => ?_) (fun h7_1 => ?_)
 refine ah ?_
 refine aq ?_
 refine aA rfl ?_
 refine ar ?_
 have he9 : dL l = cJ (l.getD k br).e := by rw [hI.2, hdk, dL, if_pos h7_1]
 refine ai ?_
 refine au (ap rfl) rfl rfl ?_
 refine au (ao rfl) rfl rfl ?_
 refine ah ?_
 refine aq ?_
 refine aQ ?_
 refine aK ?_
 refine ay ?_
 refine a9 ?_
 refine aK ?_
 refine ay ?_
 refine aV (ts := [2]) rfl rfl rfl (fun w hw => ?_)
 refine ⟨(), ?_, hw.base, (hw.weak (List.nil_sublist _) (fun s hs => hs)).toNews⟩
 show Ending.returned (.int _ _) = _
 congr 2
 focus first
   | (rw [bO, if_pos (by omega)]
      done)
   | (rw [bO, if_neg (by omega), if_pos (by omega)]
      exact he9.symm)
   | (rw [bO, if_neg (by omega), if_neg (by omega), if_pos (by first | exact .inl (fY (j := j) (by omega) (by omega) h12_14) | exact .inr (.inl (by omega)) | exact .inr (.inr (by omega)))]
      done)
   | (rw [bO, if_neg (by omega), if_neg (by omega), if_neg (fun q => q.elim (fun q => q hR9) (fun q => by omega))]
      done)
   | (trace_state; fail)
 refine ah ?_
 refine aq ?_
 refine aC rfl ?_
 refine aS ?_
 refine bo ?_
 refine aq ?_
 refine ai ?_
 refine au (ap rfl) rfl rfl ?_
 refine au (bl rfl rfl (by omega) (by omega)) rfl rfl ?_
 refine au (ao rfl) rfl rfl ?_
 refine ah ?_
 refine bq (k + 1) ?_ ?_ ⟨rfl, trivial⟩ (by repeat (first | exact trivial | refine ⟨rfl, ?_⟩)) aE
 exact ⟨by omega, by rw [hI.2, hdk, dL, if_neg h7_1]⟩
 omega
 refine ah ?_
 refine aq ?_
 refine aC rfl ?_
 refine bw ?_
 refine aY ?_
 refine aZ ?_
 refine a7 ?_
 refine aq ?_
 refine ar ?_
 refine ar ?_
 have he0 : dL l = 0 := by rw [hI.2, List.drop_of_length_le (by omega)]; rfl
 refine ai ?_
 refine au (ao rfl) rfl rfl ?_
 refine ah ?_
 refine aq ?_
 refine aW ?_
 refine bV (σ := Nat) [2, 5, 26, 27, 28, 29, 30, 31, 32, 33, 34, 35, 36, 37, 38, 39, 40, 41, 42, 43, 44, 45, 46, 47] (fun j => 1 ≤ j ∧ ∀ i, 0 < i → i < j → 0 < du (l.getD i br).e.host (l.getD (i - 1) br).e.host) (fun j => l.length - j) (fun j => [(5, .int .i64 j)]) (1) ?_ ⟨rfl, trivial⟩ (fun j hI => ?_)
 exact ⟨Nat.le_refl _, fun i h1 h2 => by omega⟩
 refine ar ?_
 refine ar ?_
 refine ai ?_
 refine au (ap rfl) rfl rfl ?_
 refine au (aD cw rfl) rfl rfl ?_
 refine au (aM 0 bZ rfl rfl rfl) rfl rfl ?_
 refine au (bg Tryz.underlying22 rfl) rfl rfl ?_
 refine au (bI rfl rfl) rfl rfl ?_
 refine aB (t := 30) rfl (fun h10_4 => ?_) (fun h10_4 => ?_)
 have hj9 := hok.at (k := j) (by omega)
 have hj8 := hok.at (k := j - 1) (by omega)
 refine ah ?_
 refine aq ?_
 refine aA rfl ?_
 refine aS ?_
 refine aq ?_
 refine ar ?_
 refine aW ?_
 refine ar ?_
 refine dz 15 rfl cu ?_
 refine aF (i := 0) rfl aj (aD cw rfl) aE aE rfl (aa (ae (aa (ak (ae (aa av)))))) (by kernel_rfl) rfl ?_
 refine aF (i := 1) rfl aj (aM 0 bZ rfl rfl rfl) aE aE rfl (aa (ae (aa (ak (ae (aa av)))))) (by kernel_rfl) rfl ?_
 refine aF (i := 2) rfl aj (ap rfl) aE aE rfl (aa (ae (aa (ak (ae (aa av)))))) (by kernel_rfl) rfl ?_
 refine aF (i := 3) rfl aj (eg rfl rfl (by omega) (by omega)) aE aE rfl (aa (ae (aa (ak (ae (aa av)))))) (by kernel_rfl) rfl ?_
 refine aF (i := 4) rfl aj (bz (k := j - 1) Tryz.underlying22 aR rfl rfl (bE 0 rfl) (by omega) (by omega)) aE aE rfl (aa (ae (aa (ak (ae (aa av)))))) (by kernel_rfl) rfl ?_
 refine aF (i := 5) rfl aj (aD cQ rfl) aE aE rfl (aa (ae (aa (ak (ae (aa av)))))) (by kernel_rfl) rfl ?_
 refine aF (i := 6) rfl aj (cf cj br bN rfl (bE 0 rfl) (by omega) rfl rfl) aE aE rfl (aa (ae (aa (ak (ae (aa av)))))) (by kernel_rfl) rfl ?_
 refine aF (i := 7) rfl aj (aD cw rfl) aE aE rfl (aa (ae (aa (ak (ae (aa av)))))) (by kernel_rfl) rfl ?_
 refine aF (i := 8) rfl aj (aM 0 bZ rfl rfl rfl) aE aE rfl (aa (ae (aa (ak (ae (aa av)))))) (by kernel_rfl) rfl ?_
 refine aF (i := 9) rfl aj (ap rfl) aE aE rfl (aa (ae (aa (ak (ae (aa av)))))) (by kernel_rfl) rfl ?_
 refine aF (i := 10) rfl aj (bz  Tryz.underlying22 aR rfl rfl (bE 0 rfl) rfl (by omega)) aE aE rfl (aa (ae (aa (ak (ae (aa av)))))) (by kernel_rfl) rfl ?_
 refine aF (i := 11) rfl aj (aD cQ rfl) aE aE rfl (aa (ae (aa (ak (ae (aa av)))))) (by kernel_rfl) rfl ?_
 refine aF (i := 12) rfl aj (cf cj br bN rfl (bE 0 rfl) (by omega) rfl rfl) aE aE rfl (aa (ae (aa (ak (ae (aa av)))))) (by kernel_rfl) rfl ?_
 refine cy (i := 13) rfl rfl rfl (bm rfl ent_141) (by kernel_rfl) rfl ?_
 refine bb rfl ent_141 (ii _ _ (by have := hj8.h; omega) (by have := hj9.h; omega)) rfl ?_
 refine ah ?_
 refine cW aE ?_
 refine aF (i := 14) rfl aj (i5 rfl rfl) aE aE rfl (aa (ae (aa (ak (ae (aa av)))))) (by kernel_rfl) rfl ?_
 refine dn (t := 47) rfl (fun h12_14 => ?_) (fun h12_14 => ?_)
 refine cp (by kernel_rfl) ?_
 refine aq ?_
 refine aA rfl ?_
 refine ar ?_
 refine ai ?_
 refine au (ao rfl) rfl rfl ?_
 refine ah ?_
 refine aq ?_
 refine aQ ?_
 refine aK ?_
 refine ay ?_
 refine a9 ?_
 refine aK ?_
 refine ay ?_
 refine aV (ts := [2]) rfl rfl rfl (fun w hw => ?_)
 refine ⟨(), ?_, hw.base, (hw.weak (List.nil_sublist _) (fun s hs => hs)).toNews⟩
 show Ending.returned (.int _ _) = _
 congr 2
 focus first
   | (rw [bO, if_pos (by omega)]
      done)
   | (rw [bO, if_neg (by omega), if_pos (by omega)]
      exact he9.symm)
   | (rw [bO, if_neg (by omega), if_neg (by omega), if_pos (by first | exact .inl (fY (j := j) (by omega) (by omega) h12_14) | exact .inr (.inl (by omega)) | exact .inr (.inr (by omega)))]
      done)
   | (rw [bO, if_neg (by omega), if_neg (by omega), if_neg (fun q => q.elim (fun q => q hR9) (fun q => by omega))]
      done)
   | (trace_state; fail)
 refine cp (by kernel_rfl) ?_
 refine aq ?_
 refine aC rfl ?_
 refine aS ?_
 refine bo ?_
 refine aq ?_
 refine ai ?_
 refine au (ap rfl) rfl rfl ?_
 refine au (bl rfl rfl (by omega) (by omega)) rfl rfl ?_
 refine au (ao rfl) rfl rfl ?_
 refine ah ?_
 refine bq (j + 1) ?_ ?_ ⟨rfl, trivial⟩ (by repeat (first | exact trivial | refine ⟨rfl, ?_⟩)) aE
 refine ⟨by omega, fun i h1 h2 => ?_⟩
 by_cases e : i = j
 · rw [e]; exact rises_step h12_14
 · exact hI.2 i h1 (by omega)
 omega
 refine ah ?_
 refine aq ?_
 refine aC rfl ?_
 refine bw ?_
 refine aY ?_
 refine aZ ?_
 refine a7 ?_
 refine aq ?_
 refine ar ?_
 refine ar ?_
 have hR9 : ig l := fun i h1 h2 => hI.2 i h1 (by omega)
 refine ai ?_
 refine au (aD eQ rfl) rfl rfl ?_
 refine au (aM 0 de rfl rfl rfl) rfl rfl ?_
 refine au (bI rfl rfl) rfl rfl ?_
 refine aB (t := 50) rfl (fun h14_2 => ?_) (fun h14_2 => ?_)
 refine au (ap rfl) rfl rfl ?_
 refine ax rfl rfl rfl rfl ?_
 refine ax rfl rfl rfl rfl ?_
 refine ax rfl rfl rfl rfl ?_
 refine au (aG rfl rfl) rfl rfl ?_
 refine ah ?_
 refine aq ?_
 refine aA rfl ?_
 refine ar ?_
 refine ai ?_
 refine au (ao rfl) rfl rfl ?_
 refine ah ?_
 refine aq ?_
 refine aQ ?_
 refine ay ?_
 refine aV (ts := [2]) rfl rfl rfl (fun w hw => ?_)
 refine ⟨(), ?_, hw.base, (hw.weak (List.nil_sublist _) (fun s hs => hs)).toNews⟩
 show Ending.returned (.int _ _) = _
 congr 2
 focus first
   | (rw [bO, if_pos (by omega)]
      done)
   | (rw [bO, if_neg (by omega), if_pos (by omega)]
      exact he9.symm)
   | (rw [bO, if_neg (by omega), if_neg (by omega), if_pos (by first | exact .inl (fY (j := j) (by omega) (by omega) h12_14) | exact .inr (.inl (by omega)) | exact .inr (.inr (by omega)))]
      done)
   | (rw [bO, if_neg (by omega), if_neg (by omega), if_neg (fun q => q.elim (fun q => q hR9) (fun q => by omega))]
      done)
   | (trace_state; fail)
 refine au (ap rfl) rfl rfl ?_
 refine az rfl rfl ?_
 refine au (aD eQ rfl) rfl rfl ?_
 refine az rfl rfl ?_
 refine au (aM 0 de rfl rfl rfl) rfl rfl ?_
 refine az rfl rfl ?_
 refine au (c9 rfl rfl) rfl rfl ?_
 refine aB (t := 54) rfl (fun h14_6 => ?_) (fun h14_6 => ?_)
 refine au (aI rfl rfl) rfl rfl ?_
 refine ah ?_
 refine aq ?_
 refine aA rfl ?_
 refine ar ?_
 refine ai ?_
 refine au (ao rfl) rfl rfl ?_
 refine ah ?_
 refine aq ?_
 refine aQ ?_
 refine ay ?_
 refine aV (ts := [2]) rfl rfl rfl (fun w hw => ?_)
 refine ⟨(), ?_, hw.base, (hw.weak (List.nil_sublist _) (fun s hs => hs)).toNews⟩
 show Ending.returned (.int _ _) = _
 congr 2
 focus first
   | (rw [bO, if_pos (by omega)]
      done)
   | (rw [bO, if_neg (by omega), if_pos (by omega)]
      exact he9.symm)
   | (rw [bO, if_neg (by omega), if_neg (by omega), if_pos (by first | exact .inl (fY (j := j) (by omega) (by omega) h12_14) | exact .inr (.inl (by omega)) | exact .inr (.inr (by omega)))]
      done)
   | (rw [bO, if_neg (by omega), if_neg (by omega), if_neg (fun q => q.elim (fun q => q hR9) (fun q => by omega))]
      done)
   | (trace_state; fail)
 refine au (aI rfl rfl) rfl rfl ?_
 refine ah ?_
 refine aq ?_
 refine aC rfl ?_
 refine aS ?_
 refine aq ?_
 refine ar ?_
 refine ai ?_
 refine au (ao rfl) rfl rfl ?_
 refine ah ?_
 refine aq ?_
 refine aQ ?_
 refine aV (ts := [2]) rfl rfl rfl (fun w hw => ?_)
 refine ⟨(), ?_, hw.base, (hw.weak (List.nil_sublist _) (fun s hs => hs)).toNews⟩
 show Ending.returned (.int _ _) = _
 congr 2
 focus first
   | (rw [bO, if_pos (by omega)]
      done)
   | (rw [bO, if_neg (by omega), if_pos (by omega)]
      exact he9.symm)
   | (rw [bO, if_neg (by omega), if_neg (by omega), if_pos (by first | exact .inl (fY (j := j) (by omega) (by omega) h12_14) | exact .inr (.inl (by omega)) | exact .inr (.inr (by omega)))]
      done)
   | (rw [bO, if_neg (by omega), if_neg (by omega), if_neg (fun q => q.elim (fun q => q hR9) (fun q => by omega))]
      done)
   | (trace_state; fail)
end Go.Proofs.YtnpdgmoeoidppaaGreat
