import Derived.Test.YtnpdgmoeoidppaaGreatCgQa
/- the references of addresses, data, records, entries -/
namespace Go.Proofs.YtnpdgmoeoidppaaGreat
open Go.RowKit Go.Shelf
set_option linter.unusedVariables false
set_option linter.unusedSimpArgs false

theorem ent_151 : Enters Tryz.prog 151 := enters_of Tryz.func151 (by kernel_rfl) rfl
theorem ent_195 : Enters Tryz.prog 195 := enters_of Tryz.func195 (by kernel_rfl) rfl
theorem ent_79 : Enters Tryz.prog 79 := enters_of Tryz.func79 (by kernel_rfl) rfl

set_option maxRecDepth 100000 in
theorem c_kit_Same_ad (xs ys : List Ad) (A B : Option Addr) (c e : Nat) (hl : xs.length ≤ 1000000000000) : RC Tryz.prog 23 #[.slice A xs.length c, .slice B ys.length e] [Ch.rd A 3 dT xs, Ch.rd B 3 dT ys] (α := Unit) (fun _ => .bool (decide (xs = ys))) (fun _ => []) := by
 refine bx (args := [.slice A xs.length c, .slice B ys.length e]) 26 Tryz.func23 rfl rfl rfl (fun w0 => ?_)
 refine ar ?_
 refine ai ?_
 refine au (ao rfl) rfl rfl ?_
 refine ah ?_
 refine aq ?_
 refine ar ?_
 refine ar ?_
 refine ai ?_
 refine au (ap rfl) rfl rfl ?_
 refine au (bg Tryz.underlying30 rfl) rfl rfl ?_
 refine au (ap rfl) rfl rfl ?_
 refine au (bg Tryz.underlying30 rfl) rfl rfl ?_
 refine au (bX rfl rfl) rfl rfl ?_
 refine aB (t := 10) rfl (fun h1_4 => ?_) (fun h1_4 => ?_)
 refine ah ?_
 refine aq ?_
 refine aA rfl ?_
 refine ar ?_
 refine ai ?_
 refine au (ao rfl) rfl rfl ?_
 refine ah ?_
 refine aq ?_
 refine aQ ?_
 refine ay ?_
 refine aV (ts := [4]) rfl rfl rfl (fun w hw => ?_)
 have hne : xs ≠ ys := fun he => by rw [he] at h1_4; exact absurd rfl h1_4
 exact ⟨(), by rw [decide_eq_false hne]; rfl, hw.base, hw.toNews⟩
 refine ah ?_
 refine aq ?_
 refine aC rfl ?_
 refine aS ?_
 refine aq ?_
 refine ar ?_
 refine ar ?_
 refine ai ?_
 refine au (ao rfl) rfl rfl ?_
 refine ah ?_
 refine aq ?_
 refine aW ?_
 refine bV (σ := Nat) [4, 5, 11, 12, 13, 14, 15, 16, 17, 18, 19, 20, 21, 22, 23, 24, 25] (fun k => k ≤ xs.length ∧ xs.take k = ys.take k) (fun k => xs.length - k) (fun k => [(5, .int .i64 k)]) (0) ?_ ⟨rfl, trivial⟩ (fun k hI => ?_)
 exact ⟨Nat.zero_le _, rfl⟩
 refine ar ?_
 refine ar ?_
 refine ai ?_
 refine au (ap rfl) rfl rfl ?_
 refine au (ap rfl) rfl rfl ?_
 refine au (bg Tryz.underlying30 rfl) rfl rfl ?_
 refine au (bI rfl rfl) rfl rfl ?_
 refine aB (t := 14) rfl (fun h4_3 => ?_) (fun h4_3 => ?_)
 refine ah ?_
 refine aq ?_
 refine aA rfl ?_
 refine aS ?_
 refine aq ?_
 refine ar ?_
 refine aW ?_
 refine ar ?_
 refine dz 9 rfl cu ?_
 refine aF (i := 0) rfl aj (ap rfl) aE aE rfl (aa (ae (aa (ak (ae (aa av)))))) (by kernel_rfl) rfl ?_
 refine aF (i := 1) rfl aj (ap rfl) aE aE rfl (aa (ae (aa (ak (ae (aa av)))))) (by kernel_rfl) rfl ?_
 refine aF (i := 2) rfl aj (bz  Tryz.underlying30 bu rfl rfl (bE 0 rfl) rfl (by omega)) aE aE rfl (aa (ae (aa (ak (ae (aa av)))))) (by kernel_rfl) rfl ?_
 refine aF (i := 3) rfl aj (bW dI eZ bu rfl (bE 0 rfl) (by omega) rfl rfl rfl) aE aE rfl (aa (ae (aa (ak (ae (aa av)))))) (by kernel_rfl) rfl ?_
 refine aF (i := 4) rfl aj (ap rfl) aE aE rfl (aa (ae (aa (ak (ae (aa av)))))) (by kernel_rfl) rfl ?_
 refine aF (i := 5) rfl aj (ap rfl) aE aE rfl (aa (ae (aa (ak (ae (aa av)))))) (by kernel_rfl) rfl ?_
 refine aF (i := 6) rfl aj (bz  Tryz.underlying30 bu rfl rfl (bE 1 rfl) rfl (by omega)) aE aE rfl (aa (ae (aa (ak (ae (aa av)))))) (by kernel_rfl) rfl ?_
 refine aF (i := 7) rfl aj (bW dI eZ bu rfl (bE 1 rfl) (by omega) rfl rfl rfl) aE aE rfl (aa (ae (aa (ak (ae (aa av)))))) (by kernel_rfl) rfl ?_
 refine aF (i := 8) rfl aj (y_nestd (by kernel_rfl) rfl rfl (jg _ _) rfl) aE aE rfl (aa (ae (aa (ak (ae (aa av)))))) (by kernel_rfl) rfl ?_
 refine dn (t := 25) rfl (fun h6_8 => ?_) (fun h6_8 => ?_)
 refine cp (by kernel_rfl) ?_
 refine aq ?_
 refine aA rfl ?_
 refine ar ?_
 refine ai ?_
 refine au (ao rfl) rfl rfl ?_
 refine ah ?_
 refine aq ?_
 refine aQ ?_
 refine aK ?_
 refine ay ?_
 refine a9 ?_
 refine aK ?_
 refine ay ?_
 refine aV (ts := [4]) rfl rfl rfl (fun w hw => ?_)
 focus first
   | (have hne : xs ≠ ys := g2 eZ (k := k) (by simpa using h6_8)
      exact ⟨(), by rw [decide_eq_false hne]; rfl, hw.base, hw.toNews⟩)
   | (have hk : k = xs.length := by omega
      have he : xs = ys := by have := hI.2; rw [hk, List.take_length, List.take_of_length_le (by omega)] at this; exact this
      exact ⟨(), by rw [decide_eq_true he]; rfl, hw.base, hw.toNews⟩)
 refine cp (by kernel_rfl) ?_
 refine aq ?_
 refine aC rfl ?_
 refine aS ?_
 refine bo ?_
 refine aq ?_
 refine ai ?_
 refine au (ap rfl) rfl rfl ?_
 refine au (bl rfl rfl (by omega) (by omega)) rfl rfl ?_
 refine au (ao rfl) rfl rfl ?_
 refine ah ?_
 refine bq (k + 1) ?_ ?_ ⟨rfl, trivial⟩ (by repeat (first | exact trivial | refine ⟨rfl, ?_⟩)) aE
 exact ⟨by omega, fT eZ (by omega) (by omega) hI.2 (by simpa using h6_8)⟩
 omega
 refine ah ?_
 refine aq ?_
 refine aC rfl ?_
 refine bw ?_
 refine aY ?_
 refine aZ ?_
 refine a7 ?_
 refine aq ?_
 refine ar ?_
 refine ai ?_
 refine au (ao rfl) rfl rfl ?_
 refine ah ?_
 refine aq ?_
 refine aQ ?_
 refine aV (ts := [4]) rfl rfl rfl (fun w hw => ?_)
 focus first
   | (have hne : xs ≠ ys := g2 eZ (k := k) (by simpa using h6_8)
      exact ⟨(), by rw [decide_eq_false hne]; rfl, hw.base, hw.toNews⟩)
   | (have hk : k = xs.length := by omega
      have he : xs = ys := by have := hI.2; rw [hk, List.take_length, List.take_of_length_le (by omega)] at this; exact this
      exact ⟨(), by rw [decide_eq_true he]; rfl, hw.base, hw.toNews⟩)

set_option maxRecDepth 100000 in
theorem c_kit_Same_n (xs ys : List bf) (A B : Option Addr) (c e : Nat) (hl : xs.length ≤ 1000000000000) : RC Tryz.prog 26 #[.slice A xs.length c, .slice B ys.length e] [Ch.rd A 1 d9 xs, Ch.rd B 1 d9 ys] (α := Unit) (fun _ => .bool (decide (xs = ys))) (fun _ => []) := by
 refine bx (args := [.slice A xs.length c, .slice B ys.length e]) 26 Tryz.func26 rfl rfl rfl (fun w0 => ?_)
 refine ar ?_
 refine ai ?_
 refine au (ao rfl) rfl rfl ?_
 refine ah ?_
 refine aq ?_
 refine ar ?_
 refine ar ?_
 refine ai ?_
 refine au (ap rfl) rfl rfl ?_
 refine au (bg Tryz.underlying59 rfl) rfl rfl ?_
 refine au (ap rfl) rfl rfl ?_
 refine au (bg Tryz.underlying59 rfl) rfl rfl ?_
 refine au (bX rfl rfl) rfl rfl ?_
 refine aB (t := 10) rfl (fun h1_4 => ?_) (fun h1_4 => ?_)
 refine ah ?_
 refine aq ?_
 refine aA rfl ?_
 refine ar ?_
 refine ai ?_
 refine au (ao rfl) rfl rfl ?_
 refine ah ?_
 refine aq ?_
 refine aQ ?_
 refine ay ?_
 refine aV (ts := [4]) rfl rfl rfl (fun w hw => ?_)
 have hne : xs ≠ ys := fun he => by rw [he] at h1_4; exact absurd rfl h1_4
 exact ⟨(), by rw [decide_eq_false hne]; rfl, hw.base, hw.toNews⟩
 refine ah ?_
 refine aq ?_
 refine aC rfl ?_
 refine aS ?_
 refine aq ?_
 refine ar ?_
 refine ar ?_
 refine ai ?_
 refine au (ao rfl) rfl rfl ?_
 refine ah ?_
 refine aq ?_
 refine aW ?_
 refine bV (σ := Nat) [4, 5, 11, 12, 13, 14, 15, 16, 17, 18, 19, 20, 21, 22, 23, 24, 25] (fun k => k ≤ xs.length ∧ xs.take k = ys.take k) (fun k => xs.length - k) (fun k => [(5, .int .i64 k)]) (0) ?_ ⟨rfl, trivial⟩ (fun k hI => ?_)
 exact ⟨Nat.zero_le _, rfl⟩
 refine ar ?_
 refine ar ?_
 refine ai ?_
 refine au (ap rfl) rfl rfl ?_
 refine au (ap rfl) rfl rfl ?_
 refine au (bg Tryz.underlying59 rfl) rfl rfl ?_
 refine au (bI rfl rfl) rfl rfl ?_
 refine aB (t := 14) rfl (fun h4_3 => ?_) (fun h4_3 => ?_)
 refine ah ?_
 refine aq ?_
 refine aA rfl ?_
 refine aS ?_
 refine aq ?_
 refine ar ?_
 refine aW ?_
 refine ar ?_
 refine dz 9 rfl cu ?_
 refine aF (i := 0) rfl aj (ap rfl) aE aE rfl (aa (ae (aa (ak (ae (aa av)))))) (by kernel_rfl) rfl ?_
 refine aF (i := 1) rfl aj (ap rfl) aE aE rfl (aa (ae (aa (ak (ae (aa av)))))) (by kernel_rfl) rfl ?_
 refine aF (i := 2) rfl aj (bz  Tryz.underlying59 bN rfl rfl (bE 0 rfl) rfl (by omega)) aE aE rfl (aa (ae (aa (ak (ae (aa av)))))) (by kernel_rfl) rfl ?_
 refine aF (i := 3) rfl aj (cf ct ([] : bf) bN rfl (bE 0 rfl) (by omega) rfl rfl) aE aE rfl (aa (ae (aa (ak (ae (aa av)))))) (by kernel_rfl) rfl ?_
 refine aF (i := 4) rfl aj (ap rfl) aE aE rfl (aa (ae (aa (ak (ae (aa av)))))) (by kernel_rfl) rfl ?_
 refine aF (i := 5) rfl aj (ap rfl) aE aE rfl (aa (ae (aa (ak (ae (aa av)))))) (by kernel_rfl) rfl ?_
 refine aF (i := 6) rfl aj (bz  Tryz.underlying59 bN rfl rfl (bE 1 rfl) rfl (by omega)) aE aE rfl (aa (ae (aa (ak (ae (aa av)))))) (by kernel_rfl) rfl ?_
 refine aF (i := 7) rfl aj (cf ct ([] : bf) bN rfl (bE 1 rfl) (by omega) rfl rfl) aE aE rfl (aa (ae (aa (ak (ae (aa av)))))) (by kernel_rfl) rfl ?_
 refine aF (i := 8) rfl aj (jb rfl rfl) aE aE rfl (aa (ae (aa (ak (ae (aa av)))))) (by kernel_rfl) rfl ?_
 refine dn (t := 25) rfl (fun h6_8 => ?_) (fun h6_8 => ?_)
 refine cp (by kernel_rfl) ?_
 refine aq ?_
 refine aA rfl ?_
 refine ar ?_
 refine ai ?_
 refine au (ao rfl) rfl rfl ?_
 refine ah ?_
 refine aq ?_
 refine aQ ?_
 refine aK ?_
 refine ay ?_
 refine a9 ?_
 refine aK ?_
 refine ay ?_
 refine aV (ts := [4]) rfl rfl rfl (fun w hw => ?_)
 focus first
   | (have hne : xs ≠ ys := g2 ([] : bf) (k := k) (by simpa using h6_8)
      exact ⟨(), by rw [decide_eq_false hne]; rfl, hw.base, hw.toNews⟩)
   | (have hk : k = xs.length := by omega
      have he : xs = ys := by have := hI.2; rw [hk, List.take_length, List.take_of_length_le (by omega)] at this; exact this
      exact ⟨(), by rw [decide_eq_true he]; rfl, hw.base, hw.toNews⟩)
 refine cp (by kernel_rfl) ?_
 refine aq ?_
 refine aC rfl ?_
 refine aS ?_
 refine bo ?_
 refine aq ?_
 refine ai ?_
 refine au (ap rfl) rfl rfl ?_
 refine au (bl rfl rfl (by omega) (by omega)) rfl rfl ?_
 refine au (ao rfl) rfl rfl ?_
 refine ah ?_
 refine bq (k + 1) ?_ ?_ ⟨rfl, trivial⟩ (by repeat (first | exact trivial | refine ⟨rfl, ?_⟩)) aE
 exact ⟨by omega, fT ([] : bf) (by omega) (by omega) hI.2 (by simpa using h6_8)⟩
 omega
 refine ah ?_
 refine aq ?_
 refine aC rfl ?_
 refine bw ?_
 refine aY ?_
 refine aZ ?_
 refine a7 ?_
 refine aq ?_
 refine ar ?_
 refine ai ?_
 refine au (ao rfl) rfl rfl ?_
 refine ah ?_
 refine aq ?_
 refine aQ ?_
 refine aV (ts := [4]) rfl rfl rfl (fun w hw => ?_)
 focus first
   | (have hne : xs ≠ ys := g2 ([] : bf) (k := k) (by simpa using h6_8)
      exact ⟨(), by rw [decide_eq_false hne]; rfl, hw.base, hw.toNews⟩)
   | (have hk : k = xs.length := by omega
      have he : xs = ys := by have := hI.2; rw [hk, List.take_length, List.take_of_length_le (by omega)] at this; exact this
      exact ⟨(), by rw [decide_eq_true he]; rfl, hw.base, hw.toNews⟩)

/-- Not too much. -/
def ek (e : En) : Bool := decide (e.host.length ≤ 300) && decide (e.alias.length ≤ 300) && decide (e.cluster.length ≤ 300) && decide (e.addrs.length ≤ 20) && decide (e.ports.length ≤ 20)

theorem hG (e : En) (A B : Option Addr) (c d : Nat) : dQ Tryz.prog 12 #[.agg (enC e A B c d).toArray] (.bool (ek e)) := by
 intro w0
 refine bH (ok0 := no) (S := []) (args := [.agg (enC e A B c d).toArray]) 31 Tryz.func12 rfl rfl rfl (by simp) (by simp) ?_
 refine ar ?_
 refine ai ?_
 refine cv rfl rfl rfl (fun b1 => ?_)
 refine au (ao rfl) rfl rfl ?_
 refine ah ?_
 refine aq ?_
 refine ar ?_
 refine ai ?_
 refine au (aD cQ rfl) rfl rfl ?_
 refine au (aM 0 bN rfl rfl rfl) rfl rfl ?_
 refine au (cL Tryz.underlying26 rfl) rfl rfl ?_
 refine au (fp rfl rfl) rfl rfl ?_
 refine aB (t := 6) rfl (fun h1_3 => ?_) (fun h1_3 => ?_)
 refine au (ap rfl) rfl rfl ?_
 refine az rfl rfl ?_
 refine au (aD ep rfl) rfl rfl ?_
 refine az rfl rfl ?_
 refine au (aM 0 bN rfl rfl rfl) rfl rfl ?_
 refine az rfl rfl ?_
 refine au (cL Tryz.underlying26 rfl) rfl rfl ?_
 refine az rfl rfl ?_
 refine au (fp rfl rfl) rfl rfl ?_
 refine aB (t := 11) rfl (fun h1_8 => ?_) (fun h1_8 => ?_)
 refine au (aG rfl rfl) rfl rfl ?_
 refine au (ap rfl) rfl rfl ?_
 refine az rfl rfl ?_
 refine au (aD fV rfl) rfl rfl ?_
 refine az rfl rfl ?_
 refine au (aM 0 cB rfl rfl rfl) rfl rfl ?_
 refine az rfl rfl ?_
 refine au (cL Tryz.underlying9 rfl) rfl rfl ?_
 refine az rfl rfl ?_
 refine au (fp rfl rfl) rfl rfl ?_
 refine aB (t := 17) rfl (fun h1_14 => ?_) (fun h1_14 => ?_)
 refine au (aG rfl rfl) rfl rfl ?_
 refine au (ap rfl) rfl rfl ?_
 refine az rfl rfl ?_
 refine au (aD cH rfl) rfl rfl ?_
 refine az rfl rfl ?_
 refine au (aM 0 dN rfl rfl rfl) rfl rfl ?_
 refine az rfl rfl ?_
 refine au (bg Tryz.underlying30 rfl) rfl rfl ?_
 refine az rfl rfl ?_
 refine au (fp rfl rfl) rfl rfl ?_
 refine aB (t := 23) rfl (fun h1_20 => ?_) (fun h1_20 => ?_)
 refine au (aG rfl rfl) rfl rfl ?_
 refine au (ap rfl) rfl rfl ?_
 refine az rfl rfl ?_
 refine au (aD dq rfl) rfl rfl ?_
 refine az rfl rfl ?_
 refine au (aM 0 eP rfl rfl rfl) rfl rfl ?_
 refine az rfl rfl ?_
 refine au (bg Tryz.underlying31 rfl) rfl rfl ?_
 refine az rfl rfl ?_
 refine au (fp rfl rfl) rfl rfl ?_
 refine au (aG rfl rfl) rfl rfl ?_
 refine au (ao rfl) rfl rfl ?_
 refine ah ?_
 refine aq ?_
 refine aQ ?_
 refine aV (ts := [2]) rfl rfl rfl (fun w hw => ?_)
 refine ⟨?_, hw.base⟩
 show Ending.returned (.bool _) = _
 congr 2
 rw [Bool.eq_iff_iff]
 simp only [ek, Bool.and_eq_true, decide_eq_true_eq]
 focus first | omega | (simp; omega) | (trace_state; fail)
 refine au (aG rfl rfl) rfl rfl ?_
 refine au (ap rfl) rfl rfl ?_
 refine ax rfl rfl rfl rfl ?_
 refine ax rfl rfl rfl rfl ?_
 refine ax rfl rfl rfl rfl ?_
 refine ax rfl rfl rfl rfl ?_
 refine au (aI rfl rfl) rfl rfl ?_
 refine au (ao rfl) rfl rfl ?_
 refine ah ?_
 refine aq ?_
 refine aQ ?_
 refine aV (ts := [2]) rfl rfl rfl (fun w hw => ?_)
 refine ⟨?_, hw.base⟩
 show Ending.returned (.bool _) = _
 congr 2
 rw [Bool.eq_iff_iff]
 simp only [ek, Bool.and_eq_true, decide_eq_true_eq]
 focus first | omega | (simp; omega) | (trace_state; fail)
 refine au (aG rfl rfl) rfl rfl ?_
 refine au (ap rfl) rfl rfl ?_
 refine ax rfl rfl rfl rfl ?_
 refine ax rfl rfl rfl rfl ?_
 refine ax rfl rfl rfl rfl ?_
 refine ax rfl rfl rfl rfl ?_
 refine au (aI rfl rfl) rfl rfl ?_
 refine au (ap rfl) rfl rfl ?_
 refine ax rfl rfl rfl rfl ?_
 refine ax rfl rfl rfl rfl ?_
 refine ax rfl rfl rfl rfl ?_
 refine ax rfl rfl rfl rfl ?_
 refine au (aI rfl rfl) rfl rfl ?_
 refine au (ao rfl) rfl rfl ?_
 refine ah ?_
 refine aq ?_
 refine aQ ?_
 refine aV (ts := [2]) rfl rfl rfl (fun w hw => ?_)
 refine ⟨?_, hw.base⟩
 show Ending.returned (.bool _) = _
 congr 2
 rw [Bool.eq_iff_iff]
 simp only [ek, Bool.and_eq_true, decide_eq_true_eq]
 focus first | omega | (simp; omega) | (trace_state; fail)
 refine au (aG rfl rfl) rfl rfl ?_
 refine au (ap rfl) rfl rfl ?_
 refine ax rfl rfl rfl rfl ?_
 refine ax rfl rfl rfl rfl ?_
 refine ax rfl rfl rfl rfl ?_
 refine ax rfl rfl rfl rfl ?_
 refine au (aI rfl rfl) rfl rfl ?_
 refine au (ap rfl) rfl rfl ?_
 refine ax rfl rfl rfl rfl ?_
 refine ax rfl rfl rfl rfl ?_
 refine ax rfl rfl rfl rfl ?_
 refine ax rfl rfl rfl rfl ?_
 refine au (aI rfl rfl) rfl rfl ?_
 refine au (ap rfl) rfl rfl ?_
 refine ax rfl rfl rfl rfl ?_
 refine ax rfl rfl rfl rfl ?_
 refine ax rfl rfl rfl rfl ?_
 refine ax rfl rfl rfl rfl ?_
 refine au (aI rfl rfl) rfl rfl ?_
 refine au (ao rfl) rfl rfl ?_
 refine ah ?_
 refine aq ?_
 refine aQ ?_
 refine aV (ts := [2]) rfl rfl rfl (fun w hw => ?_)
 refine ⟨?_, hw.base⟩
 show Ending.returned (.bool _) = _
 congr 2
 rw [Bool.eq_iff_iff]
 simp only [ek, Bool.and_eq_true, decide_eq_true_eq]
 focus first | omega | (simp; omega) | (trace_state; fail)
 refine au (ap rfl) rfl rfl ?_
 refine ax rfl rfl rfl rfl ?_
 refine ax rfl rfl rfl rfl ?_
 refine ax rfl rfl rfl rfl ?_
 refine ax rfl rfl rfl rfl ?_
 refine au (aI rfl rfl) rfl rfl ?_
 refine au (ap rfl) rfl rfl ?_
 refine ax rfl rfl rfl rfl ?_
 refine ax rfl rfl rfl rfl ?_
 refine ax rfl rfl rfl rfl ?_
 refine ax rfl rfl rfl rfl ?_
 refine au (aI rfl rfl) rfl rfl ?_
 refine au (ap rfl) rfl rfl ?_
 refine ax rfl rfl rfl rfl ?_
 refine ax rfl rfl rfl rfl ?_
 refine ax rfl rfl rfl rfl ?_
 refine ax rfl rfl rfl rfl ?_
 refine au (aI rfl rfl) rfl rfl ?_
 refine au (ap rfl) rfl rfl ?_
 refine ax rfl rfl rfl rfl ?_
 refine ax rfl rfl rfl rfl ?_
 refine ax rfl rfl rfl rfl ?_
 refine ax rfl rfl rfl rfl ?_
 refine au (aI rfl rfl) rfl rfl ?_
 refine au (ao rfl) rfl rfl ?_
 refine ah ?_
 refine aq ?_
 refine aQ ?_
 refine aV (ts := [2]) rfl rfl rfl (fun w hw => ?_)
 refine ⟨?_, hw.base⟩
 show Ending.returned (.bool _) = _
 congr 2
 rw [Bool.eq_iff_iff]
 simp only [ek, Bool.and_eq_true, decide_eq_true_eq]
 focus first | omega | (simp; omega) | (trace_state; fail)

/-- None twice, each may be: so far. -/
theorem ad_step {l : List Ad} {k : Nat} (h : ∀ i, i < k → adOk l i) (hc : cz (l.getD k eZ) = 0) (hn : ∀ j, j < k → l.getD k eZ ≠ l.getD j eZ) : ∀ i, i < k + 1 → adOk l i := eH h ⟨hc, hn⟩
def adsR (l : List Ad) : Bool := decide (∀ i, i < l.length → adOk l i)
theorem adsR_bad {l : List Ad} {k : Nat} (hk : k < l.length) (h : ¬ adOk l k) : adsR l = false := decide_eq_false (fun h2 => h (h2 k hk))

set_option maxRecDepth 100000 in
theorem c_ref16_addrs (l : List Ad) (A : Option Addr) (c : Nat) (hl : l.length ≤ 1000000000000) (hw0 : ∀ a ∈ l, 0 ≤ a.lo) : RC Tryz.prog 195 #[.slice A l.length c] [Ch.rd A 3 dT l] (α := Unit) (fun _ => .bool (adsR l)) (fun _ => []) := by
 refine bx (args := [.slice A l.length c]) 31 Tryz.func195 rfl rfl rfl (fun w0 => ?_)
 refine ar ?_
 refine ai ?_
 refine au (ao rfl) rfl rfl ?_
 refine ah ?_
 refine aq ?_
 refine ar ?_
 refine ar ?_
 refine ai ?_
 refine au (ao rfl) rfl rfl ?_
 refine ah ?_
 refine aq ?_
 refine aW ?_
 refine bV (σ := Nat) [2, 3, 4, 5, 6, 7, 8, 9, 10, 11, 12, 13, 14, 15, 16, 17, 18, 19, 20, 21, 22, 23, 24, 25, 26, 27, 28, 29, 30] (fun k => k ≤ l.length ∧ ∀ i, i < k → adOk l i) (fun k => l.length - k) (fun k => [(3, .int .i64 k)]) (0) ?_ ⟨rfl, trivial⟩ (fun k hI => ?_)
 exact ⟨Nat.zero_le _, nofun⟩
 have hK := hI
 refine ar ?_
 refine ar ?_
 refine ai ?_
 refine au (ap rfl) rfl rfl ?_
 refine au (ap rfl) rfl rfl ?_
 refine au (bg Tryz.underlying30 rfl) rfl rfl ?_
 refine au (bI rfl rfl) rfl rfl ?_
 refine aB (t := 8) rfl (fun h2_3 => ?_) (fun h2_3 => ?_)
 refine ah ?_
 refine aq ?_
 refine aA rfl ?_
 refine aS ?_
 refine aq ?_
 refine ar ?_
 refine aW ?_
 refine ar ?_
 refine ar ?_
 refine ai ?_
 refine au (ao rfl) rfl rfl ?_
 refine ah ?_
 refine aq ?_
 refine aW ?_
 refine bV (σ := Nat) [2, 4, 11, 12, 13, 14, 15, 16, 17, 18, 19, 20, 21, 22, 23, 24] (fun j => j ≤ k ∧ ∀ i, i < j → l.getD k eZ ≠ l.getD i eZ) (fun j => k - j) (fun j => [(4, .int .i64 j)]) (0) ?_ ⟨rfl, trivial⟩ (fun j hI => ?_)
 exact ⟨Nat.zero_le _, nofun⟩
 have hJ := hI
 refine ar ?_
 refine ar ?_
 refine ai ?_
 refine au (ap rfl) rfl rfl ?_
 refine au (ap rfl) rfl rfl ?_
 refine au (bI rfl rfl) rfl rfl ?_
 refine aB (t := 13) rfl (fun h5_2 => ?_) (fun h5_2 => ?_)
 refine ah ?_
 refine aq ?_
 refine aA rfl ?_
 refine aS ?_
 refine aq ?_
 refine ar ?_
 refine aW ?_
 refine ar ?_
 refine dz 9 rfl cu ?_
 refine aF (i := 0) rfl aj (ap rfl) aE aE rfl (aa (ae (aa (ak (ae (aa (ae (aa (ak (ae (aa av))))))))))) (by kernel_rfl) rfl ?_
 refine aF (i := 1) rfl aj (ap rfl) aE aE rfl (aa (ae (aa (ak (ae (aa (ae (aa (ak (ae (aa av))))))))))) (by kernel_rfl) rfl ?_
 refine aF (i := 2) rfl aj (bz  Tryz.underlying30 bu rfl rfl (bE 0 rfl) rfl (by omega)) aE aE rfl (aa (ae (aa (ak (ae (aa (ae (aa (ak (ae (aa av))))))))))) (by kernel_rfl) rfl ?_
 refine aF (i := 3) rfl aj (bW dI eZ bu rfl (bE 0 rfl) (by omega) rfl rfl rfl) aE aE rfl (aa (ae (aa (ak (ae (aa (ae (aa (ak (ae (aa av))))))))))) (by kernel_rfl) rfl ?_
 refine aF (i := 4) rfl aj (ap rfl) aE aE rfl (aa (ae (aa (ak (ae (aa (ae (aa (ak (ae (aa av))))))))))) (by kernel_rfl) rfl ?_
 refine aF (i := 5) rfl aj (ap rfl) aE aE rfl (aa (ae (aa (ak (ae (aa (ae (aa (ak (ae (aa av))))))))))) (by kernel_rfl) rfl ?_
 refine aF (i := 6) rfl aj (bz  Tryz.underlying30 bu rfl rfl (bE 0 rfl) rfl (by omega)) aE aE rfl (aa (ae (aa (ak (ae (aa (ae (aa (ak (ae (aa av))))))))))) (by kernel_rfl) rfl ?_
 refine aF (i := 7) rfl aj (bW dI eZ bu rfl (bE 0 rfl) (by omega) rfl rfl rfl) aE aE rfl (aa (ae (aa (ak (ae (aa (ae (aa (ak (ae (aa av))))))))))) (by kernel_rfl) rfl ?_
 refine aF (i := 8) rfl aj (y_eqst (by kernel_rfl) rfl rfl (jg _ _) rfl) aE aE rfl (aa (ae (aa (ak (ae (aa (ae (aa (ak (ae (aa av))))))))))) (by kernel_rfl) rfl ?_
 refine dn (t := 24) rfl (fun h7_8 => ?_) (fun h7_8 => ?_)
 refine cp (by kernel_rfl) ?_
 refine aq ?_
 refine aA rfl ?_
 refine ar ?_
 refine ai ?_
 refine au (ao rfl) rfl rfl ?_
 refine ah ?_
 refine aq ?_
 refine aQ ?_
 refine aK ?_
 refine ay ?_
 refine a9 ?_
 refine aK ?_
 refine ay ?_
 refine aK ?_
 refine ay ?_
 refine a9 ?_
 refine aK ?_
 refine ay ?_
 refine aV (ts := [2]) rfl rfl rfl (fun w hw => ?_)
 have hb : adsR l = false := adsR_bad (k := k) (by omega) (fun h => h.2 j (by omega) h7_8)
 exact ⟨(), by rw [hb]; rfl, hw.base, hw.toNews⟩
 refine cp (by kernel_rfl) ?_
 refine aq ?_
 refine aC rfl ?_
 refine aS ?_
 refine bo ?_
 refine aq ?_
 refine ai ?_
 refine au (ap rfl) rfl rfl ?_
 refine au (bl rfl rfl (by omega) (by omega)) rfl rfl ?_
 refine au (ao rfl) rfl rfl ?_
 refine ah ?_
 refine bq (j + 1) ?_ ?_ ⟨rfl, trivial⟩ (by repeat (first | exact trivial | refine ⟨rfl, ?_⟩)) aE
 exact ⟨by omega, eH hJ.2 h7_8⟩
 omega
 refine ah ?_
 refine aq ?_
 refine aC rfl ?_
 refine bw ?_
 refine aY ?_
 refine aZ ?_
 refine a7 ?_
 refine aq ?_
 refine ar ?_
 refine ai ?_
 refine au (ap rfl) rfl rfl ?_
 refine au (ap rfl) rfl rfl ?_
 refine au (bz  Tryz.underlying30 bu rfl rfl (bE 0 rfl) rfl (by omega)) rfl rfl ?_
 refine au (bW dI eZ bu rfl (bE 0 rfl) (by omega) rfl rfl rfl) rfl rfl ?_
 refine bb rfl ent_79 (gw _ (hw0 _ (jN (by omega)))) rfl ?_
 refine au (bX rfl rfl) rfl rfl ?_
 refine aB (t := 30) rfl (fun h9_5 => ?_) (fun h9_5 => ?_)
 refine ah ?_
 refine aq ?_
 refine aA rfl ?_
 refine ar ?_
 refine ai ?_
 refine au (ao rfl) rfl rfl ?_
 refine ah ?_
 refine aq ?_
 refine aQ ?_
 refine aK ?_
 refine ay ?_
 refine a9 ?_
 refine aK ?_
 refine ay ?_
 refine aV (ts := [2]) rfl rfl rfl (fun w hw => ?_)
 have hb : adsR l = false := adsR_bad (k := k) (by omega) (fun h => h9_5 h.1)
 exact ⟨(), by rw [hb]; rfl, hw.base, hw.toNews⟩
 refine ah ?_
 refine aq ?_
 refine aC rfl ?_
 refine aS ?_
 refine bo ?_
 refine aq ?_
 refine ai ?_
 refine au (ap rfl) rfl rfl ?_
 refine au (bl rfl rfl (by omega) (by omega)) rfl rfl ?_
 refine au (ao rfl) rfl rfl ?_
 refine ah ?_
 refine bq (k + 1) ?_ ?_ ⟨rfl, trivial⟩ (by repeat (first | exact trivial | refine ⟨rfl, ?_⟩)) aE
 exact ⟨by omega, ad_step hK.2 (by omega) (fun j2 hj2 => hJ.2 j2 (by omega))⟩
 omega
 refine ah ?_
 refine aq ?_
 refine aC rfl ?_
 refine bw ?_
 refine aY ?_
 refine aZ ?_
 refine a7 ?_
 refine aq ?_
 refine ar ?_
 refine ai ?_
 refine au (ao rfl) rfl rfl ?_
 refine ah ?_
 refine aq ?_
 refine aQ ?_
 refine aV (ts := [2]) rfl rfl rfl (fun w hw => ?_)
 obtain rfl : k = l.length := by omega
 exact ⟨(), by rw [adsR, decide_eq_true hI.2]; rfl, hw.base, hw.toNews⟩

theorem wild_iff (n : bf) : [1, 42] <+: n ↔ 1 < n.length ∧ bt n 0 = 1 ∧ bt n 1 = 42 := by
  constructor
  · rintro ⟨t, rfl⟩
    exact ⟨by simp, rfl, rfl⟩
  · rintro ⟨h1, h2, h3⟩
    match n, h1, h2, h3 with
    | a :: b :: r, _, h2, h3 =>
      have ha : a = 1 := UInt8.toNat_inj.1 h2
      have hb : b = 42 := UInt8.toNat_inj.1 h3
      exact ⟨r, by rw [ha, hb]; rfl⟩
theorem gt {n : bf} (h : ¬ (a8 n = 0 ∧ 1 < n.length ∧ bt n 0 = 1 ∧ bt n 1 = 42)) : fN n = false := by
  rw [fN, Bool.and_eq_false_iff, decide_eq_false_iff_not, decide_eq_false_iff_not, wild_iff]
  exact Decidable.not_and_iff_or_not.1 h
theorem jp {n : bf} (h : a8 n = 0 ∧ 1 < n.length ∧ bt n 0 = 1 ∧ bt n 1 = 42) : fN n = true := by
  rw [fN, decide_eq_true h.1, decide_eq_true ((wild_iff n).2 h.2)]; rfl

theorem jB (n : bf) : dQ Tryz.prog 151 #[.string (ba n)] (.bool (fN n)) := by
 intro w0
 refine bH (ok0 := no) (S := []) (args := [.string (ba n)]) 21 Tryz.func151 rfl rfl rfl (by simp) (by simp) ?_
 refine ar ?_
 refine ai ?_
 refine au (ao rfl) rfl rfl ?_
 refine ah ?_
 refine aq ?_
 refine ar ?_
 refine ai ?_
 refine au (ap rfl) rfl rfl ?_
 refine bb rfl fB (da _) rfl ?_
 refine au (dk rfl rfl) rfl rfl ?_
 refine aB (t := 5) rfl (fun h1_2 => ?_) (fun h1_2 => ?_)
 refine au (ap rfl) rfl rfl ?_
 refine az rfl rfl ?_
 refine au (ap rfl) rfl rfl ?_
 refine az rfl rfl ?_
 refine au (cL Tryz.underlying26 rfl) rfl rfl ?_
 refine az rfl rfl ?_
 refine au (c9 rfl rfl) rfl rfl ?_
 refine aB (t := 9) rfl (fun h1_6 => ?_) (fun h1_6 => ?_)
 refine au (aG rfl rfl) rfl rfl ?_
 refine au (ap rfl) rfl rfl ?_
 refine az rfl rfl ?_
 refine au (ap rfl) rfl rfl ?_
 refine az rfl rfl ?_
 refine au (eG (k := 0) Tryz.underlying26 rfl rfl rfl (by omega)) rfl rfl ?_
 refine az rfl rfl ?_
 refine au (dk rfl rfl) rfl rfl ?_
 refine aB (t := 14) rfl (fun h1_11 => ?_) (fun h1_11 => ?_)
 refine au (aG rfl rfl) rfl rfl ?_
 refine au (ap rfl) rfl rfl ?_
 refine az rfl rfl ?_
 refine au (ap rfl) rfl rfl ?_
 refine az rfl rfl ?_
 refine au (eG (k := 1) Tryz.underlying26 rfl rfl rfl (by omega)) rfl rfl ?_
 refine az rfl rfl ?_
 refine au (dk rfl rfl) rfl rfl ?_
 refine au (aG rfl rfl) rfl rfl ?_
 refine au (ao rfl) rfl rfl ?_
 refine ah ?_
 refine aq ?_
 refine aQ ?_
 refine aV (ts := [2]) rfl rfl rfl (fun w hw => ?_)
 refine ⟨?_, hw.base⟩
 show Ending.returned (.bool _) = _
 congr 2
 focus first
   | exact (gt (by omega)).symm
   | (by_cases h9 : bt n 1 = 42
      · rw [jp (by omega), decide_eq_true (by omega)]
      · rw [gt (by omega), decide_eq_false (by omega)])
   | (trace_state; fail)
 refine au (aG rfl rfl) rfl rfl ?_
 refine au (ap rfl) rfl rfl ?_
 refine ax rfl rfl rfl rfl ?_
 refine ax rfl rfl rfl rfl ?_
 refine ax rfl rfl rfl rfl ?_
 refine au (aI rfl rfl) rfl rfl ?_
 refine au (ao rfl) rfl rfl ?_
 refine ah ?_
 refine aq ?_
 refine aQ ?_
 refine aV (ts := [2]) rfl rfl rfl (fun w hw => ?_)
 refine ⟨?_, hw.base⟩
 show Ending.returned (.bool _) = _
 congr 2
 focus first
   | exact (gt (by omega)).symm
   | (by_cases h9 : bt n 1 = 42
      · rw [jp (by omega), decide_eq_true (by omega)]
      · rw [gt (by omega), decide_eq_false (by omega)])
   | (trace_state; fail)
 refine au (aG rfl rfl) rfl rfl ?_
 refine au (ap rfl) rfl rfl ?_
 refine ax rfl rfl rfl rfl ?_
 refine ax rfl rfl rfl rfl ?_
 refine ax rfl rfl rfl rfl ?_
 refine au (aI rfl rfl) rfl rfl ?_
 refine au (ap rfl) rfl rfl ?_
 refine ax rfl rfl rfl rfl ?_
 refine ax rfl rfl rfl rfl ?_
 refine ax rfl rfl rfl rfl ?_
 refine au (aI rfl rfl) rfl rfl ?_
 refine au (ao rfl) rfl rfl ?_
 refine ah ?_
 refine aq ?_
 refine aQ ?_
 refine aV (ts := [2]) rfl rfl rfl (fun w hw => ?_)
 refine ⟨?_, hw.base⟩
 show Ending.returned (.bool _) = _
 congr 2
 focus first
   | exact (gt (by omega)).symm
   | (by_cases h9 : bt n 1 = 42
      · rw [jp (by omega), decide_eq_true (by omega)]
      · rw [gt (by omega), decide_eq_false (by omega)])
   | (trace_state; fail)
 refine au (ap rfl) rfl rfl ?_
 refine ax rfl rfl rfl rfl ?_
 refine ax rfl rfl rfl rfl ?_
 refine ax rfl rfl rfl rfl ?_
 refine au (aI rfl rfl) rfl rfl ?_
 refine au (ap rfl) rfl rfl ?_
 refine ax rfl rfl rfl rfl ?_
 refine ax rfl rfl rfl rfl ?_
 refine ax rfl rfl rfl rfl ?_
 refine au (aI rfl rfl) rfl rfl ?_
 refine au (ap rfl) rfl rfl ?_
 refine ax rfl rfl rfl rfl ?_
 refine ax rfl rfl rfl rfl ?_
 refine ax rfl rfl rfl rfl ?_
 refine au (aI rfl rfl) rfl rfl ?_
 refine au (ao rfl) rfl rfl ?_
 refine ah ?_
 refine aq ?_
 refine aQ ?_
 refine aV (ts := [2]) rfl rfl rfl (fun w hw => ?_)
 refine ⟨?_, hw.base⟩
 show Ending.returned (.bool _) = _
 congr 2
 focus first
   | exact (gt (by omega)).symm
   | (by_cases h9 : bt n 1 = 42
      · rw [jp (by omega), decide_eq_true (by omega)]
      · rw [gt (by omega), decide_eq_false (by omega)])
   | (trace_state; fail)

theorem bS {e : En} (h1 : ¬ a8 e.host ≠ 0) (h : e.host = [] ∨ 2147483647 < e.ttl ∨ cE e.ports = false ∨ aT e = false) : cJ e = 2 := by rw [cJ, if_neg h1, if_pos h]
theorem ent_good {e : En} (h1 : ¬ a8 e.host ≠ 0) (h2 : ¬ e.host = []) (h3 : ¬ 2147483647 < e.ttl) (h4 : cE e.ports = true) (h5 : aT e = true) : cJ e = 0 := by
  rw [cJ, if_neg h1, if_neg (by rw [h4, h5]; simp [h2, h3])]
theorem cR {l : List Int} (h : ∀ i, i < l.length → ir l i) (h8 : l.length ≤ 8) : cE l = true := by rw [gP h, decide_eq_true h8]
theorem eR {l : List Int} (h8 : ¬ l.length ≤ 8) : cE l = false := by rw [cE, decide_eq_false h8, Bool.and_false]
theorem aU (l : List Ad) : jS l = (adsR l && decide (1 ≤ l.length) && decide (l.length ≤ 8)) := rfl

set_option maxRecDepth 100000 in
theorem fA (e : En) (A B : Option Addr) (c d : Nat) (hwa : ∀ a ∈ e.addrs, 0 ≤ a.lo) (hla : e.addrs.length ≤ 1000000000000) (hlp : e.ports.length ≤ 1000000000000) (hk : -9223372036854775808 ≤ e.kind ∧ e.kind ≤ 9223372036854775807) : RC Tryz.prog 133 #[.agg (enC e A B c d).toArray] [Ch.rd A 3 dT e.addrs, Ch.rd B 1 eX e.ports] (α := Unit) (fun _ => .int .i64 (cJ e)) (fun _ => []) := by
 refine bx (args := [.agg (enC e A B c d).toArray]) 148 Tryz.func133 rfl rfl rfl (fun w0 => ?_)
 refine ar ?_
 refine ai ?_
 refine cv rfl rfl rfl (fun b1 => ?_)
 refine au (ao rfl) rfl rfl ?_
 refine ah ?_
 refine aq ?_
 refine ar ?_
 refine ai ?_
 refine au (aD cQ rfl) rfl rfl ?_
 refine au (aM 0 bN rfl rfl rfl) rfl rfl ?_
 refine bb rfl fB (da _) rfl ?_
 refine au (ao rfl) rfl rfl ?_
 refine ah ?_
 refine aq ?_
 refine ar ?_
 refine ar ?_
 refine ai ?_
 refine au (ap rfl) rfl rfl ?_
 refine au (bX rfl rfl) rfl rfl ?_
 refine aB (t := 10) rfl (fun h2_1 => ?_) (fun h2_1 => ?_)
 refine ah ?_
 refine aq ?_
 refine aA rfl ?_
 refine ar ?_
 refine ai ?_
 refine au (ap rfl) rfl rfl ?_
 refine au (ao rfl) rfl rfl ?_
 refine ah ?_
 refine aq ?_
 refine aQ ?_
 refine ay ?_
 refine aV (ts := [2]) rfl rfl rfl (fun w hw => ?_)
 focus first
   | exact ⟨(), by rw [cJ, if_pos h2_1]; rfl, hw.base, (hw.weak (List.nil_sublist _) (fun s hs => hs)).toNews⟩
   | exact ⟨(), by rw [bS h2_1 (.inl h4_2)]; rfl, hw.base, (hw.weak (List.nil_sublist _) (fun s hs => hs)).toNews⟩
   | exact ⟨(), by rw [bS h2_1 (.inr (.inl h4_6))]; rfl, hw.base, (hw.weak (List.nil_sublist _) (fun s hs => hs)).toNews⟩
   | exact ⟨(), by rw [bS h2_1 (.inr (.inr (.inl (eR (by omega)))))]; rfl, hw.base, (hw.weak (List.nil_sublist _) (fun s hs => hs)).toNews⟩
   | exact ⟨(), by rw [bS h2_1 (.inr (.inr (.inl (dS (k := k) (by omega) (fun h => by have q1 := h.1; have q2 := h.2.1; have q3 := h.2.2; omega)))))]; rfl, hw.base, (hw.weak (List.nil_sublist _) (fun s hs => hs)).toNews⟩
   | (trace_state; fail)
 refine ah ?_
 refine aq ?_
 refine aC rfl ?_
 refine aS ?_
 refine aq ?_
 refine ar ?_
 refine ar ?_
 refine ai ?_
 refine au (aD cQ rfl) rfl rfl ?_
 refine au (aM 0 bN rfl rfl rfl) rfl rfl ?_
 refine au (d8 rfl rfl) rfl rfl ?_
 refine aB (t := 14) rfl (fun h4_2 => ?_) (fun h4_2 => ?_)
 refine au (ap rfl) rfl rfl ?_
 refine ax rfl rfl rfl rfl ?_
 refine ax rfl rfl rfl rfl ?_
 refine ax rfl rfl rfl rfl ?_
 refine au (aG rfl rfl) rfl rfl ?_
 refine au (ap rfl) rfl rfl ?_
 refine ax rfl rfl rfl rfl ?_
 refine ax rfl rfl rfl rfl ?_
 refine ax rfl rfl rfl rfl ?_
 refine ax rfl rfl rfl rfl ?_
 refine au (aG rfl rfl) rfl rfl ?_
 refine ah ?_
 refine aq ?_
 refine aA rfl ?_
 refine ar ?_
 refine ai ?_
 refine au (ao rfl) rfl rfl ?_
 refine ah ?_
 refine aq ?_
 refine aQ ?_
 refine ay ?_
 refine aV (ts := [2]) rfl rfl rfl (fun w hw => ?_)
 focus first
   | exact ⟨(), by rw [cJ, if_pos h2_1]; rfl, hw.base, (hw.weak (List.nil_sublist _) (fun s hs => hs)).toNews⟩
   | exact ⟨(), by rw [bS h2_1 (.inl h4_2)]; rfl, hw.base, (hw.weak (List.nil_sublist _) (fun s hs => hs)).toNews⟩
   | exact ⟨(), by rw [bS h2_1 (.inr (.inl h4_6))]; rfl, hw.base, (hw.weak (List.nil_sublist _) (fun s hs => hs)).toNews⟩
   | exact ⟨(), by rw [bS h2_1 (.inr (.inr (.inl (eR (by omega)))))]; rfl, hw.base, (hw.weak (List.nil_sublist _) (fun s hs => hs)).toNews⟩
   | exact ⟨(), by rw [bS h2_1 (.inr (.inr (.inl (dS (k := k) (by omega) (fun h => by have q1 := h.1; have q2 := h.2.1; have q3 := h.2.2; omega)))))]; rfl, hw.base, (hw.weak (List.nil_sublist _) (fun s hs => hs)).toNews⟩
   | (trace_state; fail)
 refine au (ap rfl) rfl rfl ?_
 refine az rfl rfl ?_
 refine au (aD fa_34_6 rfl) rfl rfl ?_
 refine az rfl rfl ?_
 refine au (aM 0 ty_32 rfl rfl rfl) rfl rfl ?_
 refine az rfl rfl ?_
 refine au (c9 rfl rfl) rfl rfl ?_
 refine aB (t := 18) rfl (fun h4_6 => ?_) (fun h4_6 => ?_)
 refine au (aI rfl rfl) rfl rfl ?_
 refine au (ap rfl) rfl rfl ?_
 refine ax rfl rfl rfl rfl ?_
 refine ax rfl rfl rfl rfl ?_
 refine ax rfl rfl rfl rfl ?_
 refine ax rfl rfl rfl rfl ?_
 refine au (aG rfl rfl) rfl rfl ?_
 refine ah ?_
 refine aq ?_
 refine aA rfl ?_
 refine ar ?_
 refine ai ?_
 refine au (ao rfl) rfl rfl ?_
 refine ah ?_
 refine aq ?_
 refine aQ ?_
 refine ay ?_
 refine aV (ts := [2]) rfl rfl rfl (fun w hw => ?_)
 focus first
   | exact ⟨(), by rw [cJ, if_pos h2_1]; rfl, hw.base, (hw.weak (List.nil_sublist _) (fun s hs => hs)).toNews⟩
   | exact ⟨(), by rw [bS h2_1 (.inl h4_2)]; rfl, hw.base, (hw.weak (List.nil_sublist _) (fun s hs => hs)).toNews⟩
   | exact ⟨(), by rw [bS h2_1 (.inr (.inl h4_6))]; rfl, hw.base, (hw.weak (List.nil_sublist _) (fun s hs => hs)).toNews⟩
   | exact ⟨(), by rw [bS h2_1 (.inr (.inr (.inl (eR (by omega)))))]; rfl, hw.base, (hw.weak (List.nil_sublist _) (fun s hs => hs)).toNews⟩
   | exact ⟨(), by rw [bS h2_1 (.inr (.inr (.inl (dS (k := k) (by omega) (fun h => by have q1 := h.1; have q2 := h.2.1; have q3 := h.2.2; omega)))))]; rfl, hw.base, (hw.weak (List.nil_sublist _) (fun s hs => hs)).toNews⟩
   | (trace_state; fail)
 refine au (aI rfl rfl) rfl rfl ?_
 refine au (ap rfl) rfl rfl ?_
 refine az rfl rfl ?_
 refine au (aD dq rfl) rfl rfl ?_
 refine az rfl rfl ?_
 refine au (aM 0 eP rfl rfl rfl) rfl rfl ?_
 refine az rfl rfl ?_
 refine au (bg Tryz.underlying31 rfl) rfl rfl ?_
 refine az rfl rfl ?_
 refine au (c9 rfl rfl) rfl rfl ?_
 refine aB (t := 24) rfl (fun h4_12 => ?_) (fun h4_12 => ?_)
 refine au (aI rfl rfl) rfl rfl ?_
 refine ah ?_
 refine aq ?_
 refine aA rfl ?_
 refine ar ?_
 refine ai ?_
 refine au (ao rfl) rfl rfl ?_
 refine ah ?_
 refine aq ?_
 refine aQ ?_
 refine ay ?_
 refine aV (ts := [2]) rfl rfl rfl (fun w hw => ?_)
 focus first
   | exact ⟨(), by rw [cJ, if_pos h2_1]; rfl, hw.base, (hw.weak (List.nil_sublist _) (fun s hs => hs)).toNews⟩
   | exact ⟨(), by rw [bS h2_1 (.inl h4_2)]; rfl, hw.base, (hw.weak (List.nil_sublist _) (fun s hs => hs)).toNews⟩
   | exact ⟨(), by rw [bS h2_1 (.inr (.inl h4_6))]; rfl, hw.base, (hw.weak (List.nil_sublist _) (fun s hs => hs)).toNews⟩
   | exact ⟨(), by rw [bS h2_1 (.inr (.inr (.inl (eR (by omega)))))]; rfl, hw.base, (hw.weak (List.nil_sublist _) (fun s hs => hs)).toNews⟩
   | exact ⟨(), by rw [bS h2_1 (.inr (.inr (.inl (dS (k := k) (by omega) (fun h => by have q1 := h.1; have q2 := h.2.1; have q3 := h.2.2; omega)))))]; rfl, hw.base, (hw.weak (List.nil_sublist _) (fun s hs => hs)).toNews⟩
   | (trace_state; fail)
 refine au (aI rfl rfl) rfl rfl ?_
 refine ah ?_
 refine aq ?_
 refine aC rfl ?_
 refine aS ?_
 refine aq ?_
 refine ar ?_
 refine ar ?_
 refine ai ?_
 refine au (ao rfl) rfl rfl ?_
 refine ah ?_
 refine aq ?_
 refine aW ?_
 refine bV (σ := Nat) [2, 4, 26, 27, 28, 29, 30, 31, 32, 33, 34, 35, 36, 37, 38, 39, 40, 41, 42, 43, 44, 45, 46, 47, 48, 49, 50, 51, 52, 53, 54, 55, 56, 57, 58, 59, 60, 61, 62, 63, 64] (fun k => k ≤ e.ports.length ∧ ∀ i, i < k → ir e.ports i) (fun k => e.ports.length - k) (fun k => [(4, .int .i64 k)]) (0) ?_ ⟨rfl, trivial⟩ (fun k hI => ?_)
 exact ⟨Nat.zero_le _, nofun⟩
 refine ar ?_
 refine ar ?_
 refine ai ?_
 refine au (ap rfl) rfl rfl ?_
 refine au (aD dq rfl) rfl rfl ?_
 refine au (aM 0 eP rfl rfl rfl) rfl rfl ?_
 refine au (bg Tryz.underlying31 rfl) rfl rfl ?_
 refine au (bI rfl rfl) rfl rfl ?_
 refine aB (t := 30) rfl (fun h7_4 => ?_) (fun h7_4 => ?_)
 refine ah ?_
 refine aq ?_
 refine aA rfl ?_
 refine aS ?_
 refine aq ?_
 refine ar ?_
 refine aW ?_
 refine ar ?_
 refine dz 32 rfl cu ?_
 refine aF (i := 0) rfl aj (aD dq rfl) aE aE rfl (aa (ae (aa (ak (ae (aa av)))))) (by kernel_rfl) rfl ?_
 refine aF (i := 1) rfl aj (aM 0 eP rfl rfl rfl) aE aE rfl (aa (ae (aa (ak (ae (aa av)))))) (by kernel_rfl) rfl ?_
 refine aF (i := 2) rfl aj (ap rfl) aE aE rfl (aa (ae (aa (ak (ae (aa av)))))) (by kernel_rfl) rfl ?_
 refine aF (i := 3) rfl aj (bz  Tryz.underlying31 de rfl rfl (bE 1 rfl) rfl (by omega)) aE aE rfl (aa (ae (aa (ak (ae (aa av)))))) (by kernel_rfl) rfl ?_
 refine aF (i := 4) rfl aj (cf ga (0 : Int) de rfl (bE 1 rfl) (by omega) rfl rfl) aE aE rfl (aa (ae (aa (ak (ae (aa av)))))) (by kernel_rfl) rfl ?_
 refine aF (i := 5) rfl aj (bI rfl rfl) aE aE rfl (aa (ae (aa (ak (ae (aa av)))))) (by kernel_rfl) rfl ?_
 refine dn (t := 38) rfl (fun h9_5 => ?_) (fun h9_5 => ?_)
 refine aF (i := 6) rfl aj (ap rfl) aE aE rfl (aa (ae (aa (ak (ae (aa av)))))) (by kernel_rfl) rfl ?_
 refine cc (i := 7) rfl (aw rfl rfl rfl) aE rfl (aa (ae (aa (ak (ae (aa av)))))) (by kernel_rfl) rfl ?_
 refine cc (i := 8) rfl (aw rfl rfl rfl) aE rfl (aa (ae (aa (ak (ae (aa av)))))) (by kernel_rfl) rfl ?_
 refine cc (i := 9) rfl (aw rfl rfl rfl) aE rfl (aa (ae (aa (ak (ae (aa av)))))) (by kernel_rfl) rfl ?_
 refine cc (i := 10) rfl (aw rfl rfl rfl) aE rfl (aa (ae (aa (ak (ae (aa av)))))) (by kernel_rfl) rfl ?_
 refine cc (i := 11) rfl (aw rfl rfl rfl) aE rfl (aa (ae (aa (ak (ae (aa av)))))) (by kernel_rfl) rfl ?_
 refine cc (i := 12) rfl (aw rfl rfl rfl) aE rfl (aa (ae (aa (ak (ae (aa av)))))) (by kernel_rfl) rfl ?_
 refine aF (i := 13) rfl aj (aG rfl rfl) aE aE rfl (aa (ae (aa (ak (ae (aa av)))))) (by kernel_rfl) rfl ?_
 refine aF (i := 14) rfl aj (ap rfl) aE aE rfl (aa (ae (aa (ak (ae (aa av)))))) (by kernel_rfl) rfl ?_
 refine cc (i := 15) rfl (aw rfl rfl rfl) aE rfl (aa (ae (aa (ak (ae (aa av)))))) (by kernel_rfl) rfl ?_
 refine cc (i := 16) rfl (aw rfl rfl rfl) aE rfl (aa (ae (aa (ak (ae (aa av)))))) (by kernel_rfl) rfl ?_
 refine cc (i := 17) rfl (aw rfl rfl rfl) aE rfl (aa (ae (aa (ak (ae (aa av)))))) (by kernel_rfl) rfl ?_
 refine cc (i := 18) rfl (cg rfl rfl) aE rfl (aa (ae (aa (ak (ae (aa av)))))) (by kernel_rfl) rfl ?_
 refine cc (i := 19) rfl (cg rfl rfl) aE rfl (aa (ae (aa (ak (ae (aa av)))))) (by kernel_rfl) rfl ?_
 refine cc (i := 20) rfl (cg rfl rfl) aE rfl (aa (ae (aa (ak (ae (aa av)))))) (by kernel_rfl) rfl ?_
 refine cc (i := 21) rfl (cg rfl rfl) aE rfl (aa (ae (aa (ak (ae (aa av)))))) (by kernel_rfl) rfl ?_
 refine cc (i := 22) rfl (cg rfl rfl) aE rfl (aa (ae (aa (ak (ae (aa av)))))) (by kernel_rfl) rfl ?_
 refine cc (i := 23) rfl (cg rfl rfl) aE rfl (aa (ae (aa (ak (ae (aa av)))))) (by kernel_rfl) rfl ?_
 refine cc (i := 24) rfl (cg rfl rfl) aE rfl (aa (ae (aa (ak (ae (aa av)))))) (by kernel_rfl) rfl ?_
 refine cc (i := 25) rfl (cg rfl rfl) aE rfl (aa (ae (aa (ak (ae (aa av)))))) (by kernel_rfl) rfl ?_
 refine cc (i := 26) rfl (cg rfl rfl) aE rfl (aa (ae (aa (ak (ae (aa av)))))) (by kernel_rfl) rfl ?_
 refine cc (i := 27) rfl (cg rfl rfl) aE rfl (aa (ae (aa (ak (ae (aa av)))))) (by kernel_rfl) rfl ?_
 refine cc (i := 28) rfl (cg rfl rfl) aE rfl (aa (ae (aa (ak (ae (aa av)))))) (by kernel_rfl) rfl ?_
 refine cc (i := 29) rfl (cg rfl rfl) aE rfl (aa (ae (aa (ak (ae (aa av)))))) (by kernel_rfl) rfl ?_
 refine cc (i := 30) rfl (aw rfl rfl rfl) aE rfl (aa (ae (aa (ak (ae (aa av)))))) (by kernel_rfl) rfl ?_
 refine aF (i := 31) rfl aj (aG rfl rfl) aE aE rfl (aa (ae (aa (ak (ae (aa av)))))) (by kernel_rfl) rfl ?_
 refine cp (by kernel_rfl) ?_
 refine aq ?_
 refine aA rfl ?_
 refine ar ?_
 refine ai ?_
 refine au (ao rfl) rfl rfl ?_
 refine ah ?_
 refine aq ?_
 refine aQ ?_
 refine aK ?_
 refine ay ?_
 refine a9 ?_
 refine aK ?_
 refine ay ?_
 refine aV (ts := [2]) rfl rfl rfl (fun w hw => ?_)
 focus first
   | exact ⟨(), by rw [cJ, if_pos h2_1]; rfl, hw.base, (hw.weak (List.nil_sublist _) (fun s hs => hs)).toNews⟩
   | exact ⟨(), by rw [bS h2_1 (.inl h4_2)]; rfl, hw.base, (hw.weak (List.nil_sublist _) (fun s hs => hs)).toNews⟩
   | exact ⟨(), by rw [bS h2_1 (.inr (.inl h4_6))]; rfl, hw.base, (hw.weak (List.nil_sublist _) (fun s hs => hs)).toNews⟩
   | exact ⟨(), by rw [bS h2_1 (.inr (.inr (.inl (eR (by omega)))))]; rfl, hw.base, (hw.weak (List.nil_sublist _) (fun s hs => hs)).toNews⟩
   | exact ⟨(), by rw [bS h2_1 (.inr (.inr (.inl (dS (k := k) (by omega) (fun h => by have q1 := h.1; have q2 := h.2.1; have q3 := h.2.2; omega)))))]; rfl, hw.base, (hw.weak (List.nil_sublist _) (fun s hs => hs)).toNews⟩
   | (trace_state; fail)
 refine aF (i := 6) rfl aj (ap rfl) aE aE rfl (aa (ae (aa (ak (ae (aa av)))))) (by kernel_rfl) rfl ?_
 refine aF (i := 7) rfl (aJ rfl rfl) (aD dq rfl) aE aE rfl (aa (ae (aa (ak (ae (aa av)))))) (by kernel_rfl) rfl ?_
 refine aF (i := 8) rfl (aJ rfl rfl) (aM 0 eP rfl rfl rfl) aE aE rfl (aa (ae (aa (ak (ae (aa av)))))) (by kernel_rfl) rfl ?_
 refine aF (i := 9) rfl (aJ rfl rfl) (ap rfl) aE aE rfl (aa (ae (aa (ak (ae (aa av)))))) (by kernel_rfl) rfl ?_
 refine aF (i := 10) rfl (aJ rfl rfl) (bz  Tryz.underlying31 de rfl rfl (bE 1 rfl) rfl (by omega)) aE aE rfl (aa (ae (aa (ak (ae (aa av)))))) (by kernel_rfl) rfl ?_
 refine aF (i := 11) rfl (aJ rfl rfl) (cf ga (0 : Int) de rfl (bE 1 rfl) (by omega) rfl rfl) aE aE rfl (aa (ae (aa (ak (ae (aa av)))))) (by kernel_rfl) rfl ?_
 refine aF (i := 12) rfl (aJ rfl rfl) (c9 rfl rfl) aE aE rfl (aa (ae (aa (ak (ae (aa av)))))) (by kernel_rfl) rfl ?_
 refine dn (t := 45) rfl (fun h9_12 => ?_) (fun h9_12 => ?_)
 refine aF (i := 13) rfl aj (aI rfl rfl) aE aE rfl (aa (ae (aa (ak (ae (aa av)))))) (by kernel_rfl) rfl ?_
 refine aF (i := 14) rfl aj (ap rfl) aE aE rfl (aa (ae (aa (ak (ae (aa av)))))) (by kernel_rfl) rfl ?_
 refine cc (i := 15) rfl (aw rfl rfl rfl) aE rfl (aa (ae (aa (ak (ae (aa av)))))) (by kernel_rfl) rfl ?_
 refine cc (i := 16) rfl (aw rfl rfl rfl) aE rfl (aa (ae (aa (ak (ae (aa av)))))) (by kernel_rfl) rfl ?_
 refine cc (i := 17) rfl (aw rfl rfl rfl) aE rfl (aa (ae (aa (ak (ae (aa av)))))) (by kernel_rfl) rfl ?_
 refine cc (i := 18) rfl (cg rfl rfl) aE rfl (aa (ae (aa (ak (ae (aa av)))))) (by kernel_rfl) rfl ?_
 refine cc (i := 19) rfl (cg rfl rfl) aE rfl (aa (ae (aa (ak (ae (aa av)))))) (by kernel_rfl) rfl ?_
 refine cc (i := 20) rfl (cg rfl rfl) aE rfl (aa (ae (aa (ak (ae (aa av)))))) (by kernel_rfl) rfl ?_
 refine cc (i := 21) rfl (cg rfl rfl) aE rfl (aa (ae (aa (ak (ae (aa av)))))) (by kernel_rfl) rfl ?_
 refine cc (i := 22) rfl (cg rfl rfl) aE rfl (aa (ae (aa (ak (ae (aa av)))))) (by kernel_rfl) rfl ?_
 refine cc (i := 23) rfl (cg rfl rfl) aE rfl (aa (ae (aa (ak (ae (aa av)))))) (by kernel_rfl) rfl ?_
 refine cc (i := 24) rfl (cg rfl rfl) aE rfl (aa (ae (aa (ak (ae (aa av)))))) (by kernel_rfl) rfl ?_
 refine cc (i := 25) rfl (cg rfl rfl) aE rfl (aa (ae (aa (ak (ae (aa av)))))) (by kernel_rfl) rfl ?_
 refine cc (i := 26) rfl (cg rfl rfl) aE rfl (aa (ae (aa (ak (ae (aa av)))))) (by kernel_rfl) rfl ?_
 refine cc (i := 27) rfl (cg rfl rfl) aE rfl (aa (ae (aa (ak (ae (aa av)))))) (by kernel_rfl) rfl ?_
 refine cc (i := 28) rfl (cg rfl rfl) aE rfl (aa (ae (aa (ak (ae (aa av)))))) (by kernel_rfl) rfl ?_
 refine cc (i := 29) rfl (cg rfl rfl) aE rfl (aa (ae (aa (ak (ae (aa av)))))) (by kernel_rfl) rfl ?_
 refine cc (i := 30) rfl (aw rfl rfl rfl) aE rfl (aa (ae (aa (ak (ae (aa av)))))) (by kernel_rfl) rfl ?_
 refine aF (i := 31) rfl aj (aG rfl rfl) aE aE rfl (aa (ae (aa (ak (ae (aa av)))))) (by kernel_rfl) rfl ?_
 refine cp (by kernel_rfl) ?_
 refine aq ?_
 refine aA rfl ?_
 refine ar ?_
 refine ai ?_
 refine au (ao rfl) rfl rfl ?_
 refine ah ?_
 refine aq ?_
 refine aQ ?_
 refine aK ?_
 refine ay ?_
 refine a9 ?_
 refine aK ?_
 refine ay ?_
 refine aV (ts := [2]) rfl rfl rfl (fun w hw => ?_)
 focus first
   | exact ⟨(), by rw [cJ, if_pos h2_1]; rfl, hw.base, (hw.weak (List.nil_sublist _) (fun s hs => hs)).toNews⟩
   | exact ⟨(), by rw [bS h2_1 (.inl h4_2)]; rfl, hw.base, (hw.weak (List.nil_sublist _) (fun s hs => hs)).toNews⟩
   | exact ⟨(), by rw [bS h2_1 (.inr (.inl h4_6))]; rfl, hw.base, (hw.weak (List.nil_sublist _) (fun s hs => hs)).toNews⟩
   | exact ⟨(), by rw [bS h2_1 (.inr (.inr (.inl (eR (by omega)))))]; rfl, hw.base, (hw.weak (List.nil_sublist _) (fun s hs => hs)).toNews⟩
   | exact ⟨(), by rw [bS h2_1 (.inr (.inr (.inl (dS (k := k) (by omega) (fun h => by have q1 := h.1; have q2 := h.2.1; have q3 := h.2.2; omega)))))]; rfl, hw.base, (hw.weak (List.nil_sublist _) (fun s hs => hs)).toNews⟩
   | (trace_state; fail)
 refine aF (i := 13) rfl aj (aI rfl rfl) aE aE rfl (aa (ae (aa (ak (ae (aa av)))))) (by kernel_rfl) rfl ?_
 refine aF (i := 14) rfl aj (ap rfl) aE aE rfl (aa (ae (aa (ak (ae (aa av)))))) (by kernel_rfl) rfl ?_
 refine aF (i := 15) rfl (aJ rfl rfl) (ap rfl) aE aE rfl (aa (ae (aa (ak (ae (aa av)))))) (by kernel_rfl) rfl ?_
 refine aF (i := 16) rfl (aJ rfl rfl) (c9 rfl rfl) aE aE rfl (aa (ae (aa (ak (ae (aa av)))))) (by kernel_rfl) rfl ?_
 refine dn (t := 49) rfl (fun h9_16 => ?_) (fun h9_16 => ?_)
 refine aF (i := 17) rfl (aJ rfl rfl) (ap rfl) aE aE rfl (aa (ae (aa (ak (ae (aa av)))))) (by kernel_rfl) rfl ?_
 refine aF (i := 18) rfl (aJ rfl rfl) (aD dq rfl) aE aE rfl (aa (ae (aa (ak (ae (aa av)))))) (by kernel_rfl) rfl ?_
 refine aF (i := 19) rfl (aJ rfl rfl) (aM 0 eP rfl rfl rfl) aE aE rfl (aa (ae (aa (ak (ae (aa av)))))) (by kernel_rfl) rfl ?_
 refine aF (i := 20) rfl (aJ rfl rfl) (ap rfl) aE aE rfl (aa (ae (aa (ak (ae (aa av)))))) (by kernel_rfl) rfl ?_
 refine aF (i := 21) rfl (aJ rfl rfl) (eg rfl rfl (by omega) (by omega)) aE aE rfl (aa (ae (aa (ak (ae (aa av)))))) (by kernel_rfl) rfl ?_
 refine aF (i := 22) rfl (aJ rfl rfl) (bz (k := k - 1) Tryz.underlying31 de rfl rfl (bE 1 rfl) (by omega) (by omega)) aE aE rfl (aa (ae (aa (ak (ae (aa av)))))) (by kernel_rfl) rfl ?_
 refine aF (i := 23) rfl (aJ rfl rfl) (cf ga (0 : Int) de rfl (bE 1 rfl) (by omega) rfl rfl) aE aE rfl (aa (ae (aa (ak (ae (aa av)))))) (by kernel_rfl) rfl ?_
 refine aF (i := 24) rfl (aJ rfl rfl) (aD dq rfl) aE aE rfl (aa (ae (aa (ak (ae (aa av)))))) (by kernel_rfl) rfl ?_
 refine aF (i := 25) rfl (aJ rfl rfl) (aM 0 eP rfl rfl rfl) aE aE rfl (aa (ae (aa (ak (ae (aa av)))))) (by kernel_rfl) rfl ?_
 refine aF (i := 26) rfl (aJ rfl rfl) (ap rfl) aE aE rfl (aa (ae (aa (ak (ae (aa av)))))) (by kernel_rfl) rfl ?_
 refine aF (i := 27) rfl (aJ rfl rfl) (bz  Tryz.underlying31 de rfl rfl (bE 1 rfl) rfl (by omega)) aE aE rfl (aa (ae (aa (ak (ae (aa av)))))) (by kernel_rfl) rfl ?_
 refine aF (i := 28) rfl (aJ rfl rfl) (cf ga (0 : Int) de rfl (bE 1 rfl) (by omega) rfl rfl) aE aE rfl (aa (ae (aa (ak (ae (aa av)))))) (by kernel_rfl) rfl ?_
 refine aF (i := 29) rfl (aJ rfl rfl) (i5 rfl rfl) aE aE rfl (aa (ae (aa (ak (ae (aa av)))))) (by kernel_rfl) rfl ?_
 refine dn (t := 62) rfl (fun h9_29 => ?_) (fun h9_29 => ?_)
 refine aF (i := 30) rfl (aJ rfl rfl) (aG rfl rfl) aE aE rfl (aa (ae (aa (ak (ae (aa av)))))) (by kernel_rfl) rfl ?_
 refine aF (i := 31) rfl aj (aI rfl rfl) aE aE rfl (aa (ae (aa (ak (ae (aa av)))))) (by kernel_rfl) rfl ?_
 refine cp (by kernel_rfl) ?_
 refine aq ?_
 refine aA rfl ?_
 refine ar ?_
 refine ai ?_
 refine au (ao rfl) rfl rfl ?_
 refine ah ?_
 refine aq ?_
 refine aQ ?_
 refine aK ?_
 refine ay ?_
 refine a9 ?_
 refine aK ?_
 refine ay ?_
 refine aV (ts := [2]) rfl rfl rfl (fun w hw => ?_)
 focus first
   | exact ⟨(), by rw [cJ, if_pos h2_1]; rfl, hw.base, (hw.weak (List.nil_sublist _) (fun s hs => hs)).toNews⟩
   | exact ⟨(), by rw [bS h2_1 (.inl h4_2)]; rfl, hw.base, (hw.weak (List.nil_sublist _) (fun s hs => hs)).toNews⟩
   | exact ⟨(), by rw [bS h2_1 (.inr (.inl h4_6))]; rfl, hw.base, (hw.weak (List.nil_sublist _) (fun s hs => hs)).toNews⟩
   | exact ⟨(), by rw [bS h2_1 (.inr (.inr (.inl (eR (by omega)))))]; rfl, hw.base, (hw.weak (List.nil_sublist _) (fun s hs => hs)).toNews⟩
   | exact ⟨(), by rw [bS h2_1 (.inr (.inr (.inl (dS (k := k) (by omega) (fun h => by have q1 := h.1; have q2 := h.2.1; have q3 := h.2.2; omega)))))]; rfl, hw.base, (hw.weak (List.nil_sublist _) (fun s hs => hs)).toNews⟩
   | (trace_state; fail)
 refine aF (i := 30) rfl (aJ rfl rfl) (aG rfl rfl) aE aE rfl (aa (ae (aa (ak (ae (aa av)))))) (by kernel_rfl) rfl ?_
 refine aF (i := 31) rfl aj (aI rfl rfl) aE aE rfl (aa (ae (aa (ak (ae (aa av)))))) (by kernel_rfl) rfl ?_
 refine cp (by kernel_rfl) ?_
 refine aq ?_
 refine aC rfl ?_
 refine aS ?_
 refine bo ?_
 refine aq ?_
 refine ai ?_
 refine au (ap rfl) rfl rfl ?_
 refine au (bl rfl rfl (by omega) (by omega)) rfl rfl ?_
 refine au (ao rfl) rfl rfl ?_
 refine ah ?_
 refine bq (k + 1) ?_ ?_ ⟨rfl, trivial⟩ (by repeat (first | exact trivial | refine ⟨rfl, ?_⟩)) aE
 exact ⟨by omega, eH hI.2 ⟨by omega, by omega, fun _ => by omega⟩⟩
 omega
 refine aF (i := 17) rfl (aJ rfl rfl) (ap rfl) aE aE rfl (aa (ae (aa (ak (ae (aa av)))))) (by kernel_rfl) rfl ?_
 refine cc (i := 18) rfl (aw rfl rfl rfl) aE rfl (aa (ae (aa (ak (ae (aa av)))))) (by kernel_rfl) rfl ?_
 refine cc (i := 19) rfl (aw rfl rfl rfl) aE rfl (aa (ae (aa (ak (ae (aa av)))))) (by kernel_rfl) rfl ?_
 refine cc (i := 20) rfl (aw rfl rfl rfl) aE rfl (aa (ae (aa (ak (ae (aa av)))))) (by kernel_rfl) rfl ?_
 refine cc (i := 21) rfl (aw rfl rfl rfl) aE rfl (aa (ae (aa (ak (ae (aa av)))))) (by kernel_rfl) rfl ?_
 refine cc (i := 22) rfl (aw rfl rfl rfl) aE rfl (aa (ae (aa (ak (ae (aa av)))))) (by kernel_rfl) rfl ?_
 refine cc (i := 23) rfl (aw rfl rfl rfl) aE rfl (aa (ae (aa (ak (ae (aa av)))))) (by kernel_rfl) rfl ?_
 refine cc (i := 24) rfl (aw rfl rfl rfl) aE rfl (aa (ae (aa (ak (ae (aa av)))))) (by kernel_rfl) rfl ?_
 refine cc (i := 25) rfl (aw rfl rfl rfl) aE rfl (aa (ae (aa (ak (ae (aa av)))))) (by kernel_rfl) rfl ?_
 refine cc (i := 26) rfl (aw rfl rfl rfl) aE rfl (aa (ae (aa (ak (ae (aa av)))))) (by kernel_rfl) rfl ?_
 refine cc (i := 27) rfl (aw rfl rfl rfl) aE rfl (aa (ae (aa (ak (ae (aa av)))))) (by kernel_rfl) rfl ?_
 refine cc (i := 28) rfl (aw rfl rfl rfl) aE rfl (aa (ae (aa (ak (ae (aa av)))))) (by kernel_rfl) rfl ?_
 refine cc (i := 29) rfl (aw rfl rfl rfl) aE rfl (aa (ae (aa (ak (ae (aa av)))))) (by kernel_rfl) rfl ?_
 refine aF (i := 30) rfl (aJ rfl rfl) (aI rfl rfl) aE aE rfl (aa (ae (aa (ak (ae (aa av)))))) (by kernel_rfl) rfl ?_
 refine aF (i := 31) rfl aj (aI rfl rfl) aE aE rfl (aa (ae (aa (ak (ae (aa av)))))) (by kernel_rfl) rfl ?_
 refine cp (by kernel_rfl) ?_
 refine aq ?_
 refine aC rfl ?_
 refine aS ?_
 refine bo ?_
 refine aq ?_
 refine ai ?_
 refine au (ap rfl) rfl rfl ?_
 refine au (bl rfl rfl (by omega) (by omega)) rfl rfl ?_
 refine au (ao rfl) rfl rfl ?_
 refine ah ?_
 refine bq (k + 1) ?_ ?_ ⟨rfl, trivial⟩ (by repeat (first | exact trivial | refine ⟨rfl, ?_⟩)) aE
 exact ⟨by omega, eH hI.2 ⟨by omega, by omega, fun _ => by omega⟩⟩
 omega
 refine ah ?_
 refine aq ?_
 refine aC rfl ?_
 refine bw ?_
 refine aY ?_
 refine aZ ?_
 refine a7 ?_
 refine aq ?_
 refine ar ?_
 refine ai ?_
 refine au (ao rfl) rfl rfl ?_
 refine ah ?_
 refine aq ?_
 refine ar ?_
 refine ar ?_
 refine ai ?_
 refine au (aD ea rfl) rfl rfl ?_
 refine au (aM 0 de rfl rfl rfl) rfl rfl ?_
 refine ah ?_
 refine aq ?_
 refine aW ?_
 refine ar ?_
 refine ai ?_
 refine au (dk rfl rfl) rfl rfl ?_
 refine aB (t := 68) rfl (fun h13_0 => ?_) (fun h13_0 => ?_)
 refine au (ao rfl) rfl rfl ?_
 refine ah ?_
 refine aq ?_
 refine aA rfl ?_
 refine ai ?_
 refine au (aD fV rfl) rfl rfl ?_
 refine au (aM 0 cB rfl rfl rfl) rfl rfl ?_
 refine bb rfl ent_194 (gy _) rfl ?_
 refine au (dk rfl rfl) rfl rfl ?_
 refine aB (t := 72) rfl (fun h14_3 => ?_) (fun h14_3 => ?_)
 refine au (ap rfl) rfl rfl ?_
 refine az rfl rfl ?_
 refine au (aD cH rfl) rfl rfl ?_
 refine az rfl rfl ?_
 refine au (aM 0 dN rfl rfl rfl) rfl rfl ?_
 refine az rfl rfl ?_
 refine au (bg Tryz.underlying30 rfl) rfl rfl ?_
 refine az rfl rfl ?_
 refine au (i5 rfl rfl) rfl rfl ?_
 refine aB (t := 77) rfl (fun h14_8 => ?_) (fun h14_8 => ?_)
 refine au (aG rfl rfl) rfl rfl ?_
 refine au (ap rfl) rfl rfl ?_
 refine az rfl rfl ?_
 refine au (aD cH rfl) rfl rfl ?_
 refine az rfl rfl ?_
 refine au (aM 0 dN rfl rfl rfl) rfl rfl ?_
 refine az rfl rfl ?_
 refine au (bg Tryz.underlying30 rfl) rfl rfl ?_
 refine az rfl rfl ?_
 refine au (fp rfl rfl) rfl rfl ?_
 refine aB (t := 83) rfl (fun h14_14 => ?_) (fun h14_14 => ?_)
 refine au (aG rfl rfl) rfl rfl ?_
 refine au (ap rfl) rfl rfl ?_
 refine az rfl rfl ?_
 refine au (aD cH rfl) rfl rfl ?_
 refine az rfl rfl ?_
 refine au (aM 0 dN rfl rfl rfl) rfl rfl ?_
 refine az rfl rfl ?_
 refine bp rfl ent_195 rfl (c_ref16_addrs _ _ _ (by omega) hwa) (fun w hw => (aO (bJ 0 rfl hw) bd)) ?_
 refine bD (t := 88) rfl (fun h14_19 => ?_) (fun h14_19 => ?_)
 refine au (aG rfl rfl) rfl rfl ?_
 refine au (ap rfl) rfl rfl ?_
 refine az rfl rfl ?_
 refine au (aD ep rfl) rfl rfl ?_
 refine az rfl rfl ?_
 refine au (aM 0 bN rfl rfl rfl) rfl rfl ?_
 refine az rfl rfl ?_
 refine au (d8 rfl rfl) rfl rfl ?_
 refine aB (t := 93) rfl (fun h14_24 => ?_) (fun h14_24 => ?_)
 refine au (aG rfl rfl) rfl rfl ?_
 refine au (ao rfl) rfl rfl ?_
 refine ah ?_
 refine bo ?_
 refine aq ?_
 refine ar ?_
 refine ar ?_
 refine ai ?_
 refine au (ap rfl) rfl rfl ?_
 refine au (bC rfl) rfl rfl ?_
 refine ah ?_
 refine aq ?_
 refine aC rfl ?_
 refine aS ?_
 refine aq ?_
 refine ar ?_
 refine ai ?_
 refine au (ao rfl) rfl rfl ?_
 refine ah ?_
 refine aq ?_
 refine aQ ?_
 refine aV (ts := [2]) rfl rfl rfl (fun w hw => ?_)
 have hpo : cE e.ports = true := cR (fun i hi => hI.2 i (by omega)) (by omega)
 have hm : aT e = true := by
   focus first
     | (exfalso; omega)
     | (simp [aT, aU, *]
        done)
     | (have r1 : 1 ≤ e.addrs.length := by omega
        have r2 : e.addrs.length ≤ 8 := by omega
        have r3 : ¬ e.addrs = [] := by
          intro h; rw [h] at r1; simp at r1
        simp [aT, aU, *]
        done)
     | (have r1 : ¬ 1 ≤ e.addrs.length := by omega
        have r3 : e.addrs = [] := List.length_eq_zero_iff.1 (by omega)
        simp [aT, aU, *]
        done)
     | (have r1 : 1 ≤ e.addrs.length := by omega
        have r2 : ¬ e.addrs.length ≤ 8 := by omega
        simp [aT, aU, *]
        done)
     | (have q0 : e.addrs = [] := List.length_eq_zero_iff.1 (by omega)
        simp [aT, aU, *]
        done)
     | (have q0 : ¬ e.addrs = [] := by
          intro h; have h9 := congrArg List.length h; rw [List.length_nil] at h9; omega
        simp [aT, aU, *]
        done)
     | (have q0 : e.addrs = [] := List.length_eq_zero_iff.1 (by omega)
        have q1 : e.ports = [] := List.length_eq_zero_iff.1 (by omega)
        simp [aT, aU, *]
        done)
     | (have q0 : e.addrs = [] := List.length_eq_zero_iff.1 (by omega)
        have q1 : ¬ e.ports = [] := by
          intro h; have h9 := congrArg List.length h; rw [List.length_nil] at h9; omega
        simp [aT, aU, *]
        done)
     | (trace_state; fail)
 exact ⟨(), by rw [ent_good h2_1 h4_2 h4_6 hpo hm]; rfl, hw.base, (hw.weak (List.nil_sublist _) (fun s hs => hs)).toNews⟩
 refine au (aG rfl rfl) rfl rfl ?_
 refine au (ao rfl) rfl rfl ?_
 refine ah ?_
 refine bo ?_
 refine aq ?_
 refine ar ?_
 refine ar ?_
 refine ai ?_
 refine au (ap rfl) rfl rfl ?_
 refine au (bC rfl) rfl rfl ?_
 refine ah ?_
 refine aq ?_
 refine aA rfl ?_
 refine ar ?_
 refine ai ?_
 refine au (ao rfl) rfl rfl ?_
 refine ah ?_
 refine aq ?_
 refine aQ ?_
 refine ay ?_
 refine aV (ts := [2]) rfl rfl rfl (fun w hw => ?_)
 have hpo : cE e.ports = true := cR (fun i hi => hI.2 i (by omega)) (by omega)
 have hm : aT e = false := by
   focus first
     | (exfalso; omega)
     | (simp [aT, aU, *]
        done)
     | (have r1 : 1 ≤ e.addrs.length := by omega
        have r2 : e.addrs.length ≤ 8 := by omega
        have r3 : ¬ e.addrs = [] := by
          intro h; rw [h] at r1; simp at r1
        simp [aT, aU, *]
        done)
     | (have r1 : ¬ 1 ≤ e.addrs.length := by omega
        have r3 : e.addrs = [] := List.length_eq_zero_iff.1 (by omega)
        simp [aT, aU, *]
        done)
     | (have r1 : 1 ≤ e.addrs.length := by omega
        have r2 : ¬ e.addrs.length ≤ 8 := by omega
        simp [aT, aU, *]
        done)
     | (have q0 : e.addrs = [] := List.length_eq_zero_iff.1 (by omega)
        simp [aT, aU, *]
        done)
     | (have q0 : ¬ e.addrs = [] := by
          intro h; have h9 := congrArg List.length h; rw [List.length_nil] at h9; omega
        simp [aT, aU, *]
        done)
     | (have q0 : e.addrs = [] := List.length_eq_zero_iff.1 (by omega)
        have q1 : e.ports = [] := List.length_eq_zero_iff.1 (by omega)
        simp [aT, aU, *]
        done)
     | (have q0 : e.addrs = [] := List.length_eq_zero_iff.1 (by omega)
        have q1 : ¬ e.ports = [] := by
          intro h; have h9 := congrArg List.length h; rw [List.length_nil] at h9; omega
        simp [aT, aU, *]
        done)
     | (trace_state; fail)
 exact ⟨(), by rw [bS h2_1 (.inr (.inr (.inr hm)))]; rfl, hw.base, (hw.weak (List.nil_sublist _) (fun s hs => hs)).toNews⟩
 refine au (aG rfl rfl) rfl rfl ?_
 refine au (ap rfl) rfl rfl ?_
 refine ax rfl rfl rfl rfl ?_
 refine ax rfl rfl rfl rfl ?_
 refine ax rfl rfl rfl rfl ?_
 refine au (aI rfl rfl) rfl rfl ?_
 refine au (ao rfl) rfl rfl ?_
 refine ah ?_
 refine bo ?_
 refine aq ?_
 refine ar ?_
 refine ar ?_
 refine ai ?_
 refine au (ap rfl) rfl rfl ?_
 refine au (bC rfl) rfl rfl ?_
 refine ah ?_
 refine aq ?_
 refine aA rfl ?_
 refine ar ?_
 refine ai ?_
 refine au (ao rfl) rfl rfl ?_
 refine ah ?_
 refine aq ?_
 refine aQ ?_
 refine ay ?_
 refine aV (ts := [2]) rfl rfl rfl (fun w hw => ?_)
 have hpo : cE e.ports = true := cR (fun i hi => hI.2 i (by omega)) (by omega)
 have hm : aT e = false := by
   focus first
     | (exfalso; omega)
     | (simp [aT, aU, *]
        done)
     | (have r1 : 1 ≤ e.addrs.length := by omega
        have r2 : e.addrs.length ≤ 8 := by omega
        have r3 : ¬ e.addrs = [] := by
          intro h; rw [h] at r1; simp at r1
        simp [aT, aU, *]
        done)
     | (have r1 : ¬ 1 ≤ e.addrs.length := by omega
        have r3 : e.addrs = [] := List.length_eq_zero_iff.1 (by omega)
        simp [aT, aU, *]
        done)
     | (have r1 : 1 ≤ e.addrs.length := by omega
        have r2 : ¬ e.addrs.length ≤ 8 := by omega
        simp [aT, aU, *]
        done)
     | (have q0 : e.addrs = [] := List.length_eq_zero_iff.1 (by omega)
        simp [aT, aU, *]
        done)
     | (have q0 : ¬ e.addrs = [] := by
          intro h; have h9 := congrArg List.length h; rw [List.length_nil] at h9; omega
        simp [aT, aU, *]
        done)
     | (have q0 : e.addrs = [] := List.length_eq_zero_iff.1 (by omega)
        have q1 : e.ports = [] := List.length_eq_zero_iff.1 (by omega)
        simp [aT, aU, *]
        done)
     | (have q0 : e.addrs = [] := List.length_eq_zero_iff.1 (by omega)
        have q1 : ¬ e.ports = [] := by
          intro h; have h9 := congrArg List.length h; rw [List.length_nil] at h9; omega
        simp [aT, aU, *]
        done)
     | (trace_state; fail)
 exact ⟨(), by rw [bS h2_1 (.inr (.inr (.inr hm)))]; rfl, hw.base, (hw.weak (List.nil_sublist _) (fun s hs => hs)).toNews⟩
 refine au (aG rfl rfl) rfl rfl ?_
 refine au (ap rfl) rfl rfl ?_
 refine ax rfl rfl rfl rfl ?_
 refine ax rfl rfl rfl rfl ?_
 refine ax rfl rfl rfl rfl ?_
 refine au (aI rfl rfl) rfl rfl ?_
 refine au (ap rfl) rfl rfl ?_
 refine ax rfl rfl rfl rfl ?_
 refine ax rfl rfl rfl rfl ?_
 refine ax rfl rfl rfl rfl ?_
 refine au (aI rfl rfl) rfl rfl ?_
 refine au (ao rfl) rfl rfl ?_
 refine ah ?_
 refine bo ?_
 refine aq ?_
 refine ar ?_
 refine ar ?_
 refine ai ?_
 refine au (ap rfl) rfl rfl ?_
 refine au (bC rfl) rfl rfl ?_
 refine ah ?_
 refine aq ?_
 refine aA rfl ?_
 refine ar ?_
 refine ai ?_
 refine au (ao rfl) rfl rfl ?_
 refine ah ?_
 refine aq ?_
 refine aQ ?_
 refine ay ?_
 refine aV (ts := [2]) rfl rfl rfl (fun w hw => ?_)
 have hpo : cE e.ports = true := cR (fun i hi => hI.2 i (by omega)) (by omega)
 have hm : aT e = false := by
   focus first
     | (exfalso; omega)
     | (simp [aT, aU, *]
        done)
     | (have r1 : 1 ≤ e.addrs.length := by omega
        have r2 : e.addrs.length ≤ 8 := by omega
        have r3 : ¬ e.addrs = [] := by
          intro h; rw [h] at r1; simp at r1
        simp [aT, aU, *]
        done)
     | (have r1 : ¬ 1 ≤ e.addrs.length := by omega
        have r3 : e.addrs = [] := List.length_eq_zero_iff.1 (by omega)
        simp [aT, aU, *]
        done)
     | (have r1 : 1 ≤ e.addrs.length := by omega
        have r2 : ¬ e.addrs.length ≤ 8 := by omega
        simp [aT, aU, *]
        done)
     | (have q0 : e.addrs = [] := List.length_eq_zero_iff.1 (by omega)
        simp [aT, aU, *]
        done)
     | (have q0 : ¬ e.addrs = [] := by
          intro h; have h9 := congrArg List.length h; rw [List.length_nil] at h9; omega
        simp [aT, aU, *]
        done)
     | (have q0 : e.addrs = [] := List.length_eq_zero_iff.1 (by omega)
        have q1 : e.ports = [] := List.length_eq_zero_iff.1 (by omega)
        simp [aT, aU, *]
        done)
     | (have q0 : e.addrs = [] := List.length_eq_zero_iff.1 (by omega)
        have q1 : ¬ e.ports = [] := by
          intro h; have h9 := congrArg List.length h; rw [List.length_nil] at h9; omega
        simp [aT, aU, *]
        done)
     | (trace_state; fail)
 exact ⟨(), by rw [bS h2_1 (.inr (.inr (.inr hm)))]; rfl, hw.base, (hw.weak (List.nil_sublist _) (fun s hs => hs)).toNews⟩
 refine au (aG rfl rfl) rfl rfl ?_
 refine au (ap rfl) rfl rfl ?_
 refine ax rfl rfl rfl rfl ?_
 refine ax rfl rfl rfl rfl ?_
 refine ax rfl rfl rfl rfl ?_
 refine ax rfl rfl rfl rfl ?_
 refine au (aI rfl rfl) rfl rfl ?_
 refine au (ap rfl) rfl rfl ?_
 refine ax rfl rfl rfl rfl ?_
 refine ax rfl rfl rfl rfl ?_
 refine ax rfl rfl rfl rfl ?_
 refine au (aI rfl rfl) rfl rfl ?_
 refine au (ap rfl) rfl rfl ?_
 refine ax rfl rfl rfl rfl ?_
 refine ax rfl rfl rfl rfl ?_
 refine ax rfl rfl rfl rfl ?_
 refine au (aI rfl rfl) rfl rfl ?_
 refine au (ao rfl) rfl rfl ?_
 refine ah ?_
 refine bo ?_
 refine aq ?_
 refine ar ?_
 refine ar ?_
 refine ai ?_
 refine au (ap rfl) rfl rfl ?_
 refine au (bC rfl) rfl rfl ?_
 refine ah ?_
 refine aq ?_
 refine aA rfl ?_
 refine ar ?_
 refine ai ?_
 refine au (ao rfl) rfl rfl ?_
 refine ah ?_
 refine aq ?_
 refine aQ ?_
 refine ay ?_
 refine aV (ts := [2]) rfl rfl rfl (fun w hw => ?_)
 have hpo : cE e.ports = true := cR (fun i hi => hI.2 i (by omega)) (by omega)
 have hm : aT e = false := by
   focus first
     | (exfalso; omega)
     | (simp [aT, aU, *]
        done)
     | (have r1 : 1 ≤ e.addrs.length := by omega
        have r2 : e.addrs.length ≤ 8 := by omega
        have r3 : ¬ e.addrs = [] := by
          intro h; rw [h] at r1; simp at r1
        simp [aT, aU, *]
        done)
     | (have r1 : ¬ 1 ≤ e.addrs.length := by omega
        have r3 : e.addrs = [] := List.length_eq_zero_iff.1 (by omega)
        simp [aT, aU, *]
        done)
     | (have r1 : 1 ≤ e.addrs.length := by omega
        have r2 : ¬ e.addrs.length ≤ 8 := by omega
        simp [aT, aU, *]
        done)
     | (have q0 : e.addrs = [] := List.length_eq_zero_iff.1 (by omega)
        simp [aT, aU, *]
        done)
     | (have q0 : ¬ e.addrs = [] := by
          intro h; have h9 := congrArg List.length h; rw [List.length_nil] at h9; omega
        simp [aT, aU, *]
        done)
     | (have q0 : e.addrs = [] := List.length_eq_zero_iff.1 (by omega)
        have q1 : e.ports = [] := List.length_eq_zero_iff.1 (by omega)
        simp [aT, aU, *]
        done)
     | (have q0 : e.addrs = [] := List.length_eq_zero_iff.1 (by omega)
        have q1 : ¬ e.ports = [] := by
          intro h; have h9 := congrArg List.length h; rw [List.length_nil] at h9; omega
        simp [aT, aU, *]
        done)
     | (trace_state; fail)
 exact ⟨(), by rw [bS h2_1 (.inr (.inr (.inr hm)))]; rfl, hw.base, (hw.weak (List.nil_sublist _) (fun s hs => hs)).toNews⟩
 refine au (ap rfl) rfl rfl ?_
 refine ax rfl rfl rfl rfl ?_
 refine ax rfl rfl rfl rfl ?_
 refine ax rfl rfl rfl rfl ?_
 refine ax rfl rfl rfl rfl ?_
 refine au (aI rfl rfl) rfl rfl ?_
 refine au (ap rfl) rfl rfl ?_
 refine ax rfl rfl rfl rfl ?_
 refine ax rfl rfl rfl rfl ?_
 refine ax rfl rfl rfl rfl ?_
 refine ax rfl rfl rfl rfl ?_
 refine au (aI rfl rfl) rfl rfl ?_
 refine au (ap rfl) rfl rfl ?_
 refine ax rfl rfl rfl rfl ?_
 refine ax rfl rfl rfl rfl ?_
 refine ax rfl rfl rfl rfl ?_
 refine au (aI rfl rfl) rfl rfl ?_
 refine au (ap rfl) rfl rfl ?_
 refine ax rfl rfl rfl rfl ?_
 refine ax rfl rfl rfl rfl ?_
 refine ax rfl rfl rfl rfl ?_
 refine au (aI rfl rfl) rfl rfl ?_
 refine au (ao rfl) rfl rfl ?_
 refine ah ?_
 refine bo ?_
 refine aq ?_
 refine ar ?_
 refine ar ?_
 refine ai ?_
 refine au (ap rfl) rfl rfl ?_
 refine au (bC rfl) rfl rfl ?_
 refine ah ?_
 refine aq ?_
 refine aA rfl ?_
 refine ar ?_
 refine ai ?_
 refine au (ao rfl) rfl rfl ?_
 refine ah ?_
 refine aq ?_
 refine aQ ?_
 refine ay ?_
 refine aV (ts := [2]) rfl rfl rfl (fun w hw => ?_)
 have hpo : cE e.ports = true := cR (fun i hi => hI.2 i (by omega)) (by omega)
 have hm : aT e = false := by
   focus first
     | (exfalso; omega)
     | (simp [aT, aU, *]
        done)
     | (have r1 : 1 ≤ e.addrs.length := by omega
        have r2 : e.addrs.length ≤ 8 := by omega
        have r3 : ¬ e.addrs = [] := by
          intro h; rw [h] at r1; simp at r1
        simp [aT, aU, *]
        done)
     | (have r1 : ¬ 1 ≤ e.addrs.length := by omega
        have r3 : e.addrs = [] := List.length_eq_zero_iff.1 (by omega)
        simp [aT, aU, *]
        done)
     | (have r1 : 1 ≤ e.addrs.length := by omega
        have r2 : ¬ e.addrs.length ≤ 8 := by omega
        simp [aT, aU, *]
        done)
     | (have q0 : e.addrs = [] := List.length_eq_zero_iff.1 (by omega)
        simp [aT, aU, *]
        done)
     | (have q0 : ¬ e.addrs = [] := by
          intro h; have h9 := congrArg List.length h; rw [List.length_nil] at h9; omega
        simp [aT, aU, *]
        done)
     | (have q0 : e.addrs = [] := List.length_eq_zero_iff.1 (by omega)
        have q1 : e.ports = [] := List.length_eq_zero_iff.1 (by omega)
        simp [aT, aU, *]
        done)
     | (have q0 : e.addrs = [] := List.length_eq_zero_iff.1 (by omega)
        have q1 : ¬ e.ports = [] := by
          intro h; have h9 := congrArg List.length h; rw [List.length_nil] at h9; omega
        simp [aT, aU, *]
        done)
     | (trace_state; fail)
 exact ⟨(), by rw [bS h2_1 (.inr (.inr (.inr hm)))]; rfl, hw.base, (hw.weak (List.nil_sublist _) (fun s hs => hs)).toNews⟩
 refine au (ao rfl) rfl rfl ?_
 refine ah ?_
 refine aq ?_
 refine aC rfl ?_
 refine ar ?_
 refine ai ?_
 refine au (dk rfl rfl) rfl rfl ?_
 refine aB (t := 96) rfl (fun h15_0 => ?_) (fun h15_0 => ?_)
 refine au (ao rfl) rfl rfl ?_
 refine ah ?_
 refine aq ?_
 refine aA rfl ?_
 refine ai ?_
 refine au (aD fV rfl) rfl rfl ?_
 refine au (aM 0 cB rfl rfl rfl) rfl rfl ?_
 refine bb rfl ent_194 (gy _) rfl ?_
 refine au (dk rfl rfl) rfl rfl ?_
 refine aB (t := 100) rfl (fun h16_3 => ?_) (fun h16_3 => ?_)
 refine au (ap rfl) rfl rfl ?_
 refine az rfl rfl ?_
 refine au (aD cH rfl) rfl rfl ?_
 refine az rfl rfl ?_
 refine au (aM 0 dN rfl rfl rfl) rfl rfl ?_
 refine az rfl rfl ?_
 refine au (bg Tryz.underlying30 rfl) rfl rfl ?_
 refine az rfl rfl ?_
 refine au (dk rfl rfl) rfl rfl ?_
 refine aB (t := 105) rfl (fun h16_8 => ?_) (fun h16_8 => ?_)
 refine au (aG rfl rfl) rfl rfl ?_
 refine au (ap rfl) rfl rfl ?_
 refine az rfl rfl ?_
 refine au (aD ep rfl) rfl rfl ?_
 refine az rfl rfl ?_
 refine au (aM 0 bN rfl rfl rfl) rfl rfl ?_
 refine az rfl rfl ?_
 refine au (d8 rfl rfl) rfl rfl ?_
 refine aB (t := 110) rfl (fun h16_13 => ?_) (fun h16_13 => ?_)
 refine au (aG rfl rfl) rfl rfl ?_
 refine au (ao rfl) rfl rfl ?_
 refine ah ?_
 refine bo ?_
 refine aq ?_
 refine ar ?_
 refine ar ?_
 refine ai ?_
 refine au (ap rfl) rfl rfl ?_
 refine au (bC rfl) rfl rfl ?_
 refine ah ?_
 refine aq ?_
 refine aC rfl ?_
 refine aS ?_
 refine aq ?_
 refine ar ?_
 refine ai ?_
 refine au (ao rfl) rfl rfl ?_
 refine ah ?_
 refine aq ?_
 refine aQ ?_
 refine aV (ts := [2]) rfl rfl rfl (fun w hw => ?_)
 have hpo : cE e.ports = true := cR (fun i hi => hI.2 i (by omega)) (by omega)
 have hm : aT e = true := by
   focus first
     | (exfalso; omega)
     | (simp [aT, aU, *]
        done)
     | (have r1 : 1 ≤ e.addrs.length := by omega
        have r2 : e.addrs.length ≤ 8 := by omega
        have r3 : ¬ e.addrs = [] := by
          intro h; rw [h] at r1; simp at r1
        simp [aT, aU, *]
        done)
     | (have r1 : ¬ 1 ≤ e.addrs.length := by omega
        have r3 : e.addrs = [] := List.length_eq_zero_iff.1 (by omega)
        simp [aT, aU, *]
        done)
     | (have r1 : 1 ≤ e.addrs.length := by omega
        have r2 : ¬ e.addrs.length ≤ 8 := by omega
        simp [aT, aU, *]
        done)
     | (have q0 : e.addrs = [] := List.length_eq_zero_iff.1 (by omega)
        simp [aT, aU, *]
        done)
     | (have q0 : ¬ e.addrs = [] := by
          intro h; have h9 := congrArg List.length h; rw [List.length_nil] at h9; omega
        simp [aT, aU, *]
        done)
     | (have q0 : e.addrs = [] := List.length_eq_zero_iff.1 (by omega)
        have q1 : e.ports = [] := List.length_eq_zero_iff.1 (by omega)
        simp [aT, aU, *]
        done)
     | (have q0 : e.addrs = [] := List.length_eq_zero_iff.1 (by omega)
        have q1 : ¬ e.ports = [] := by
          intro h; have h9 := congrArg List.length h; rw [List.length_nil] at h9; omega
        simp [aT, aU, *]
        done)
     | (trace_state; fail)
 exact ⟨(), by rw [ent_good h2_1 h4_2 h4_6 hpo hm]; rfl, hw.base, (hw.weak (List.nil_sublist _) (fun s hs => hs)).toNews⟩
 refine au (aG rfl rfl) rfl rfl ?_
 refine au (ao rfl) rfl rfl ?_
 refine ah ?_
 refine bo ?_
 refine aq ?_
 refine ar ?_
 refine ar ?_
 refine ai ?_
 refine au (ap rfl) rfl rfl ?_
 refine au (bC rfl) rfl rfl ?_
 refine ah ?_
 refine aq ?_
 refine aA rfl ?_
 refine ar ?_
 refine ai ?_
 refine au (ao rfl) rfl rfl ?_
 refine ah ?_
 refine aq ?_
 refine aQ ?_
 refine ay ?_
 refine aV (ts := [2]) rfl rfl rfl (fun w hw => ?_)
 have hpo : cE e.ports = true := cR (fun i hi => hI.2 i (by omega)) (by omega)
 have hm : aT e = false := by
   focus first
     | (exfalso; omega)
     | (simp [aT, aU, *]
        done)
     | (have r1 : 1 ≤ e.addrs.length := by omega
        have r2 : e.addrs.length ≤ 8 := by omega
        have r3 : ¬ e.addrs = [] := by
          intro h; rw [h] at r1; simp at r1
        simp [aT, aU, *]
        done)
     | (have r1 : ¬ 1 ≤ e.addrs.length := by omega
        have r3 : e.addrs = [] := List.length_eq_zero_iff.1 (by omega)
        simp [aT, aU, *]
        done)
     | (have r1 : 1 ≤ e.addrs.length := by omega
        have r2 : ¬ e.addrs.length ≤ 8 := by omega
        simp [aT, aU, *]
        done)
     | (have q0 : e.addrs = [] := List.length_eq_zero_iff.1 (by omega)
        simp [aT, aU, *]
        done)
     | (have q0 : ¬ e.addrs = [] := by
          intro h; have h9 := congrArg List.length h; rw [List.length_nil] at h9; omega
        simp [aT, aU, *]
        done)
     | (have q0 : e.addrs = [] := List.length_eq_zero_iff.1 (by omega)
        have q1 : e.ports = [] := List.length_eq_zero_iff.1 (by omega)
        simp [aT, aU, *]
        done)
     | (have q0 : e.addrs = [] := List.length_eq_zero_iff.1 (by omega)
        have q1 : ¬ e.ports = [] := by
          intro h; have h9 := congrArg List.length h; rw [List.length_nil] at h9; omega
        simp [aT, aU, *]
        done)
     | (trace_state; fail)
 exact ⟨(), by rw [bS h2_1 (.inr (.inr (.inr hm)))]; rfl, hw.base, (hw.weak (List.nil_sublist _) (fun s hs => hs)).toNews⟩
 refine au (aG rfl rfl) rfl rfl ?_
 refine au (ap rfl) rfl rfl ?_
 refine ax rfl rfl rfl rfl ?_
 refine ax rfl rfl rfl rfl ?_
 refine ax rfl rfl rfl rfl ?_
 refine au (aI rfl rfl) rfl rfl ?_
 refine au (ao rfl) rfl rfl ?_
 refine ah ?_
 refine bo ?_
 refine aq ?_
 refine ar ?_
 refine ar ?_
 refine ai ?_
 refine au (ap rfl) rfl rfl ?_
 refine au (bC rfl) rfl rfl ?_
 refine ah ?_
 refine aq ?_
 refine aA rfl ?_
 refine ar ?_
 refine ai ?_
 refine au (ao rfl) rfl rfl ?_
 refine ah ?_
 refine aq ?_
 refine aQ ?_
 refine ay ?_
 refine aV (ts := [2]) rfl rfl rfl (fun w hw => ?_)
 have hpo : cE e.ports = true := cR (fun i hi => hI.2 i (by omega)) (by omega)
 have hm : aT e = false := by
   focus first
     | (exfalso; omega)
     | (simp [aT, aU, *]
        done)
     | (have r1 : 1 ≤ e.addrs.length := by omega
        have r2 : e.addrs.length ≤ 8 := by omega
        have r3 : ¬ e.addrs = [] := by
          intro h; rw [h] at r1; simp at r1
        simp [aT, aU, *]
        done)
     | (have r1 : ¬ 1 ≤ e.addrs.length := by omega
        have r3 : e.addrs = [] := List.length_eq_zero_iff.1 (by omega)
        simp [aT, aU, *]
        done)
     | (have r1 : 1 ≤ e.addrs.length := by omega
        have r2 : ¬ e.addrs.length ≤ 8 := by omega
        simp [aT, aU, *]
        done)
     | (have q0 : e.addrs = [] := List.length_eq_zero_iff.1 (by omega)
        simp [aT, aU, *]
        done)
     | (have q0 : ¬ e.addrs = [] := by
          intro h; have h9 := congrArg List.length h; rw [List.length_nil] at h9; omega
        simp [aT, aU, *]
        done)
     | (have q0 : e.addrs = [] := List.length_eq_zero_iff.1 (by omega)
        have q1 : e.ports = [] := List.length_eq_zero_iff.1 (by omega)
        simp [aT, aU, *]
        done)
     | (have q0 : e.addrs = [] := List.length_eq_zero_iff.1 (by omega)
        have q1 : ¬ e.ports = [] := by
          intro h; have h9 := congrArg List.length h; rw [List.length_nil] at h9; omega
        simp [aT, aU, *]
        done)
     | (trace_state; fail)
 exact ⟨(), by rw [bS h2_1 (.inr (.inr (.inr hm)))]; rfl, hw.base, (hw.weak (List.nil_sublist _) (fun s hs => hs)).toNews⟩
 refine au (ap rfl) rfl rfl ?_
 refine ax rfl rfl rfl rfl ?_
 refine ax rfl rfl rfl rfl ?_
 refine ax rfl rfl rfl rfl ?_
 refine ax rfl rfl rfl rfl ?_
 refine au (aI rfl rfl) rfl rfl ?_
 refine au (ap rfl) rfl rfl ?_
 refine ax rfl rfl rfl rfl ?_
 refine ax rfl rfl rfl rfl ?_
 refine ax rfl rfl rfl rfl ?_
 refine au (aI rfl rfl) rfl rfl ?_
 refine au (ao rfl) rfl rfl ?_
 refine ah ?_
 refine bo ?_
 refine aq ?_
 refine ar ?_
 refine ar ?_
 refine ai ?_
 refine au (ap rfl) rfl rfl ?_
 refine au (bC rfl) rfl rfl ?_
 refine ah ?_
 refine aq ?_
 refine aA rfl ?_
 refine ar ?_
 refine ai ?_
 refine au (ao rfl) rfl rfl ?_
 refine ah ?_
 refine aq ?_
 refine aQ ?_
 refine ay ?_
 refine aV (ts := [2]) rfl rfl rfl (fun w hw => ?_)
 have hpo : cE e.ports = true := cR (fun i hi => hI.2 i (by omega)) (by omega)
 have hm : aT e = false := by
   focus first
     | (exfalso; omega)
     | (simp [aT, aU, *]
        done)
     | (have r1 : 1 ≤ e.addrs.length := by omega
        have r2 : e.addrs.length ≤ 8 := by omega
        have r3 : ¬ e.addrs = [] := by
          intro h; rw [h] at r1; simp at r1
        simp [aT, aU, *]
        done)
     | (have r1 : ¬ 1 ≤ e.addrs.length := by omega
        have r3 : e.addrs = [] := List.length_eq_zero_iff.1 (by omega)
        simp [aT, aU, *]
        done)
     | (have r1 : 1 ≤ e.addrs.length := by omega
        have r2 : ¬ e.addrs.length ≤ 8 := by omega
        simp [aT, aU, *]
        done)
     | (have q0 : e.addrs = [] := List.length_eq_zero_iff.1 (by omega)
        simp [aT, aU, *]
        done)
     | (have q0 : ¬ e.addrs = [] := by
          intro h; have h9 := congrArg List.length h; rw [List.length_nil] at h9; omega
        simp [aT, aU, *]
        done)
     | (have q0 : e.addrs = [] := List.length_eq_zero_iff.1 (by omega)
        have q1 : e.ports = [] := List.length_eq_zero_iff.1 (by omega)
        simp [aT, aU, *]
        done)
     | (have q0 : e.addrs = [] := List.length_eq_zero_iff.1 (by omega)
        have q1 : ¬ e.ports = [] := by
          intro h; have h9 := congrArg List.length h; rw [List.length_nil] at h9; omega
        simp [aT, aU, *]
        done)
     | (trace_state; fail)
 exact ⟨(), by rw [bS h2_1 (.inr (.inr (.inr hm)))]; rfl, hw.base, (hw.weak (List.nil_sublist _) (fun s hs => hs)).toNews⟩
 refine au (ao rfl) rfl rfl ?_
 refine ah ?_
 refine aq ?_
 refine aC rfl ?_
 refine ar ?_
 refine ai ?_
 refine au (dk rfl rfl) rfl rfl ?_
 refine aB (t := 113) rfl (fun h17_0 => ?_) (fun h17_0 => ?_)
 refine au (ao rfl) rfl rfl ?_
 refine ah ?_
 refine aq ?_
 refine aA rfl ?_
 refine ai ?_
 refine au (aD fV rfl) rfl rfl ?_
 refine au (aM 0 cB rfl rfl rfl) rfl rfl ?_
 refine au (d8 rfl rfl) rfl rfl ?_
 refine aB (t := 116) rfl (fun h18_2 => ?_) (fun h18_2 => ?_)
 refine au (ap rfl) rfl rfl ?_
 refine az rfl rfl ?_
 refine au (aD cH rfl) rfl rfl ?_
 refine az rfl rfl ?_
 refine au (aM 0 dN rfl rfl rfl) rfl rfl ?_
 refine az rfl rfl ?_
 refine au (bg Tryz.underlying30 rfl) rfl rfl ?_
 refine az rfl rfl ?_
 refine au (dk rfl rfl) rfl rfl ?_
 refine aB (t := 121) rfl (fun h18_7 => ?_) (fun h18_7 => ?_)
 refine au (aG rfl rfl) rfl rfl ?_
 refine au (ap rfl) rfl rfl ?_
 refine az rfl rfl ?_
 refine au (aD ep rfl) rfl rfl ?_
 refine az rfl rfl ?_
 refine au (aM 0 bN rfl rfl rfl) rfl rfl ?_
 refine az rfl rfl ?_
 refine bb rfl fB (da _) rfl ?_
 refine az rfl rfl ?_
 refine au (dk rfl rfl) rfl rfl ?_
 refine aB (t := 127) rfl (fun h18_13 => ?_) (fun h18_13 => ?_)
 refine au (aG rfl rfl) rfl rfl ?_
 refine au (ap rfl) rfl rfl ?_
 refine az rfl rfl ?_
 refine au (aD ep rfl) rfl rfl ?_
 refine az rfl rfl ?_
 refine au (aM 0 bN rfl rfl rfl) rfl rfl ?_
 refine az rfl rfl ?_
 refine au (jb rfl rfl) rfl rfl ?_
 refine aB (t := 132) rfl (fun h18_18 => ?_) (fun h18_18 => ?_)
 refine au (aG rfl rfl) rfl rfl ?_
 refine au (ap rfl) rfl rfl ?_
 refine az rfl rfl ?_
 refine au (aD ep rfl) rfl rfl ?_
 refine az rfl rfl ?_
 refine au (aM 0 bN rfl rfl rfl) rfl rfl ?_
 refine az rfl rfl ?_
 refine bb rfl ent_151 (jB _) rfl ?_
 refine bD (t := 137) rfl (fun h18_23 => ?_) (fun h18_23 => ?_)
 refine az rfl rfl ?_
 refine au (bC rfl) rfl rfl ?_
 refine au (aG rfl rfl) rfl rfl ?_
 refine au (ap rfl) rfl rfl ?_
 refine ax rfl rfl rfl rfl ?_
 refine ax rfl rfl rfl rfl ?_
 refine ax rfl rfl rfl rfl ?_
 refine ax rfl rfl rfl rfl ?_
 refine au (aI rfl rfl) rfl rfl ?_
 refine au (ao rfl) rfl rfl ?_
 refine ah ?_
 refine bo ?_
 refine aq ?_
 refine ar ?_
 refine ar ?_
 refine ai ?_
 refine au (ap rfl) rfl rfl ?_
 refine au (bC rfl) rfl rfl ?_
 refine ah ?_
 refine aq ?_
 refine aA rfl ?_
 refine ar ?_
 refine ai ?_
 refine au (ao rfl) rfl rfl ?_
 refine ah ?_
 refine aq ?_
 refine aQ ?_
 refine ay ?_
 refine aV (ts := [2]) rfl rfl rfl (fun w hw => ?_)
 have hpo : cE e.ports = true := cR (fun i hi => hI.2 i (by omega)) (by omega)
 have hm : aT e = false := by
   focus first
     | (exfalso; omega)
     | (simp [aT, aU, *]
        done)
     | (have r1 : 1 ≤ e.addrs.length := by omega
        have r2 : e.addrs.length ≤ 8 := by omega
        have r3 : ¬ e.addrs = [] := by
          intro h; rw [h] at r1; simp at r1
        simp [aT, aU, *]
        done)
     | (have r1 : ¬ 1 ≤ e.addrs.length := by omega
        have r3 : e.addrs = [] := List.length_eq_zero_iff.1 (by omega)
        simp [aT, aU, *]
        done)
     | (have r1 : 1 ≤ e.addrs.length := by omega
        have r2 : ¬ e.addrs.length ≤ 8 := by omega
        simp [aT, aU, *]
        done)
     | (have q0 : e.addrs = [] := List.length_eq_zero_iff.1 (by omega)
        simp [aT, aU, *]
        done)
     | (have q0 : ¬ e.addrs = [] := by
          intro h; have h9 := congrArg List.length h; rw [List.length_nil] at h9; omega
        simp [aT, aU, *]
        done)
     | (have q0 : e.addrs = [] := List.length_eq_zero_iff.1 (by omega)
        have q1 : e.ports = [] := List.length_eq_zero_iff.1 (by omega)
        simp [aT, aU, *]
        done)
     | (have q0 : e.addrs = [] := List.length_eq_zero_iff.1 (by omega)
        have q1 : ¬ e.ports = [] := by
          intro h; have h9 := congrArg List.length h; rw [List.length_nil] at h9; omega
        simp [aT, aU, *]
        done)
     | (trace_state; fail)
 exact ⟨(), by rw [bS h2_1 (.inr (.inr (.inr hm)))]; rfl, hw.base, (hw.weak (List.nil_sublist _) (fun s hs => hs)).toNews⟩
 refine az rfl rfl ?_
 refine au (bC rfl) rfl rfl ?_
 refine au (aG rfl rfl) rfl rfl ?_
 refine au (ap rfl) rfl rfl ?_
 refine az rfl rfl ?_
 refine au (aD dq rfl) rfl rfl ?_
 refine az rfl rfl ?_
 refine au (aM 0 eP rfl rfl rfl) rfl rfl ?_
 refine az rfl rfl ?_
 refine au (bg Tryz.underlying31 rfl) rfl rfl ?_
 refine az rfl rfl ?_
 refine au (dk rfl rfl) rfl rfl ?_
 refine aB (t := 144) rfl (fun h18_30 => ?_) (fun h18_30 => ?_)
 refine au (aG rfl rfl) rfl rfl ?_
 refine au (ao rfl) rfl rfl ?_
 refine ah ?_
 refine bo ?_
 refine aq ?_
 refine ar ?_
 refine ar ?_
 refine ai ?_
 refine au (ap rfl) rfl rfl ?_
 refine au (bC rfl) rfl rfl ?_
 refine ah ?_
 refine aq ?_
 refine aC rfl ?_
 refine aS ?_
 refine aq ?_
 refine ar ?_
 refine ai ?_
 refine au (ao rfl) rfl rfl ?_
 refine ah ?_
 refine aq ?_
 refine aQ ?_
 refine aV (ts := [2]) rfl rfl rfl (fun w hw => ?_)
 have hpo : cE e.ports = true := cR (fun i hi => hI.2 i (by omega)) (by omega)
 have hm : aT e = true := by
   focus first
     | (exfalso; omega)
     | (simp [aT, aU, *]
        done)
     | (have r1 : 1 ≤ e.addrs.length := by omega
        have r2 : e.addrs.length ≤ 8 := by omega
        have r3 : ¬ e.addrs = [] := by
          intro h; rw [h] at r1; simp at r1
        simp [aT, aU, *]
        done)
     | (have r1 : ¬ 1 ≤ e.addrs.length := by omega
        have r3 : e.addrs = [] := List.length_eq_zero_iff.1 (by omega)
        simp [aT, aU, *]
        done)
     | (have r1 : 1 ≤ e.addrs.length := by omega
        have r2 : ¬ e.addrs.length ≤ 8 := by omega
        simp [aT, aU, *]
        done)
     | (have q0 : e.addrs = [] := List.length_eq_zero_iff.1 (by omega)
        simp [aT, aU, *]
        done)
     | (have q0 : ¬ e.addrs = [] := by
          intro h; have h9 := congrArg List.length h; rw [List.length_nil] at h9; omega
        simp [aT, aU, *]
        done)
     | (have q0 : e.addrs = [] := List.length_eq_zero_iff.1 (by omega)
        have q1 : e.ports = [] := List.length_eq_zero_iff.1 (by omega)
        simp [aT, aU, *]
        done)
     | (have q0 : e.addrs = [] := List.length_eq_zero_iff.1 (by omega)
        have q1 : ¬ e.ports = [] := by
          intro h; have h9 := congrArg List.length h; rw [List.length_nil] at h9; omega
        simp [aT, aU, *]
        done)
     | (trace_state; fail)
 exact ⟨(), by rw [ent_good h2_1 h4_2 h4_6 hpo hm]; rfl, hw.base, (hw.weak (List.nil_sublist _) (fun s hs => hs)).toNews⟩
 refine au (aG rfl rfl) rfl rfl ?_
 refine au (ao rfl) rfl rfl ?_
 refine ah ?_
 refine bo ?_
 refine aq ?_
 refine ar ?_
 refine ar ?_
 refine ai ?_
 refine au (ap rfl) rfl rfl ?_
 refine au (bC rfl) rfl rfl ?_
 refine ah ?_
 refine aq ?_
 refine aA rfl ?_
 refine ar ?_
 refine ai ?_
 refine au (ao rfl) rfl rfl ?_
 refine ah ?_
 refine aq ?_
 refine aQ ?_
 refine ay ?_
 refine aV (ts := [2]) rfl rfl rfl (fun w hw => ?_)
 have hpo : cE e.ports = true := cR (fun i hi => hI.2 i (by omega)) (by omega)
 have hm : aT e = false := by
   focus first
     | (exfalso; omega)
     | (simp [aT, aU, *]
        done)
     | (have r1 : 1 ≤ e.addrs.length := by omega
        have r2 : e.addrs.length ≤ 8 := by omega
        have r3 : ¬ e.addrs = [] := by
          intro h; rw [h] at r1; simp at r1
        simp [aT, aU, *]
        done)
     | (have r1 : ¬ 1 ≤ e.addrs.length := by omega
        have r3 : e.addrs = [] := List.length_eq_zero_iff.1 (by omega)
        simp [aT, aU, *]
        done)
     | (have r1 : 1 ≤ e.addrs.length := by omega
        have r2 : ¬ e.addrs.length ≤ 8 := by omega
        simp [aT, aU, *]
        done)
     | (have q0 : e.addrs = [] := List.length_eq_zero_iff.1 (by omega)
        simp [aT, aU, *]
        done)
     | (have q0 : ¬ e.addrs = [] := by
          intro h; have h9 := congrArg List.length h; rw [List.length_nil] at h9; omega
        simp [aT, aU, *]
        done)
     | (have q0 : e.addrs = [] := List.length_eq_zero_iff.1 (by omega)
        have q1 : e.ports = [] := List.length_eq_zero_iff.1 (by omega)
        simp [aT, aU, *]
        done)
     | (have q0 : e.addrs = [] := List.length_eq_zero_iff.1 (by omega)
        have q1 : ¬ e.ports = [] := by
          intro h; have h9 := congrArg List.length h; rw [List.length_nil] at h9; omega
        simp [aT, aU, *]
        done)
     | (trace_state; fail)
 exact ⟨(), by rw [bS h2_1 (.inr (.inr (.inr hm)))]; rfl, hw.base, (hw.weak (List.nil_sublist _) (fun s hs => hs)).toNews⟩
 refine au (aG rfl rfl) rfl rfl ?_
 refine au (ap rfl) rfl rfl ?_
 refine ax rfl rfl rfl rfl ?_
 refine ax rfl rfl rfl rfl ?_
 refine ax rfl rfl rfl rfl ?_
 refine ax rfl rfl rfl rfl ?_
 refine au (aI rfl rfl) rfl rfl ?_
 refine au (ap rfl) rfl rfl ?_
 refine ax rfl rfl rfl rfl ?_
 refine ax rfl rfl rfl rfl ?_
 refine ax rfl rfl rfl rfl ?_
 refine ax rfl rfl rfl rfl ?_
 refine au (aI rfl rfl) rfl rfl ?_
 refine au (ao rfl) rfl rfl ?_
 refine ah ?_
 refine bo ?_
 refine aq ?_
 refine ar ?_
 refine ar ?_
 refine ai ?_
 refine au (ap rfl) rfl rfl ?_
 refine au (bC rfl) rfl rfl ?_
 refine ah ?_
 refine aq ?_
 refine aA rfl ?_
 refine ar ?_
 refine ai ?_
 refine au (ao rfl) rfl rfl ?_
 refine ah ?_
 refine aq ?_
 refine aQ ?_
 refine ay ?_
 refine aV (ts := [2]) rfl rfl rfl (fun w hw => ?_)
 have hpo : cE e.ports = true := cR (fun i hi => hI.2 i (by omega)) (by omega)
 have hm : aT e = false := by
   focus first
     | (exfalso; omega)
     | (simp [aT, aU, *]
        done)
     | (have r1 : 1 ≤ e.addrs.length := by omega
        have r2 : e.addrs.length ≤ 8 := by omega
        have r3 : ¬ e.addrs = [] := by
          intro h; rw [h] at r1; simp at r1
        simp [aT, aU, *]
        done)
     | (have r1 : ¬ 1 ≤ e.addrs.length := by omega
        have r3 : e.addrs = [] := List.length_eq_zero_iff.1 (by omega)
        simp [aT, aU, *]
        done)
     | (have r1 : 1 ≤ e.addrs.length := by omega
        have r2 : ¬ e.addrs.length ≤ 8 := by omega
        simp [aT, aU, *]
        done)
     | (have q0 : e.addrs = [] := List.length_eq_zero_iff.1 (by omega)
        simp [aT, aU, *]
        done)
     | (have q0 : ¬ e.addrs = [] := by
          intro h; have h9 := congrArg List.length h; rw [List.length_nil] at h9; omega
        simp [aT, aU, *]
        done)
     | (have q0 : e.addrs = [] := List.length_eq_zero_iff.1 (by omega)
        have q1 : e.ports = [] := List.length_eq_zero_iff.1 (by omega)
        simp [aT, aU, *]
        done)
     | (have q0 : e.addrs = [] := List.length_eq_zero_iff.1 (by omega)
        have q1 : ¬ e.ports = [] := by
          intro h; have h9 := congrArg List.length h; rw [List.length_nil] at h9; omega
        simp [aT, aU, *]
        done)
     | (trace_state; fail)
 exact ⟨(), by rw [bS h2_1 (.inr (.inr (.inr hm)))]; rfl, hw.base, (hw.weak (List.nil_sublist _) (fun s hs => hs)).toNews⟩
 refine au (aG rfl rfl) rfl rfl ?_
 refine au (ap rfl) rfl rfl ?_
 refine ax rfl rfl rfl rfl ?_
 refine ax rfl rfl rfl rfl ?_
 refine ax rfl rfl rfl rfl ?_
 refine au (aI rfl rfl) rfl rfl ?_
 refine au (ap rfl) rfl rfl ?_
 refine ax rfl rfl rfl rfl ?_
 refine ax rfl rfl rfl rfl ?_
 refine ax rfl rfl rfl rfl ?_
 refine ax rfl rfl rfl rfl ?_
 refine au (aI rfl rfl) rfl rfl ?_
 refine au (ap rfl) rfl rfl ?_
 refine ax rfl rfl rfl rfl ?_
 refine ax rfl rfl rfl rfl ?_
 refine ax rfl rfl rfl rfl ?_
 refine ax rfl rfl rfl rfl ?_
 refine au (aI rfl rfl) rfl rfl ?_
 refine au (ao rfl) rfl rfl ?_
 refine ah ?_
 refine bo ?_
 refine aq ?_
 refine ar ?_
 refine ar ?_
 refine ai ?_
 refine au (ap rfl) rfl rfl ?_
 refine au (bC rfl) rfl rfl ?_
 refine ah ?_
 refine aq ?_
 refine aA rfl ?_
 refine ar ?_
 refine ai ?_
 refine au (ao rfl) rfl rfl ?_
 refine ah ?_
 refine aq ?_
 refine aQ ?_
 refine ay ?_
 refine aV (ts := [2]) rfl rfl rfl (fun w hw => ?_)
 have hpo : cE e.ports = true := cR (fun i hi => hI.2 i (by omega)) (by omega)
 have hm : aT e = false := by
   focus first
     | (exfalso; omega)
     | (simp [aT, aU, *]
        done)
     | (have r1 : 1 ≤ e.addrs.length := by omega
        have r2 : e.addrs.length ≤ 8 := by omega
        have r3 : ¬ e.addrs = [] := by
          intro h; rw [h] at r1; simp at r1
        simp [aT, aU, *]
        done)
     | (have r1 : ¬ 1 ≤ e.addrs.length := by omega
        have r3 : e.addrs = [] := List.length_eq_zero_iff.1 (by omega)
        simp [aT, aU, *]
        done)
     | (have r1 : 1 ≤ e.addrs.length := by omega
        have r2 : ¬ e.addrs.length ≤ 8 := by omega
        simp [aT, aU, *]
        done)
     | (have q0 : e.addrs = [] := List.length_eq_zero_iff.1 (by omega)
        simp [aT, aU, *]
        done)
     | (have q0 : ¬ e.addrs = [] := by
          intro h; have h9 := congrArg List.length h; rw [List.length_nil] at h9; omega
        simp [aT, aU, *]
        done)
     | (have q0 : e.addrs = [] := List.length_eq_zero_iff.1 (by omega)
        have q1 : e.ports = [] := List.length_eq_zero_iff.1 (by omega)
        simp [aT, aU, *]
        done)
     | (have q0 : e.addrs = [] := List.length_eq_zero_iff.1 (by omega)
        have q1 : ¬ e.ports = [] := by
          intro h; have h9 := congrArg List.length h; rw [List.length_nil] at h9; omega
        simp [aT, aU, *]
        done)
     | (trace_state; fail)
 exact ⟨(), by rw [bS h2_1 (.inr (.inr (.inr hm)))]; rfl, hw.base, (hw.weak (List.nil_sublist _) (fun s hs => hs)).toNews⟩
 refine au (aG rfl rfl) rfl rfl ?_
 refine au (ap rfl) rfl rfl ?_
 refine ax rfl rfl rfl rfl ?_
 refine ax rfl rfl rfl rfl ?_
 refine ax rfl rfl rfl rfl ?_
 refine ax rfl rfl rfl rfl ?_
 refine au (aI rfl rfl) rfl rfl ?_
 refine au (ap rfl) rfl rfl ?_
 refine ax rfl rfl rfl rfl ?_
 refine ax rfl rfl rfl rfl ?_
 refine ax rfl rfl rfl rfl ?_
 refine au (aI rfl rfl) rfl rfl ?_
 refine au (ap rfl) rfl rfl ?_
 refine ax rfl rfl rfl rfl ?_
 refine ax rfl rfl rfl rfl ?_
 refine ax rfl rfl rfl rfl ?_
 refine ax rfl rfl rfl rfl ?_
 refine au (aI rfl rfl) rfl rfl ?_
 refine au (ap rfl) rfl rfl ?_
 refine ax rfl rfl rfl rfl ?_
 refine ax rfl rfl rfl rfl ?_
 refine ax rfl rfl rfl rfl ?_
 refine ax rfl rfl rfl rfl ?_
 refine au (aI rfl rfl) rfl rfl ?_
 refine au (ao rfl) rfl rfl ?_
 refine ah ?_
 refine bo ?_
 refine aq ?_
 refine ar ?_
 refine ar ?_
 refine ai ?_
 refine au (ap rfl) rfl rfl ?_
 refine au (bC rfl) rfl rfl ?_
 refine ah ?_
 refine aq ?_
 refine aA rfl ?_
 refine ar ?_
 refine ai ?_
 refine au (ao rfl) rfl rfl ?_
 refine ah ?_
 refine aq ?_
 refine aQ ?_
 refine ay ?_
 refine aV (ts := [2]) rfl rfl rfl (fun w hw => ?_)
 have hpo : cE e.ports = true := cR (fun i hi => hI.2 i (by omega)) (by omega)
 have hm : aT e = false := by
   focus first
     | (exfalso; omega)
     | (simp [aT, aU, *]
        done)
     | (have r1 : 1 ≤ e.addrs.length := by omega
        have r2 : e.addrs.length ≤ 8 := by omega
        have r3 : ¬ e.addrs = [] := by
          intro h; rw [h] at r1; simp at r1
        simp [aT, aU, *]
        done)
     | (have r1 : ¬ 1 ≤ e.addrs.length := by omega
        have r3 : e.addrs = [] := List.length_eq_zero_iff.1 (by omega)
        simp [aT, aU, *]
        done)
     | (have r1 : 1 ≤ e.addrs.length := by omega
        have r2 : ¬ e.addrs.length ≤ 8 := by omega
        simp [aT, aU, *]
        done)
     | (have q0 : e.addrs = [] := List.length_eq_zero_iff.1 (by omega)
        simp [aT, aU, *]
        done)
     | (have q0 : ¬ e.addrs = [] := by
          intro h; have h9 := congrArg List.length h; rw [List.length_nil] at h9; omega
        simp [aT, aU, *]
        done)
     | (have q0 : e.addrs = [] := List.length_eq_zero_iff.1 (by omega)
        have q1 : e.ports = [] := List.length_eq_zero_iff.1 (by omega)
        simp [aT, aU, *]
        done)
     | (have q0 : e.addrs = [] := List.length_eq_zero_iff.1 (by omega)
        have q1 : ¬ e.ports = [] := by
          intro h; have h9 := congrArg List.length h; rw [List.length_nil] at h9; omega
        simp [aT, aU, *]
        done)
     | (trace_state; fail)
 exact ⟨(), by rw [bS h2_1 (.inr (.inr (.inr hm)))]; rfl, hw.base, (hw.weak (List.nil_sublist _) (fun s hs => hs)).toNews⟩
 refine au (ap rfl) rfl rfl ?_
 refine ax rfl rfl rfl rfl ?_
 refine ax rfl rfl rfl rfl ?_
 refine ax rfl rfl rfl rfl ?_
 refine ax rfl rfl rfl rfl ?_
 refine au (aI rfl rfl) rfl rfl ?_
 refine au (ap rfl) rfl rfl ?_
 refine ax rfl rfl rfl rfl ?_
 refine ax rfl rfl rfl rfl ?_
 refine ax rfl rfl rfl rfl ?_
 refine ax rfl rfl rfl rfl ?_
 refine au (aI rfl rfl) rfl rfl ?_
 refine au (ap rfl) rfl rfl ?_
 refine ax rfl rfl rfl rfl ?_
 refine ax rfl rfl rfl rfl ?_
 refine ax rfl rfl rfl rfl ?_
 refine au (aI rfl rfl) rfl rfl ?_
 refine au (ap rfl) rfl rfl ?_
 refine ax rfl rfl rfl rfl ?_
 refine ax rfl rfl rfl rfl ?_
 refine ax rfl rfl rfl rfl ?_
 refine ax rfl rfl rfl rfl ?_
 refine au (aI rfl rfl) rfl rfl ?_
 refine au (ap rfl) rfl rfl ?_
 refine ax rfl rfl rfl rfl ?_
 refine ax rfl rfl rfl rfl ?_
 refine ax rfl rfl rfl rfl ?_
 refine ax rfl rfl rfl rfl ?_
 refine au (aI rfl rfl) rfl rfl ?_
 refine au (ao rfl) rfl rfl ?_
 refine ah ?_
 refine bo ?_
 refine aq ?_
 refine ar ?_
 refine ar ?_
 refine ai ?_
 refine au (ap rfl) rfl rfl ?_
 refine au (bC rfl) rfl rfl ?_
 refine ah ?_
 refine aq ?_
 refine aA rfl ?_
 refine ar ?_
 refine ai ?_
 refine au (ao rfl) rfl rfl ?_
 refine ah ?_
 refine aq ?_
 refine aQ ?_
 refine ay ?_
 refine aV (ts := [2]) rfl rfl rfl (fun w hw => ?_)
 have hpo : cE e.ports = true := cR (fun i hi => hI.2 i (by omega)) (by omega)
 have hm : aT e = false := by
   focus first
     | (exfalso; omega)
     | (simp [aT, aU, *]
        done)
     | (have r1 : 1 ≤ e.addrs.length := by omega
        have r2 : e.addrs.length ≤ 8 := by omega
        have r3 : ¬ e.addrs = [] := by
          intro h; rw [h] at r1; simp at r1
        simp [aT, aU, *]
        done)
     | (have r1 : ¬ 1 ≤ e.addrs.length := by omega
        have r3 : e.addrs = [] := List.length_eq_zero_iff.1 (by omega)
        simp [aT, aU, *]
        done)
     | (have r1 : 1 ≤ e.addrs.length := by omega
        have r2 : ¬ e.addrs.length ≤ 8 := by omega
        simp [aT, aU, *]
        done)
     | (have q0 : e.addrs = [] := List.length_eq_zero_iff.1 (by omega)
        simp [aT, aU, *]
        done)
     | (have q0 : ¬ e.addrs = [] := by
          intro h; have h9 := congrArg List.length h; rw [List.length_nil] at h9; omega
        simp [aT, aU, *]
        done)
     | (have q0 : e.addrs = [] := List.length_eq_zero_iff.1 (by omega)
        have q1 : e.ports = [] := List.length_eq_zero_iff.1 (by omega)
        simp [aT, aU, *]
        done)
     | (have q0 : e.addrs = [] := List.length_eq_zero_iff.1 (by omega)
        have q1 : ¬ e.ports = [] := by
          intro h; have h9 := congrArg List.length h; rw [List.length_nil] at h9; omega
        simp [aT, aU, *]
        done)
     | (trace_state; fail)
 exact ⟨(), by rw [bS h2_1 (.inr (.inr (.inr hm)))]; rfl, hw.base, (hw.weak (List.nil_sublist _) (fun s hs => hs)).toNews⟩
 refine au (ao rfl) rfl rfl ?_
 refine ah ?_
 refine aq ?_
 refine aC rfl ?_
 refine aS ?_
 refine bo ?_
 refine aq ?_
 refine ar ?_
 refine ar ?_
 refine ai ?_
 refine au (ap rfl) rfl rfl ?_
 refine au (bC rfl) rfl rfl ?_
 refine ah ?_
 refine aq ?_
 refine aA rfl ?_
 refine ar ?_
 refine ai ?_
 refine au (ao rfl) rfl rfl ?_
 refine ah ?_
 refine aq ?_
 refine aQ ?_
 refine ay ?_
 refine aV (ts := [2]) rfl rfl rfl (fun w hw => ?_)
 have hpo : cE e.ports = true := cR (fun i hi => hI.2 i (by omega)) (by omega)
 have hm : aT e = false := by
   focus first
     | (exfalso; omega)
     | (simp [aT, aU, *]
        done)
     | (have r1 : 1 ≤ e.addrs.length := by omega
        have r2 : e.addrs.length ≤ 8 := by omega
        have r3 : ¬ e.addrs = [] := by
          intro h; rw [h] at r1; simp at r1
        simp [aT, aU, *]
        done)
     | (have r1 : ¬ 1 ≤ e.addrs.length := by omega
        have r3 : e.addrs = [] := List.length_eq_zero_iff.1 (by omega)
        simp [aT, aU, *]
        done)
     | (have r1 : 1 ≤ e.addrs.length := by omega
        have r2 : ¬ e.addrs.length ≤ 8 := by omega
        simp [aT, aU, *]
        done)
     | (have q0 : e.addrs = [] := List.length_eq_zero_iff.1 (by omega)
        simp [aT, aU, *]
        done)
     | (have q0 : ¬ e.addrs = [] := by
          intro h; have h9 := congrArg List.length h; rw [List.length_nil] at h9; omega
        simp [aT, aU, *]
        done)
     | (have q0 : e.addrs = [] := List.length_eq_zero_iff.1 (by omega)
        have q1 : e.ports = [] := List.length_eq_zero_iff.1 (by omega)
        simp [aT, aU, *]
        done)
     | (have q0 : e.addrs = [] := List.length_eq_zero_iff.1 (by omega)
        have q1 : ¬ e.ports = [] := by
          intro h; have h9 := congrArg List.length h; rw [List.length_nil] at h9; omega
        simp [aT, aU, *]
        done)
     | (trace_state; fail)
 exact ⟨(), by rw [bS h2_1 (.inr (.inr (.inr hm)))]; rfl, hw.base, (hw.weak (List.nil_sublist _) (fun s hs => hs)).toNews⟩
end Go.Proofs.YtnpdgmoeoidppaaGreat
