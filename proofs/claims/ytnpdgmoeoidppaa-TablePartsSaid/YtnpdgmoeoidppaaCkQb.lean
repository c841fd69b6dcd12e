import Derived.Test.YtnpdgmoeoidppaaCgQb
import Derived.Test.YtnpdgmoeoidppaaPaQb
import Derived.ProofKit
import Derived.Test.YtnpdgmoeoidppaaLlQb
import Derived.ChangeArms
import Derived.ChangeOld
/- the references of addresses, data, records, entries -/
namespace Go.Proofs.Ytnpdgmoeoidppaa
open Go.RowKit Go.Shelf
set_option linter.unusedVariables false
set_option linter.unusedSimpArgs false

set_option maxRecDepth 100000 in
theorem c_Equal_ad (xs ys : List Ad) (A B : Option Addr) (c e : Nat) (hl : xs.length ≤ 1000000000000) : RC Try.prog 91 #[.slice A xs.length c, .slice B ys.length e] [Ch.rd A 3 fY xs, Ch.rd B 3 fY ys] (α := Unit) (fun _ => .bool (decide (xs = ys))) (fun _ => []) := by
 refine bZ (args := [.slice A xs.length c, .slice B ys.length e]) 26 Try.func91 rfl rfl rfl (fun w0 => ?_)
 refine ar ?_
 refine ah ?_
 refine ap (ai rfl) rfl rfl ?_
 refine ae ?_
 refine ao ?_
 refine ar ?_
 refine ar ?_
 refine ah ?_
 refine ap (am rfl) rfl rfl ?_
 refine ap (bI Try.underlying40 rfl) rfl rfl ?_
 refine ap (am rfl) rfl rfl ?_
 refine ap (bI Try.underlying40 rfl) rfl rfl ?_
 refine ap (db rfl rfl) rfl rfl ?_
 refine aC (t := 10) rfl (fun h1_4 => ?_) (fun h1_4 => ?_)
 refine ae ?_
 refine ao ?_
 refine aI rfl ?_
 refine ar ?_
 refine ah ?_
 refine ap (ai rfl) rfl rfl ?_
 refine ae ?_
 refine ao ?_
 refine aV ?_
 refine aB ?_
 refine aY (ts := [4]) rfl rfl rfl (fun w hw => ?_)
 have hne : xs ≠ ys := fun he => by rw [he] at h1_4; exact absurd rfl h1_4
 exact ⟨(), by rw [decide_eq_false hne]; rfl, hw.base, hw.toNews⟩
 refine ae ?_
 refine ao ?_
 refine aN rfl ?_
 refine bd ?_
 refine ao ?_
 refine ar ?_
 refine ar ?_
 refine ah ?_
 refine ap (am rfl) rfl rfl ?_
 refine ap (bI Try.underlying40 rfl) rfl rfl ?_
 refine ap (am rfl) rfl rfl ?_
 refine ae ?_
 refine ao ?_
 refine bn ?_
 refine dd (σ := Nat) [4, 5, 13, 14, 15, 16, 17, 18, 19, 20, 21, 22, 23, 24, 25] (fun k => k ≤ xs.length ∧ xs.take k = ys.take k) (fun k => xs.length - k) (fun k => [(13, .int .i64 k)]) (0) ?_ ⟨rfl, trivial⟩ (fun k hI => ?_)
 exact ⟨Nat.zero_le _, rfl⟩
 refine ar ?_
 refine ah ?_
 refine ap (cV rfl rfl) rfl rfl ?_
 refine aC (t := 14) rfl (fun h4_0 => ?_) (fun h4_0 => ?_)
 refine ae ?_
 refine ao ?_
 refine ar ?_
 refine aI rfl ?_
 refine bd ?_
 refine ao ?_
 refine ar ?_
 refine bn ?_
 refine ar ?_
 refine ah ?_
 refine ap (am rfl) rfl rfl ?_
 refine ap (ai rfl) rfl rfl ?_
 refine ae ?_
 refine ao ?_
 refine ar ?_
 refine dX 9 rfl mixed ?_
 refine aX (i := 0) rfl aa (am rfl) aD aD rfl (aj (aA (aj (aW (aA (aj av)))))) (by kernel_rfl) rfl ?_
 refine aX (i := 1) rfl aa (am rfl) aD aD rfl (aj (aA (aj (aW (aA (aj av)))))) (by kernel_rfl) rfl ?_
 refine aX (i := 2) rfl aa (cj  Try.underlying40 en rfl rfl (cD 0 rfl) rfl (by omega)) aD aD rfl (aj (aA (aj (aW (aA (aj av)))))) (by kernel_rfl) rfl ?_
 refine aX (i := 3) rfl aa (cS gk ad0 en rfl (cD 0 rfl) (by omega) rfl rfl rfl) aD aD rfl (aj (aA (aj (aW (aA (aj av)))))) (by kernel_rfl) rfl ?_
 refine aX (i := 4) rfl aa (am rfl) aD aD rfl (aj (aA (aj (aW (aA (aj av)))))) (by kernel_rfl) rfl ?_
 refine aX (i := 5) rfl aa (am rfl) aD aD rfl (aj (aA (aj (aW (aA (aj av)))))) (by kernel_rfl) rfl ?_
 refine aX (i := 6) rfl aa (cj  Try.underlying40 en rfl rfl (cD 1 rfl) rfl (by omega)) aD aD rfl (aj (aA (aj (aW (aA (aj av)))))) (by kernel_rfl) rfl ?_
 refine aX (i := 7) rfl aa (cS gk ad0 en rfl (cD 1 rfl) (by omega) rfl rfl rfl) aD aD rfl (aj (aA (aj (aW (aA (aj av)))))) (by kernel_rfl) rfl ?_
 refine aX (i := 8) rfl aa (y_nestd (by kernel_rfl) rfl rfl (eqd_ad _ _) rfl) aD aD rfl (aj (aA (aj (aW (aA (aj av)))))) (by kernel_rfl) rfl ?_
 refine gg (t := 24) rfl (fun h6_8 => ?_) (fun h6_8 => ?_)
 refine dm (by kernel_rfl) ?_
 refine ao ?_
 refine aI rfl ?_
 refine ar ?_
 refine ah ?_
 refine ap (ai rfl) rfl rfl ?_
 refine ae ?_
 refine ao ?_
 refine aV ?_
 refine aT ?_
 refine aB ?_
 refine bL ?_
 refine aT ?_
 refine aB ?_
 refine aY (ts := [4]) rfl rfl rfl (fun w hw => ?_)
 focus first
   | (have hne : xs ≠ ys := gz ad0 (k := k) (by simpa using h6_8)
      exact ⟨(), by rw [decide_eq_false hne]; rfl, hw.base, hw.toNews⟩)
   | (have hk : k = xs.length := by omega
      have he : xs = ys := by have := hI.2; rw [hk, List.take_length, List.take_of_length_le (by omega)] at this; exact this
      exact ⟨(), by rw [decide_eq_true he]; rfl, hw.base, hw.toNews⟩)
 refine dm (by kernel_rfl) ?_
 refine ao ?_
 refine aN rfl ?_
 refine bd ?_
 refine bV ?_
 refine ao ?_
 refine ah ?_
 refine ap (bY rfl rfl (by omega) (by omega)) rfl rfl ?_
 refine ap (am rfl) rfl rfl ?_
 refine ae ?_
 refine cr (k + 1) ?_ ?_ ⟨rfl, trivial⟩ (by repeat (first | exact trivial | refine ⟨rfl, ?_⟩)) aD
 exact ⟨by omega, fv ad0 (by omega) (by omega) hI.2 (by simpa using h6_8)⟩
 omega
 refine ae ?_
 refine ao ?_
 refine ar ?_
 refine aN rfl ?_
 refine cz ?_
 refine br ?_
 refine bC ?_
 refine bK ?_
 refine ao ?_
 refine ar ?_
 refine ah ?_
 refine ap (ai rfl) rfl rfl ?_
 refine ae ?_
 refine ao ?_
 refine aV ?_
 refine aY (ts := [4]) rfl rfl rfl (fun w hw => ?_)
 focus first
   | (have hne : xs ≠ ys := gz ad0 (k := k) (by simpa using h6_8)
      exact ⟨(), by rw [decide_eq_false hne]; rfl, hw.base, hw.toNews⟩)
   | (have hk : k = xs.length := by omega
      have he : xs = ys := by have := hI.2; rw [hk, List.take_length, List.take_of_length_le (by omega)] at this; exact this
      exact ⟨(), by rw [decide_eq_true he]; rfl, hw.base, hw.toNews⟩)

set_option maxRecDepth 100000 in
theorem c_Equal_int (xs ys : List Int) (A B : Option Addr) (c e : Nat) (hl : xs.length ≤ 1000000000000) : RC Try.prog 92 #[.slice A xs.length c, .slice B ys.length e] [Ch.rd A 1 eN xs, Ch.rd B 1 eN ys] (α := Unit) (fun _ => .bool (decide (xs = ys))) (fun _ => []) := by
 refine bZ (args := [.slice A xs.length c, .slice B ys.length e]) 26 Try.func92 rfl rfl rfl (fun w0 => ?_)
 refine ar ?_
 refine ah ?_
 refine ap (ai rfl) rfl rfl ?_
 refine ae ?_
 refine ao ?_
 refine ar ?_
 refine ar ?_
 refine ah ?_
 refine ap (am rfl) rfl rfl ?_
 refine ap (bI Try.underlying41 rfl) rfl rfl ?_
 refine ap (am rfl) rfl rfl ?_
 refine ap (bI Try.underlying41 rfl) rfl rfl ?_
 refine ap (db rfl rfl) rfl rfl ?_
 refine aC (t := 10) rfl (fun h1_4 => ?_) (fun h1_4 => ?_)
 refine ae ?_
 refine ao ?_
 refine aI rfl ?_
 refine ar ?_
 refine ah ?_
 refine ap (ai rfl) rfl rfl ?_
 refine ae ?_
 refine ao ?_
 refine aV ?_
 refine aB ?_
 refine aY (ts := [4]) rfl rfl rfl (fun w hw => ?_)
 have hne : xs ≠ ys := fun he => by rw [he] at h1_4; exact absurd rfl h1_4
 exact ⟨(), by rw [decide_eq_false hne]; rfl, hw.base, hw.toNews⟩
 refine ae ?_
 refine ao ?_
 refine aN rfl ?_
 refine bd ?_
 refine ao ?_
 refine ar ?_
 refine ar ?_
 refine ah ?_
 refine ap (am rfl) rfl rfl ?_
 refine ap (bI Try.underlying41 rfl) rfl rfl ?_
 refine ap (am rfl) rfl rfl ?_
 refine ae ?_
 refine ao ?_
 refine bn ?_
 refine dd (σ := Nat) [4, 5, 13, 14, 15, 16, 17, 18, 19, 20, 21, 22, 23, 24, 25] (fun k => k ≤ xs.length ∧ xs.take k = ys.take k) (fun k => xs.length - k) (fun k => [(13, .int .i64 k)]) (0) ?_ ⟨rfl, trivial⟩ (fun k hI => ?_)
 exact ⟨Nat.zero_le _, rfl⟩
 refine ar ?_
 refine ah ?_
 refine ap (cV rfl rfl) rfl rfl ?_
 refine aC (t := 14) rfl (fun h4_0 => ?_) (fun h4_0 => ?_)
 refine ae ?_
 refine ao ?_
 refine ar ?_
 refine aI rfl ?_
 refine bd ?_
 refine ao ?_
 refine ar ?_
 refine bn ?_
 refine ar ?_
 refine ah ?_
 refine ap (am rfl) rfl rfl ?_
 refine ap (ai rfl) rfl rfl ?_
 refine ae ?_
 refine ao ?_
 refine ar ?_
 refine dX 9 rfl mixed ?_
 refine aX (i := 0) rfl aa (am rfl) aD aD rfl (aj (aA (aj (aW (aA (aj av)))))) (by kernel_rfl) rfl ?_
 refine aX (i := 1) rfl aa (am rfl) aD aD rfl (aj (aA (aj (aW (aA (aj av)))))) (by kernel_rfl) rfl ?_
 refine aX (i := 2) rfl aa (cj  Try.underlying41 cW rfl rfl (cD 0 rfl) rfl (by omega)) aD aD rfl (aj (aA (aj (aW (aA (aj av)))))) (by kernel_rfl) rfl ?_
 refine aX (i := 3) rfl aa (cR fZ (0 : Int) cW rfl (cD 0 rfl) (by omega) rfl rfl) aD aD rfl (aj (aA (aj (aW (aA (aj av)))))) (by kernel_rfl) rfl ?_
 refine aX (i := 4) rfl aa (am rfl) aD aD rfl (aj (aA (aj (aW (aA (aj av)))))) (by kernel_rfl) rfl ?_
 refine aX (i := 5) rfl aa (am rfl) aD aD rfl (aj (aA (aj (aW (aA (aj av)))))) (by kernel_rfl) rfl ?_
 refine aX (i := 6) rfl aa (cj  Try.underlying41 cW rfl rfl (cD 1 rfl) rfl (by omega)) aD aD rfl (aj (aA (aj (aW (aA (aj av)))))) (by kernel_rfl) rfl ?_
 refine aX (i := 7) rfl aa (cR fZ (0 : Int) cW rfl (cD 1 rfl) (by omega) rfl rfl) aD aD rfl (aj (aA (aj (aW (aA (aj av)))))) (by kernel_rfl) rfl ?_
 refine aX (i := 8) rfl aa (db rfl rfl) aD aD rfl (aj (aA (aj (aW (aA (aj av)))))) (by kernel_rfl) rfl ?_
 refine gg (t := 24) rfl (fun h6_8 => ?_) (fun h6_8 => ?_)
 refine dm (by kernel_rfl) ?_
 refine ao ?_
 refine aI rfl ?_
 refine ar ?_
 refine ah ?_
 refine ap (ai rfl) rfl rfl ?_
 refine ae ?_
 refine ao ?_
 refine aV ?_
 refine aT ?_
 refine aB ?_
 refine bL ?_
 refine aT ?_
 refine aB ?_
 refine aY (ts := [4]) rfl rfl rfl (fun w hw => ?_)
 focus first
   | (have hne : xs ≠ ys := gz (0 : Int) (k := k) (by simpa using h6_8)
      exact ⟨(), by rw [decide_eq_false hne]; rfl, hw.base, hw.toNews⟩)
   | (have hk : k = xs.length := by omega
      have he : xs = ys := by have := hI.2; rw [hk, List.take_length, List.take_of_length_le (by omega)] at this; exact this
      exact ⟨(), by rw [decide_eq_true he]; rfl, hw.base, hw.toNews⟩)
 refine dm (by kernel_rfl) ?_
 refine ao ?_
 refine aN rfl ?_
 refine bd ?_
 refine bV ?_
 refine ao ?_
 refine ah ?_
 refine ap (bY rfl rfl (by omega) (by omega)) rfl rfl ?_
 refine ap (am rfl) rfl rfl ?_
 refine ae ?_
 refine cr (k + 1) ?_ ?_ ⟨rfl, trivial⟩ (by repeat (first | exact trivial | refine ⟨rfl, ?_⟩)) aD
 exact ⟨by omega, fv (0 : Int) (by omega) (by omega) hI.2 (by simpa using h6_8)⟩
 omega
 refine ae ?_
 refine ao ?_
 refine ar ?_
 refine aN rfl ?_
 refine cz ?_
 refine br ?_
 refine bC ?_
 refine bK ?_
 refine ao ?_
 refine ar ?_
 refine ah ?_
 refine ap (ai rfl) rfl rfl ?_
 refine ae ?_
 refine ao ?_
 refine aV ?_
 refine aY (ts := [4]) rfl rfl rfl (fun w hw => ?_)
 focus first
   | (have hne : xs ≠ ys := gz (0 : Int) (k := k) (by simpa using h6_8)
      exact ⟨(), by rw [decide_eq_false hne]; rfl, hw.base, hw.toNews⟩)
   | (have hk : k = xs.length := by omega
      have he : xs = ys := by have := hI.2; rw [hk, List.take_length, List.take_of_length_le (by omega)] at this; exact this
      exact ⟨(), by rw [decide_eq_true he]; rfl, hw.base, hw.toNews⟩)

/-- Not too much. -/
def ey (e : En) : Bool := decide (e.host.length ≤ 300) && decide (e.alias.length ≤ 300) && decide (e.cluster.length ≤ 300) && decide (e.addrs.length ≤ 20) && decide (e.ports.length ≤ 20)

theorem c_LightEntry (e : En) (A B : Option Addr) (c d : Nat) : em Try.prog 78 #[.agg (enC e A B c d).toArray] (.bool (ey e)) := by
 intro w0
 refine ce (ok0 := no) (S := []) (args := [.agg (enC e A B c d).toArray]) 31 Try.func78 rfl rfl rfl (by simp) (by simp) ?_
 refine ar ?_
 refine ah ?_
 refine cT rfl rfl rfl (fun b1 => ?_)
 refine ap (ai rfl) rfl rfl ?_
 refine ae ?_
 refine ao ?_
 refine ar ?_
 refine ah ?_
 refine ap (aF dA rfl) rfl rfl ?_
 refine ap (aG 0 bF rfl rfl rfl) rfl rfl ?_
 refine ap (dS Try.underlying37 rfl) rfl rfl ?_
 refine ap (eP rfl rfl) rfl rfl ?_
 refine aC (t := 6) rfl (fun h1_3 => ?_) (fun h1_3 => ?_)
 refine ap (am rfl) rfl rfl ?_
 refine aw rfl rfl ?_
 refine ap (aF eY rfl) rfl rfl ?_
 refine aw rfl rfl ?_
 refine ap (aG 0 bF rfl rfl rfl) rfl rfl ?_
 refine aw rfl rfl ?_
 refine ap (dS Try.underlying37 rfl) rfl rfl ?_
 refine aw rfl rfl ?_
 refine ap (eP rfl rfl) rfl rfl ?_
 refine aC (t := 11) rfl (fun h1_8 => ?_) (fun h1_8 => ?_)
 refine ap (aM rfl rfl) rfl rfl ?_
 refine ap (am rfl) rfl rfl ?_
 refine aw rfl rfl ?_
 refine ap (aF fN rfl) rfl rfl ?_
 refine aw rfl rfl ?_
 refine ap (aG 0 cF rfl rfl rfl) rfl rfl ?_
 refine aw rfl rfl ?_
 refine ap (dS Try.underlying9 rfl) rfl rfl ?_
 refine aw rfl rfl ?_
 refine ap (eP rfl rfl) rfl rfl ?_
 refine aC (t := 17) rfl (fun h1_14 => ?_) (fun h1_14 => ?_)
 refine ap (aM rfl rfl) rfl rfl ?_
 refine ap (am rfl) rfl rfl ?_
 refine aw rfl rfl ?_
 refine ap (aF dD rfl) rfl rfl ?_
 refine aw rfl rfl ?_
 refine ap (aG 0 eM rfl rfl rfl) rfl rfl ?_
 refine aw rfl rfl ?_
 refine ap (bI Try.underlying40 rfl) rfl rfl ?_
 refine aw rfl rfl ?_
 refine ap (eP rfl rfl) rfl rfl ?_
 refine aC (t := 23) rfl (fun h1_20 => ?_) (fun h1_20 => ?_)
 refine ap (aM rfl rfl) rfl rfl ?_
 refine ap (am rfl) rfl rfl ?_
 refine aw rfl rfl ?_
 refine ap (aF dR rfl) rfl rfl ?_
 refine aw rfl rfl ?_
 refine ap (aG 0 fh rfl rfl rfl) rfl rfl ?_
 refine aw rfl rfl ?_
 refine ap (bI Try.underlying41 rfl) rfl rfl ?_
 refine aw rfl rfl ?_
 refine ap (eP rfl rfl) rfl rfl ?_
 refine ap (aM rfl rfl) rfl rfl ?_
 refine ap (ai rfl) rfl rfl ?_
 refine ae ?_
 refine ao ?_
 refine aV ?_
 refine aY (ts := [2]) rfl rfl rfl (fun w hw => ?_)
 refine ⟨?_, hw.base⟩
 show Ending.returned (.bool _) = _
 congr 2
 rw [Bool.eq_iff_iff]
 simp only [ey, Bool.and_eq_true, decide_eq_true_eq]
 focus first | omega | (simp; omega) | (trace_state; fail)
 refine ap (aM rfl rfl) rfl rfl ?_
 refine ap (am rfl) rfl rfl ?_
 refine aq rfl rfl rfl rfl ?_
 refine aq rfl rfl rfl rfl ?_
 refine aq rfl rfl rfl rfl ?_
 refine aq rfl rfl rfl rfl ?_
 refine ap (aQ rfl rfl) rfl rfl ?_
 refine ap (ai rfl) rfl rfl ?_
 refine ae ?_
 refine ao ?_
 refine aV ?_
 refine aY (ts := [2]) rfl rfl rfl (fun w hw => ?_)
 refine ⟨?_, hw.base⟩
 show Ending.returned (.bool _) = _
 congr 2
 rw [Bool.eq_iff_iff]
 simp only [ey, Bool.and_eq_true, decide_eq_true_eq]
 focus first | omega | (simp; omega) | (trace_state; fail)
 refine ap (aM rfl rfl) rfl rfl ?_
 refine ap (am rfl) rfl rfl ?_
 refine aq rfl rfl rfl rfl ?_
 refine aq rfl rfl rfl rfl ?_
 refine aq rfl rfl rfl rfl ?_
 refine aq rfl rfl rfl rfl ?_
 refine ap (aQ rfl rfl) rfl rfl ?_
 refine ap (am rfl) rfl rfl ?_
 refine aq rfl rfl rfl rfl ?_
 refine aq rfl rfl rfl rfl ?_
 refine aq rfl rfl rfl rfl ?_
 refine aq rfl rfl rfl rfl ?_
 refine ap (aQ rfl rfl) rfl rfl ?_
 refine ap (ai rfl) rfl rfl ?_
 refine ae ?_
 refine ao ?_
 refine aV ?_
 refine aY (ts := [2]) rfl rfl rfl (fun w hw => ?_)
 refine ⟨?_, hw.base⟩
 show Ending.returned (.bool _) = _
 congr 2
 rw [Bool.eq_iff_iff]
 simp only [ey, Bool.and_eq_true, decide_eq_true_eq]
 focus first | omega | (simp; omega) | (trace_state; fail)
 refine ap (aM rfl rfl) rfl rfl ?_
 refine ap (am rfl) rfl rfl ?_
 refine aq rfl rfl rfl rfl ?_
 refine aq rfl rfl rfl rfl ?_
 refine aq rfl rfl rfl rfl ?_
 refine aq rfl rfl rfl rfl ?_
 refine ap (aQ rfl rfl) rfl rfl ?_
 refine ap (am rfl) rfl rfl ?_
 refine aq rfl rfl rfl rfl ?_
 refine aq rfl rfl rfl rfl ?_
 refine aq rfl rfl rfl rfl ?_
 refine aq rfl rfl rfl rfl ?_
 refine ap (aQ rfl rfl) rfl rfl ?_
 refine ap (am rfl) rfl rfl ?_
 refine aq rfl rfl rfl rfl ?_
 refine aq rfl rfl rfl rfl ?_
 refine aq rfl rfl rfl rfl ?_
 refine aq rfl rfl rfl rfl ?_
 refine ap (aQ rfl rfl) rfl rfl ?_
 refine ap (ai rfl) rfl rfl ?_
 refine ae ?_
 refine ao ?_
 refine aV ?_
 refine aY (ts := [2]) rfl rfl rfl (fun w hw => ?_)
 refine ⟨?_, hw.base⟩
 show Ending.returned (.bool _) = _
 congr 2
 rw [Bool.eq_iff_iff]
 simp only [ey, Bool.and_eq_true, decide_eq_true_eq]
 focus first | omega | (simp; omega) | (trace_state; fail)
 refine ap (am rfl) rfl rfl ?_
 refine aq rfl rfl rfl rfl ?_
 refine aq rfl rfl rfl rfl ?_
 refine aq rfl rfl rfl rfl ?_
 refine aq rfl rfl rfl rfl ?_
 refine ap (aQ rfl rfl) rfl rfl ?_
 refine ap (am rfl) rfl rfl ?_
 refine aq rfl rfl rfl rfl ?_
 refine aq rfl rfl rfl rfl ?_
 refine aq rfl rfl rfl rfl ?_
 refine aq rfl rfl rfl rfl ?_
 refine ap (aQ rfl rfl) rfl rfl ?_
 refine ap (am rfl) rfl rfl ?_
 refine aq rfl rfl rfl rfl ?_
 refine aq rfl rfl rfl rfl ?_
 refine aq rfl rfl rfl rfl ?_
 refine aq rfl rfl rfl rfl ?_
 refine ap (aQ rfl rfl) rfl rfl ?_
 refine ap (am rfl) rfl rfl ?_
 refine aq rfl rfl rfl rfl ?_
 refine aq rfl rfl rfl rfl ?_
 refine aq rfl rfl rfl rfl ?_
 refine aq rfl rfl rfl rfl ?_
 refine ap (aQ rfl rfl) rfl rfl ?_
 refine ap (ai rfl) rfl rfl ?_
 refine ae ?_
 refine ao ?_
 refine aV ?_
 refine aY (ts := [2]) rfl rfl rfl (fun w hw => ?_)
 refine ⟨?_, hw.base⟩
 show Ending.returned (.bool _) = _
 congr 2
 rw [Bool.eq_iff_iff]
 simp only [ey, Bool.and_eq_true, decide_eq_true_eq]
 focus first | omega | (simp; omega) | (trace_state; fail)

end Go.Proofs.Ytnpdgmoeoidppaa

/- From a law's call that answers true and turns nothing that lay, to what its row asks. -/
namespace Go.Proofs.Ytnpdgmoeoidppaa
open Go.RowKit Go.Shelf Go.ChangeShapes Go.WideShapes Go.ChangeAt
set_option linter.unusedVariables false

theorem stay_all {H : Type} {enc : TypeId × Value → H} {P : Program} (hl : laidOutB P = true) {W W' : World} (hb : Below W.heap.size W W') :
    ∀ {ts : List TypeId} {vs : List Value} {ds : List (DataW H)} {ps : List MemPlace}, ts.all (fun t => P.readableRec t && decide (t < P.types.size)) = true → (∀ x ∈ ps, x.block < W.heap.size) →
      DataW.TrodAll enc P W 0 (fun _ => true) true ts vs ds ps → DataW.TrodAll enc P W' 0 (fun b => decide (b < W.heap.size)) true ts vs ds ps
  | [], [], [], _, _, _, h => h
  | [], [], _ :: _, _, _, _, h => h.elim
  | [], _ :: _, _, _, _, _, h => h.elim
  | _ :: _, [], _, _, _, _, h => h.elim
  | _ :: _, _ :: _, [], _, _, _, h => h.elim
  | t :: ts, v :: vs, d :: ds, ps, hr, hlt, h => by
    obtain ⟨p, q, h1, h2, rfl⟩ := h
    simp only [List.all_cons, Bool.and_eq_true, decide_eq_true_eq] at hr
    exact ⟨p, q, Below.trod hl hr.1.1 hr.1.2 h1 hb (fun x hx => hlt x (List.mem_append_left _ hx)), stay_all hl hb hr.2 (fun x hx => hlt x (List.mem_append_right _ hx)) h2, rfl⟩
theorem keptBut_of {W W' : World} (hb : Upd no W W') (may : MemPlace → Prop) : W.keptBut W' may := by
  refine ⟨hb.os, hb.output, fun i hi => ?_⟩
  rw [hb.block i hi id]
  cases W.heap[i]? with
  | none => rfl
  | some o => cases o <;> simp
theorem law_post {H : Type} {enc : TypeId × Value → H} {P : Program} {f : Func} {s : ChangeSpec} {W W' : World} {args : Array Value} {ds : List (DataW H)} {p : List MemPlace} {tb : TypeId} (hl : laidOutB P = true) (hr : f.params.toList.all (fun t => P.readableRec t && decide (t < P.types.size)) = true) (hv : s.vars = [])
    (hW : DataW.Whole enc P f.params.toList s.vars false W args.toList ds [] p) (hs : s.fn H (ds ++ []) = { results := [.lit (.bool true)], args := ds }) (hrt : f.resultTypes = #[tb]) (hb : P.underlying tb = some .bool) (hu : Upd no W W') :
    s.post enc P f false true false false W args (.bool true) W' := by
  have hlt := hW.lt
  obtain ⟨q, r, h1, h2, rfl, h3, h4⟩ := id hW
  refine ⟨ds, [], q ++ r, [], q, r, hW, ?_, ?_, ?_, ?_, nofun⟩
  · rw [hs, hrt]
    exact trodAll_mk1 (shut_bool hb true)
  · rw [hs]
    exact stay_all hl hu.below hr (fun x hx => hlt x (List.mem_append_left _ hx)) h1
  · rw [hs, hv] at *
    exact h2
  · exact keptBut_of hu _
theorem op_str {P : Program} {W : World} {base : Nat} {t : TypeId} {v : Value} (ht : P.underlying t = some .string) (h : Value.okWide P W .any base t v) : ∃ s : bg, v = .string (ba s) ∧ s.length ≤ 9223372036854775807 := by
  have h2 : IntKind.i64.max = 9223372036854775807 := rfl
  cases v with
  | string s =>
    refine ⟨ls s, rfl, ?_⟩
    have : (s.size : Int) ≤ IntKind.i64.max := by simpa [Value.okWide, Cell.okWide, Cell.ok, ht] using h
    have e : (ls s).length = s.size := by simp [ls]
    omega
  | _ => simp [Value.okWide, Cell.okWide, Cell.ok, ht] at h
theorem op_int {H : Type} {enc : TypeId × Value → H} {P : Program} {W w : World} {base b0 : Nat} {sp : Nat → Bool} {hd : Bool} {t : TypeId} {k : IntKind} {v : Value} {d : DataW H} {ps : List MemPlace} (ht : P.underlying t = some (.int k)) (hval : Value.okWide P W .any base t v) (h : DataW.Trod enc P w b0 sp hd t v d ps) :
    ∃ n, v = .int k n ∧ k.min ≤ n ∧ n ≤ k.max := by
  obtain ⟨n, rfl⟩ := okWide_int ht hval
  obtain ⟨fuel, hf⟩ := h
  obtain ⟨n', h1, h2, h3⟩ := DataW.trod_int ht hf
  simp [Value.cells] at h1
  subst h1
  simp only [Lit.wf, Bool.and_eq_true, decide_eq_true_eq] at h3
  exact ⟨n, rfl, h3⟩
end Go.Proofs.Ytnpdgmoeoidppaa

/- A law's arguments opened: what a decoded value is, and which chunks it reads. Elements of arrays. -/
namespace Go.Proofs.Ytnpdgmoeoidppaa
open Go.RowKit Go.Shelf
set_option linter.unusedVariables false
set_option linter.unusedSimpArgs false

/-- What decodes at a type is an encoding; its chunks lie; so much is known. -/
def Dc (P : Program) (w : World) (t : TypeId) {α : Type} (V : α → List Value) (R : α → List Ch) (Ok : α → Prop) : Prop :=
  ∀ (H : Type) (enc : TypeId × Value → H) (base : Nat) (sp : Nat → Bool) (hd : Bool) (fuel : Nat) (cs : List Value) (x : DataW H × List MemPlace), DataW.trod enc P w base sp hd fuel t cs = some x →
    ∃ a, cs = V a ∧ Rd (R a) w ∧ Ok a
section
variable {P : Program} {w : World} {t : TypeId}
theorem dc_bool (ht : P.underlying t = some .bool) : Dc P w t (fun b : Bool => [.bool b]) (fun _ => []) (fun _ => True) := fun H enc base sp hd fuel cs x h => by
  obtain ⟨b, rfl, _⟩ := DataW.trod_bool ht h
  exact ⟨b, rfl, nofun, trivial⟩
theorem gU {k : IntKind} (ht : P.underlying t = some (.int k)) : Dc P w t (fun n : Int => [.int k n]) (fun _ => []) (fun n => k.min ≤ n ∧ n ≤ k.max) := fun H enc base sp hd fuel cs x h => by
  obtain ⟨n, rfl, _, h3⟩ := DataW.trod_int ht h
  simp only [Lit.wf, Bool.and_eq_true, decide_eq_true_eq] at h3
  exact ⟨n, rfl, nofun, h3⟩
theorem dc_str (ht : P.underlying t = some .string) : Dc P w t (fun s : bg => [.string (ba s)]) (fun _ => []) (fun s => s.length ≤ 9223372036854775807) := fun H enc base sp hd fuel cs x h => by
  obtain ⟨s, rfl, _, h3⟩ := DataW.trod_string ht h
  have e : (ls s).length = s.size := by simp [ls]
  have h2 : maxLen = 9223372036854775807 := by decide
  exact ⟨ls s, rfl, nofun, by omega⟩
theorem choose_list {α : Type} {p : Nat → α → Prop} : ∀ (n : Nat), (∀ i, i < n → ∃ a, p i a) → ∃ l : List α, l.length = n ∧ ∀ i a, l[i]? = some a → p i a
  | 0, _ => ⟨[], rfl, fun i a h => by simp at h⟩
  | n + 1, h => by
    obtain ⟨l, hl, hp⟩ := choose_list n (fun i hi => h i (by omega))
    obtain ⟨a, ha⟩ := h n (by omega)
    refine ⟨l ++ [a], by simp [hl], fun i b hb => ?_⟩
    by_cases hi : i < n
    · rw [List.getElem?_append_left (by omega)] at hb; exact hp i b hb
    · rw [List.getElem?_append_right (by omega)] at hb
      have : i = n := by
        have := (List.getElem?_eq_some_iff.1 hb).1; simp at this; omega
      subst this
      rw [hl, Nat.sub_self] at hb
      simp at hb; subst hb; exact ha
theorem fl_at2 {α : Type} {V : α → List Value} {sz : Nat} (hV : ∀ a, (V a).length = sz) : ∀ (l : List α) (k f : Nat) (a : α), l[k]? = some a → f < sz → (fl V l)[k * sz + f]? = (V a)[f]?
  | [], k, f, a, h, _ => by simp at h
  | b :: l, 0, f, a, h, hf => by
    simp at h; subst h
    show (V b ++ fl V l)[_]? = _
    rw [Nat.zero_mul, Nat.zero_add, List.getElem?_append_left (by rw [hV]; exact hf)]
  | b :: l, k + 1, f, a, h, hf => by
    show (V b ++ fl V l)[_]? = _
    rw [List.getElem?_append_right (by rw [hV, Nat.succ_mul]; omega), hV]
    have := fl_at2 hV l k f a (by simpa using h) hf
    rw [← this]; congr 1; rw [Nat.succ_mul]; omega
/-- A slice: where it lies, what it holds; the chunks of its elements. -/
theorem jd {e : TypeId} {α : Type} {V : α → List Value} {R : α → List Ch} {Ok : α → Prop} {sz : Nat} (ht : P.underlying t = some (.slice e)) (hc : P.cellsOf e = sz) (hz : 0 < sz) (hV : Enc V sz) (he : Dc P w e V R Ok) :
    Dc P w t (fun p : List α × Option Addr × Nat => [.slice p.2.1 p.1.length p.2.2]) (fun p => Ch.rd p.2.1 sz V p.1 :: p.1.flatMap R) (fun p => p.1.length ≤ 9223372036854775807 ∧ ∀ a ∈ p.1, Ok a) := fun H enc base sp hd fuel cs x h => by
  rcases DataW.trod_slice ht h with ⟨rfl, rfl⟩ | ⟨a, len, cap, els, rest, n, rfl, rfl, rfl, hb, h1, h2, h3, h4, _⟩
  · exact ⟨([], none, 0), rfl, ak ⟨⟨by simp [fl], (by simp [fl]), .inl rfl⟩, fun b hb => by simp [Ch.rd, Ch.rs] at hb⟩ nofun, by simp, nofun⟩
  · subst hc
    have key : ∀ i, i < len → ∃ y : α, (∀ j, j < P.cellsOf e → w.cell? (a.add (i * P.cellsOf e + j)) = (V y)[j]?) ∧ Rd (R y) w ∧ Ok y ∧ (0 < P.cellsOf e → a.block < w.heap.size ∧ a.spot = none) := fun i hi => by
      have h5 := h4 i hi
      cases hcs : w.cells? base (a.add (i * P.cellsOf e)) (P.cellsOf e) with
      | none =>
        rw [hcs, List.getElem?_eq_getElem (by omega)] at h5; simp at h5
      | some cs =>
        rw [hcs, List.getElem?_eq_getElem (by omega)] at h5
        obtain ⟨y, rfl, hR, hO⟩ := he H enc base sp hd n cs _ h5
        obtain ⟨_, _, h6⟩ := World.cells?_some hcs
        have h7 : ∀ j, j < P.cellsOf e → w.cell? (a.add (i * P.cellsOf e + j)) = (V y)[j]? := fun j hj => by
          rw [← h6 j hj]; congr 1
          unfold Addr.add
          split
          · rename_i hz
            have : i * P.cellsOf e = 0 := by omega
            have : j = 0 := by omega
            simp [*]
          · split
            · split
              · omega
              · simp_all
            · split
              · simp_all
              · simp; omega
        refine ⟨y, h7, hR, hO, fun hp => ?_⟩
        have h8 := World.cells?_block hcs hp
        have h9 : (a.add (i * P.cellsOf e)).block = a.block := by unfold Addr.add; split <;> rfl
        rw [h9] at h8
        refine ⟨h8, ?_⟩
        cases hs : a.spot with
        | none => rfl
        | some s =>
          exfalso
          by_cases hi0 : i * P.cellsOf e = 0
          · have h10 := h7 0 hp
            have h11 : a.add (i * P.cellsOf e + 0) = a := by unfold Addr.add; rw [if_pos (by omega)]
            rw [h11, List.getElem?_eq_getElem (by rw [hV.len]; exact hp)] at h10
            unfold World.cell? at h10
            simp [hs] at h10
            split at h10 <;> simp at h10
          · have h12 := h4 0 (by omega)
            cases hcs0 : w.cells? base (a.add (0 * P.cellsOf e)) (P.cellsOf e) with
            | none => rw [hcs0, List.getElem?_eq_getElem (by omega)] at h12; simp at h12
            | some cs0 =>
              obtain ⟨_, h14, h13⟩ := World.cells?_some hcs0
              have h15 := h13 0 hp
              have h16 : (a.add (0 * P.cellsOf e)).add 0 = a := by simp [Addr.add]
              rw [h16, List.getElem?_eq_getElem (by omega)] at h15
              unfold World.cell? at h15
              simp [hs] at h15
              split at h15 <;> simp at h15
    obtain ⟨l, hl, hp⟩ := choose_list len key
    have hsz : (fl V l).length = l.length * P.cellsOf e := d5 hV.len l
    refine ⟨(l, some a, cap), by rw [← hl], List.forall_mem_cons.2 ⟨⟨⟨hsz, ?_, ?_⟩, ?_⟩, ?_⟩, ?_, ?_⟩
    · intro u hu
      simp only [fl, List.mem_flatten, List.mem_map] at hu
      obtain ⟨_, ⟨b, _, rfl⟩, hu⟩ := hu
      exact List.all_eq_true.1 (hV.one b) u hu
    · rcases Nat.eq_zero_or_pos l.length with h0 | h0
      · exact .inl h0
      · refine .inr ⟨a.block, a.off, ?_, fun i hi => ?_⟩
        · obtain ⟨y, hy⟩ : ∃ y, l[0]? = some y := ⟨_, List.getElem?_eq_getElem h0⟩
          have h17 := ((hp 0 y hy).2.2.2 hz).2
          show some a = _
          congr 1
          cases a
          simp only at h17
          rw [h17]
        · have hk : i / P.cellsOf e < l.length := by
            rw [Nat.div_lt_iff_lt_mul hz, ← hsz]; exact hi
          obtain ⟨y, hy⟩ : ∃ y, l[i / P.cellsOf e]? = some y := ⟨_, List.getElem?_eq_getElem hk⟩
          have hm : i % P.cellsOf e < P.cellsOf e := Nat.mod_lt _ hz
          have e1 : i / P.cellsOf e * P.cellsOf e + i % P.cellsOf e = i := by rw [Nat.mul_comm]; exact Nat.div_add_mod i _
          have q := (hp _ y hy).1 _ hm
          rw [e1] at q
          have q2 := fl_at2 hV.len l _ _ y hy hm
          rw [e1] at q2
          rw [q2, ← q]
          have hsp := ((hp _ y hy).2.2.2 hz).2
          congr 1
          unfold Addr.add
          split
          · rename_i h0; subst h0; cases a; simp_all
          · rfl
    · rintro b ⟨hb0, hb⟩
      simp at hb; subst hb
      obtain ⟨y, hy⟩ : ∃ y, l[0]? = some y := ⟨_, List.getElem?_eq_getElem hb0⟩
      exact ((hp 0 y hy).2.2.2 hz).1
    · intro s hs
      obtain ⟨y, hy, hs⟩ := List.mem_flatMap.1 hs
      obtain ⟨i, hi, rfl⟩ := List.mem_iff_getElem.1 hy
      exact (hp i _ (List.getElem?_eq_getElem hi)).2.1 s hs
    · have h3 : maxLen = 9223372036854775807 := by decide
      show l.length ≤ _
      omega
    · intro y hy
      obtain ⟨i, hi, rfl⟩ := List.mem_iff_getElem.1 hy
      exact (hp i _ (List.getElem?_eq_getElem hi)).2.2.1
theorem cutn {cs : List Value} {n : Nat} (h : cs.length = n) : cs.drop n = [] := List.drop_of_length_le (by omega)
theorem gW {cs v r : List Value} {a b k : Nat} (h : (cs.drop a).take k = v) (hr : cs.drop b = r) (e : a + k = b) : cs.drop a = v ++ r := by
  rw [← h, ← hr, ← e, ← List.drop_drop, List.take_append_drop]
theorem cut0 {cs v : List Value} (h : cs.drop 0 = v) : cs = v := h
/-- A struct's field. -/
theorem dp {H : Type} {enc : TypeId × Value → H} {base : Nat} {sp : Nat → Bool} {hd : Bool} {n : Nat} {cs : List Value} {fs : Array Field} {xs : List (DataW H × List MemPlace)} {α : Type} {V : α → List Value} {R : α → List Ch} {Ok : α → Prop}
    (hxl : xs.length = fs.size) (hf : ∀ (i : Nat) (f : Field), fs[i]? = some f → DataW.trod enc P w base sp hd n f.type ((cs.drop f.offset).take (P.cellsOf f.type)) = xs[i]?) (i : Nat) {ft : TypeId} {off k : Nat} (hi : (fs[i]?).map (fun f => (f.type, f.offset)) = some (ft, off)) (hk : P.cellsOf ft = k) (h : Dc P w ft V R Ok) :
    ∃ a, (cs.drop off).take k = V a ∧ Rd (R a) w ∧ Ok a := by
  subst hk
  cases hfi : fs[i]? with
  | none => rw [hfi] at hi; cases hi
  | some f =>
    rw [hfi] at hi
    simp only [Option.map_some, Option.some.injEq, Prod.mk.injEq] at hi
    obtain ⟨rfl, rfl⟩ := hi
    have h1 := hf i f hfi
    have h2 : i < fs.size := (Array.getElem?_eq_some_iff.1 hfi).1
    rw [List.getElem?_eq_getElem (by omega)] at h1
    exact h H enc base sp hd n _ _ h1
/-- An argument of a law's row: a struct, a slice. -/
theorem op_agg {H : Type} {enc : TypeId × Value → H} {W : World} {base b0 : Nat} {sp : Nat → Bool} {hd : Bool} {v : Value} {d : DataW H} {ps : List MemPlace} {fs : Array Field} {α : Type} {V : α → List Value} {R : α → List Ch} {Ok : α → Prop} (ht : P.underlying t = some (.struct fs)) (hval : Value.okWide P W .any base t v) (h : DataW.Trod enc P w b0 sp hd t v d ps) (hd : Dc P w t V R Ok) :
    ∃ a, v = .agg (V a).toArray ∧ Rd (R a) w ∧ Ok a := by
  simp only [Value.okWide, ht] at hval
  obtain ⟨cs, rfl, _⟩ := hval
  obtain ⟨fuel, hf⟩ := h
  obtain ⟨a, h1, h2, h3⟩ := hd _ _ _ _ _ _ _ _ hf
  simp only [Value.cells] at h1
  exact ⟨a, by rw [← h1], h2, h3⟩
end
/-- Of each slot only what was put last. -/
def Kn2 (l' : Fr) : List Nat → Fr → Prop
  | _, [] => True
  | seen, (t, v) :: r => match seen.elem t with
    | true => Kn2 l' seen r
    | false => look l' t = some v ∧ Kn2 l' (t :: seen) r
theorem Kn2.look {l' : Fr} : ∀ {seen : List Nat} {l : Fr}, Kn2 l' seen l → ∀ t v, Go.Proofs.Ytnpdgmoeoidppaa.look l t = some v → seen.elem t = false → Go.Proofs.Ytnpdgmoeoidppaa.look l' t = some v
  | seen, [], _, t, v, h, _ => by cases h
  | seen, (t0, v0) :: r, h, t, v, ht, hs => by
    rw [Kn2] at h
    simp only [Go.Proofs.Ytnpdgmoeoidppaa.look] at ht
    cases e : Nat.beq t0 t with
    | true =>
      have e2 := Nat.eq_of_beq_eq_true e; subst e2
      rw [hs] at h
      rw [e] at ht
      cases ht; exact h.1
    | false =>
      rw [e] at ht
      have hne : ¬ t = t0 := fun h2 => Nat.ne_of_beq_eq_false e h2.symm
      cases h0 : seen.elem t0 with
      | true => rw [h0] at h; exact Kn2.look h t v ht hs
      | false => rw [h0] at h; exact Kn2.look h.2 t v ht (by rw [List.elem_cons, hs, beq_eq_false_iff_ne.2 hne])
section
variable {x : Cx} {l : Fr} {L S : List Ch} {Q : Exit → Act → World → Prop} {d : Nat} {ty : TypeId} {pos : String} {af : Array Edge} {gd : Option (Nat × Bool)}
/-- A loop that turns the chunks ahead. -/
theorem w_loopL {c : Code} {σ : Type} {L0 : List Ch} (ts : List Nat) (I : σ → Prop) (μ : σ → Nat) (lf : σ → Fr) (C : σ → List Ch) (g0 : σ) (h0 : I g0) (hk : Knows l (lf g0)) (hc : L = C g0 ++ L0)
    (body : ∀ g, I g → W x (lf g ++ fK ts l) (C g ++ L0) S c (Ql x I lf (fun g => C g ++ L0) (fun _ => S) (fK ts l) (fun g' => μ g' < μ g) Q)) : W x l L S (.loop c) Q :=
  w_loop ts I μ lf (fun g => C g ++ L0) (fun _ => S) g0 h0 hk (fun _ h => hc ▸ h) body
end
/-! Where several operations may come up: each of them. -/
def WR (x : Cx) (C : World → Prop) (m : Nat) (ops : Array Oper) (fuel : Nat) (listed : Array Bool) (js : List Nat) (l : Fr) (L S : List Ch) (Q : Exit → Act → World → Prop) : Prop :=
  ∀ i ∈ js, ∀ a w, Kn x.N x.ds l a → Hp x.ok0 x.w0 L S w → wpOp x.P ops Q i (fun a' w' => (i < m → C w') ∧ ip x.P ops Q C m fuel (listed.setIfInBounds i true) a' w') a w
section
variable {x : Cx} {C : World → Prop} {l : Fr} {L S : List Ch} {Q : Exit → Act → World → Prop} {ops : Array Oper} {fuel m : Nat} {listed : Array Bool}
theorem a_many {js : List Nat} (hr : Region.ready .any ops listed = js) (hne : js.isEmpty = false) (h : WR x C m ops fuel listed js l L S Q) : WA x C m ops (fuel + 1) listed l L S Q := fun a w ha hh =>
  ⟨fun h0 => by rw [hr] at h0; subst h0; simp at hne, fun j hj => h j (hr ▸ hj) a w ha hh⟩
theorem wr_nil : WR x C m ops fuel listed [] l L S Q := fun i hi => by cases hi
theorem wr_cons {js : List Nat} {o : Oper} {i : Nat} {listed' : Array Bool} (hro : x.ro = none) (hi : ops[i]? = some o) (hnd : Op.isDefer o.op = false) (ht : ∀ a w, Kn x.N x.ds l a → Tame ((execOp a.eval o).run x.P w)) (hl : listed.setIfInBounds i true = listed')
    (h : WL x l L S ops [o] (Qn x C m i ops fuel listed' Q)) (k : WR x C m ops fuel listed js l L S Q) : WR x C m ops fuel listed (i :: js) l L S Q := fun j hj => by
  rcases List.mem_cons.1 hj with rfl | hj
  · intro a w ha hh
    rw [hl]
    refine gH hi ?_
    have h1 := h a w ha hh
    rw [hro] at h1
    unfold wpListIn at h1
    unfold wpList
    split
    · rename_i hw
      rw [if_pos hw] at h1
      obtain ⟨_, h1⟩ := h1
      have e : Oper.semAt (fw none).round a.eval o = execOp a.eval o := rfl
      rw [e] at h1
      refine .inl ?_
      unfold Oper.wp
      have ht' := ht a w ha
      cases hx : (execOp a.eval o).run x.P w with
      | halt hh w' => rw [hx] at h1; cases hh <;> exact h1
      | ok n w' =>
        rw [hx] at h1 ht'
        cases n with
        | value v => exact h1
        | skip => exact h1
        | enter f args =>
          have := (callsIn_wide (n := 0 - 1)).1 (show CallsIn Fence.wide (0 - 1) x.P f args w' _ from h1.2)
          exact cB this fun e w'' hR => by cases e <;> exact hR
        | _ => exact ht'.elim
    · rename_i hw
      rw [if_neg hw] at h1
      exact h1.2
  · exact k j hj
end
/-! Regions with open order once more: C is kept as long as nothing of the tail has come up. -/
def eu (m : Nat) (listed : Array Bool) : Bool := (List.range listed.size).all fun t => Nat.blt t m || !(listed.getD t false)
theorem getD_set_ne' {l : Array Bool} {i j : Nat} {v d : Bool} (h : i ≠ j) : (l.setIfInBounds i v).getD j d = l.getD j d := by
  simp [Array.getD_eq_getD_getElem?, Array.getElem?_setIfInBounds_ne h]
theorem eU {m : Nat} {listed : Array Bool} {j : Nat} (h : eu m listed = true) (hj : j < m) : eu m (listed.setIfInBounds j true) = true := by
  simp only [eu, List.all_eq_true, List.mem_range, Array.size_setIfInBounds, Bool.or_eq_true] at h ⊢
  intro t ht
  rcases h t ht with h1 | h1
  · exact .inl h1
  · by_cases e : j = t
    · subst e; exact .inl (Nat.ble_eq_true_of_le hj)
    · right
      rw [getD_set_ne' e]; exact h1
def io (P : Program) (ops : Array Oper) (Q : Exit → Act → World → Prop) (C : World → Prop) (m : Nat) : Nat → Array Bool → Act → World → Prop
  | 0, listed, a, _w => Region.ready .any ops listed = [] ∧ Q .normal a _w
  | fuel + 1, listed, a, w =>
    (Region.ready .any ops listed = [] → Q .normal a w) ∧
    ∀ i ∈ Region.ready .any ops listed, wpOp P ops Q i (fun a' w' => (eu m (listed.setIfInBounds i true) = true → C w') ∧ io P ops Q C m fuel (listed.setIfInBounds i true) a' w') a w
theorem wpAny_of_U {P : Program} {ops : Array Oper} {Q : Exit → Act → World → Prop} {C : World → Prop} {m : Nat} : ∀ (fuel : Nat) (listed : Array Bool) (a : Act) (w : World), io P ops Q C m fuel listed a w → wpAny P .any ops Q fuel listed a w
  | 0, _, _, _, h => h
  | fuel + 1, _, _, _, h => ⟨h.1, fun i hi => wpOp_mono (fun a' w' h' => wpAny_of_U fuel _ a' w' h'.2) (h.2 i hi)⟩
/-- .. waits for it, through others. -/
def waits (ops : Array Oper) : Nat → Nat → Nat → Bool
  | 0, _, _ => false
  | f + 1, t, i => match ops[t]? with
    | some o => o.after.any fun e => Region.binds .any e && (e.on == i || waits ops f e.on i)
    | none => false
def iC (ops : Array Oper) (m i : Nat) : Bool := (List.range ops.size).all fun t => Nat.blt t m || waits ops ops.size t i
def iN (ops : Array Oper) (listed : Array Bool) : Bool := (List.range ops.size).all fun k => !(listed.getD k false) || match ops[k]? with
  | some o => o.after.all fun e => !(Region.binds .any e) || listed.getD e.on false
  | none => true
def g6 (ops : Array Oper) (listed : Array Bool) : Prop := ∀ k o, ops[k]? = some o → listed.getD k false = true → ∀ e ∈ o.after, Region.binds .any e = true → listed.getD e.on false = true
theorem closed_of {ops : Array Oper} {listed : Array Bool} (h : iN ops listed = true) : g6 ops listed := fun k o ho hk e he hb => by
  simp only [iN, List.all_eq_true, List.mem_range] at h
  have h1 := h k (Array.getElem?_eq_some_iff.1 ho).1
  simp only [hk, ho, Bool.not_true, Bool.false_or] at h1
  have h2 := Array.all_eq_true'.1 h1 e he
  simpa [hb] using h2
theorem gC {ops : Array Oper} {listed : Array Bool} (hc : g6 ops listed) {i : Nat} : ∀ (f t : Nat) (o : Oper), ops[t]? = some o → (∀ e ∈ o.after, Region.binds .any e = true → listed.getD e.on false = true) → waits ops f t i = true → listed.getD i false = true
  | 0, _, _, _, _, h => by cases h
  | f + 1, t, o, ho, hd, h => by
    rw [waits, ho] at h
    obtain ⟨e, he, hb⟩ := Array.any_eq_true'.1 h
    simp only [Bool.and_eq_true, Bool.or_eq_true, beq_iff_eq] at hb
    have hl := hd e he hb.1
    rcases hb.2 with h1 | h1
    · rw [← h1]; exact hl
    · cases hoe : ops[e.on]? with
      | none =>
        exfalso
        cases f with
        | zero => cases h1
        | succ f =>
          rw [waits, hoe] at h1
          cases h1
      | some oe => exact gC hc f e.on oe hoe (fun e2 h2 h3 => hc e.on oe hoe hl e2 h2 h3) h1
theorem closed_set {ops : Array Oper} {listed : Array Bool} {j : Nat} {oj : Oper} (h : g6 ops listed) (hoj : ops[j]? = some oj) (hd : ∀ e ∈ oj.after, Region.binds .any e = true → listed.getD e.on false = true) : g6 ops (listed.setIfInBounds j true) := fun k o ho hk e he hb => by
  have mono : ∀ q, listed.getD q false = true → (listed.setIfInBounds j true).getD q false = true := fun q hq => by
    by_cases e2 : j = q
    · subst e2
      have : j < listed.size := by
        rcases Nat.lt_or_ge j listed.size with h' | h'
        · exact h'
        · simp [Array.getElem?_eq_none h'] at hq
      simp [this]
    · rw [getD_set_ne' e2]; exact hq
  refine mono _ ?_
  by_cases e2 : j = k
  · subst e2; rw [hoj] at ho; cases ho; exact hd e he hb
  · rw [getD_set_ne' e2] at hk; exact h k o ho hk e he hb
theorem wpAnyU_first {P : Program} {ops : Array Oper} {Q : Exit → Act → World → Prop} {C : World → Prop} {m i : Nat} {oi : Oper} {v : Value} (hi : ops[i]? = some oi) (hsel : ∀ (j : Nat) (o : Oper) cs b, ops[j]? = some o → o.op ≠ .select cs b)
    (hQ : ∀ c a w, Q (.panic c) (a.put oi.dst v) w → Q (.panic c) a w) (hm : iC ops m i = true) (him : i < m) :
    ∀ (fuel : Nat) (listed : Array Bool) (a : Act) (w : World), eu m listed = true → g6 ops listed →
      (∀ j oj, ops[j]? = some oj → j ≠ i → listed.getD j true = false → (∀ e ∈ oj.after, Region.binds .any e = true → e.on ≠ i) → oi.apart ops oj = true) →
      i ∈ Region.ready .any ops listed → YieldsIf P ops C oi v a → C w →
      io P ops Q C m fuel (listed.setIfInBounds i true) (a.put oi.dst v) w → io P ops Q C m (fuel + 1) listed a w := by
  intro fuel
  induction fuel with
  | zero =>
    intro listed a w hnt hcl _ hr hy hS H
    refine ⟨fun h => (by rw [h] at hr; cases hr), fun j hj => ?_⟩
    by_cases hji : j = i
    · subst hji; exact hy.wpOp hi hS ⟨fun _ => hS, H⟩
    · have := ready_mono hj hji
      rw [H.1] at this
      cases this
  | succ fuel ih =>
    intro listed a w hnt hcl hfree hr hy hS H
    refine ⟨fun h => (by rw [h] at hr; cases hr), fun j hj => ?_⟩
    by_cases hji : j = i
    · subst hji; exact hy.wpOp hi hS ⟨fun _ => hS, H⟩
    · have h1 := H.2 j (ready_mono hj hji)
      obtain ⟨hjun, oj, hoj, hall⟩ := mem_ready.1 hj
      have hun : listed.getD i false = false := by
        have h0 := (mem_ready.1 hr).1
        rcases Nat.lt_or_ge i listed.size with h' | h'
        · simpa [h'] using h0
        · simp [Array.getElem?_eq_none h']
      have hnot : ∀ e ∈ oj.after, Region.binds .any e = true → e.on ≠ i := fun e he hb heq => by
        have h1 := hall e he hb
        rw [heq, hun] at h1
        cases h1
      have hjm : j < m := by
        rcases Nat.lt_or_ge j m with h | h
        · exact h
        · simp only [iC, List.all_eq_true, List.mem_range] at hm
          have h1 := hm j (Array.getElem?_eq_some_iff.1 hoj).1
          rw [Bool.or_eq_true] at h1
          rcases h1 with h1 | h1
          · have := Nat.le_of_ble_eq_true h1; omega
          · rw [gC hcl _ j oj hoj hall h1] at hun; cases hun
      have h2 := wpOp_putIf hoj (hfree j oj hoj hji hjun hnot) (fun cs b => hsel i oi cs b hi) (fun cs b => hsel j oj cs b hoj) hQ hy h1
      have hfree' : ∀ k ok, ops[k]? = some ok → k ≠ i → (listed.setIfInBounds j true).getD k true = false →
          (∀ e ∈ ok.after, Region.binds .any e = true → e.on ≠ i) → oi.apart ops ok = true := fun k ok hk hki hun' hno => by
        refine hfree k ok hk hki ?_ hno
        by_cases hjk : j = k
        · subst hjk; exact hjun
        · rw [getD_set_ne true hjk] at hun'; exact hun'
      have hC := eU (eU hnt him) hjm
      refine wpOp_mono (fun a' w' h3 => ⟨fun _ => h3.2.1 hC, ih (listed.setIfInBounds j true) a' w' (eU hnt hjm) (closed_set hcl hoj hall) hfree' (ready_mono hr (Ne.symm hji)) h3.1 (h3.2.1 hC) ?_⟩) h2
      rw [Array.setIfInBounds_comm _ _ hji]
      exact h3.2.2
def WU (x : Cx) (C : World → Prop) (m : Nat) (ops : Array Oper) (fuel : Nat) (listed : Array Bool) (l : Fr) (L S : List Ch) (Q : Exit → Act → World → Prop) : Prop :=
  ∀ a w, Kn x.N x.ds l a → Hp x.ok0 x.w0 L S w → io x.P ops Q C m fuel listed a w
def QnU (x : Cx) (C : World → Prop) (m : Nat) (ops : Array Oper) (fuel : Nat) (listed : Array Bool) (Q : Exit → Act → World → Prop) : Exit → Act → World → Prop := Exit.then (fun a w => (eu m listed = true → C w) ∧ io x.P ops Q C m fuel listed a w) Q
def WRU (x : Cx) (C : World → Prop) (m : Nat) (ops : Array Oper) (fuel : Nat) (listed : Array Bool) (js : List Nat) (l : Fr) (L S : List Ch) (Q : Exit → Act → World → Prop) : Prop :=
  ∀ i ∈ js, ∀ a w, Kn x.N x.ds l a → Hp x.ok0 x.w0 L S w → wpOp x.P ops Q i (fun a' w' => (eu m (listed.setIfInBounds i true) = true → C w') ∧ io x.P ops Q C m fuel (listed.setIfInBounds i true) a' w') a w
section
variable {x : Cx} {C : World → Prop} {l : Fr} {L S : List Ch} {Q : Exit → Act → World → Prop} {ops : Array Oper} {fuel m : Nat} {listed : Array Bool}
theorem gB {id : Nat} {ol : List Oper} (m : Nat) (hro : x.ro = none) (hm : x.P.follows .mixedOrders = true) (h : WU x (Hp x.ok0 x.w0 L S) m ol.toArray ol.length (Array.replicate ol.length false) l L S Q) : W x l L S (.region id ol.toArray true) Q := fun a w ha hw => by
  rw [hro]
  refine (wpIn_wide (n := 0)).2 (wp_region_any hm (wpAny_of_U (C := Hp x.ok0 x.w0 L S) (m := m) _ _ _ _ ?_))
  have := h a { w with drawn := w.drawn + 1 } ha hw.drew
  simpa using this
theorem au {i d : Nat} {op : Op} {ty : TypeId} {pos : String} {af : Array Edge} {gd : Option (Nat × Bool)} {v : Value} {listed' : Array Bool} {L0 S0 : List Ch} (hi : ops[i]? = some ⟨some d, op, ty, pos, af, gd⟩) (hw : ∀ a, Kn x.N x.ds l a → Region.wanted ⟨some d, op, ty, pos, af, gd⟩ (yielded ops a.tmps) = true)
    (hy : Yv x l L0 S0 ⟨some d, op, ty, pos, af, gd⟩ v) (hC : ∀ w, Hp x.ok0 x.w0 L S w → C w) (hC0 : ∀ w, C w → Hp x.ok0 x.w0 L0 S0 w) (hN : Nat.blt d x.N = true) (hpk : PkOk Q)
    (hs : (Region.noSelect ops && Region.free .any ops listed i && (Region.ready .any ops listed).contains i && iC ops m i && Nat.blt i m && eu m listed && iN ops listed) = true) (hl : listed.setIfInBounds i true = listed')
    (k : WU x C m ops fuel listed' ((d, v) :: l) L S Q) : WU x C m ops (fuel + 1) listed l L S Q := fun a w ha hh => by
  simp only [Bool.and_eq_true] at hs
  obtain ⟨⟨⟨⟨⟨⟨h1, h2⟩, h3⟩, h4⟩, h5⟩, h6⟩, h7⟩ := hs
  exact wpAnyU_first hi (Region.noSelect_spec h1) (fun c a w h => hpk c a w _ _ h) h4 (Nat.le_of_ble_eq_true h5) fuel listed a w h6 (closed_of h7) (Region.free_spec hi h2) (by simpa using h3) (.inl ⟨hw a ha, fun w' hw' => hy a w' ha (hC0 w' hw')⟩) (hC w hh) (by rw [hl]; exact k _ w (ha.put (Nat.le_of_ble_eq_true hN) v) hh)
theorem ay {C : World → Prop} {l : Fr} {L S : List Ch} (hC : ∀ w, Hp x.ok0 x.w0 L S w → C w) (h : WU x C m ops fuel listed l L S Q) : E x l L S .normal (QnU x C m ops fuel listed Q) := fun a w ha hw => ⟨fun _ => hC w hw, h a w ha hw⟩
theorem cY {C : World → Prop} {l : Fr} {L S : List Ch} (hi : eu m listed = false) (h : WU x C m ops fuel listed l L S Q) : E x l L S .normal (QnU x C m ops fuel listed Q) := fun a w ha hw => ⟨fun h' => absurd (hi.symm.trans h') (by decide), h a w ha hw⟩
theorem bJ {js : List Nat} (hr : Region.ready .any ops listed = js) (hne : js.isEmpty = false) (h : WRU x C m ops fuel listed js l L S Q) : WU x C m ops (fuel + 1) listed l L S Q := fun a w ha hh =>
  ⟨fun h0 => by rw [hr] at h0; subst h0; simp at hne, fun j hj => h j (hr ▸ hj) a w ha hh⟩
theorem bx : WRU x C m ops fuel listed [] l L S Q := fun i hi => by cases hi
theorem aJ {js : List Nat} {o : Oper} {i : Nat} {listed' : Array Bool} (hro : x.ro = none) (hi : ops[i]? = some o) (hnd : Op.isDefer o.op = false) (ht : ∀ a w, Kn x.N x.ds l a → Tame ((execOp a.eval o).run x.P w)) (hl : listed.setIfInBounds i true = listed')
    (h : WL x l L S ops [o] (QnU x C m ops fuel listed' Q)) (k : WRU x C m ops fuel listed js l L S Q) : WRU x C m ops fuel listed (i :: js) l L S Q := fun j hj => by
  rcases List.mem_cons.1 hj with rfl | hj
  · intro a w ha hh
    rw [hl]
    refine gH hi ?_
    have h1 := h a w ha hh
    rw [hro] at h1
    unfold wpListIn at h1
    unfold wpList
    split
    · rename_i hw
      rw [if_pos hw] at h1
      obtain ⟨_, h1⟩ := h1
      have e : Oper.semAt (fw none).round a.eval o = execOp a.eval o := rfl
      rw [e] at h1
      refine .inl ?_
      unfold Oper.wp
      have ht' := ht a w ha
      cases hx : (execOp a.eval o).run x.P w with
      | halt hh w' => rw [hx] at h1; cases hh <;> exact h1
      | ok n w' =>
        rw [hx] at h1 ht'
        cases n with
        | value v => exact h1
        | skip => exact h1
        | enter f args =>
          have := (callsIn_wide (n := 0 - 1)).1 (show CallsIn Fence.wide (0 - 1) x.P f args w' _ from h1.2)
          exact cB this fun e w'' hR => by cases e <;> exact hR
        | _ => exact ht'.elim
    · rename_i hw
      rw [if_neg hw] at h1
      exact h1.2
  · exact k j hj
theorem aP {o : Oper} {i : Nat} {listed' : Array Bool} (hro : x.ro = none) (hi : ops[i]? = some o) (hnd : Op.isDefer o.op = false) (ht : ∀ a w, Kn x.N x.ds l a → Tame ((execOp a.eval o).run x.P w)) (hr : Region.ready .any ops listed = [i]) (hl : listed.setIfInBounds i true = listed')
    (h : WL x l L S ops [o] (QnU x C m ops fuel listed' Q)) : WU x C m ops (fuel + 1) listed l L S Q := bJ hr rfl (aJ hro hi hnd ht hl h bx)
theorem bN {t : Nat} {v : Value} (v' : Value) (h : look l t = some v) (e : v = v') (k : WU x C m ops fuel listed ((t, v') :: l) L S Q) : WU x C m ops fuel listed l L S Q := fun a w ha hw => k a w (ha.mono fun t' u h' => by
    simp only [look] at h'
    cases e2 : Nat.beq t t' with
    | true => rw [e2] at h'; cases h'; rw [← Nat.eq_of_beq_eq_true e2, h, e]
    | false => rw [e2] at h'; exact h') hw
theorem bA {fuel : Nat} (hr : Region.ready .any ops listed = []) (h : E x l L S .normal Q) : WU x C m ops fuel listed l L S Q := fun a w ha hh => by
  cases fuel with
  | zero => exact ⟨hr, h a w ha hh⟩
  | succ n => exact ⟨fun _ => h a w ha hh, by rw [hr]; simp⟩
end
end Go.Proofs.Ytnpdgmoeoidppaa

/- the references of data and records; where entries lie -/
namespace Go.Proofs.Ytnpdgmoeoidppaa
open Go.RowKit Go.Shelf
set_option linter.unusedVariables false
set_option linter.unusedSimpArgs false

/-- What a type has. -/
structure Hs where
  addr : Bool
  name : Bool
  mail : Bool
  texts : Bool
  raw : Bool
  nums : Int
  wide : Int
def numD (d : Dt) : Nat → Int
  | 0 => d.n0
  | 1 => d.n1
  | 2 => d.n2
  | 3 => d.n3
  | _ => d.n4
def hasBad (h : Hs) (d : Dt) : Prop := (h.addr = false ∧ d.ad ≠ ad0) ∨ (h.name = false ∧ d.name ≠ []) ∨ (h.mail = false ∧ d.mail ≠ []) ∨ (h.raw = false ∧ d.raw ≠ []) ∨ h.texts = true
instance (h : Hs) (d : Dt) : Decidable (hasBad h d) := by unfold hasBad; infer_instance
def adBad (t : Int) (h : Hs) (d : Dt) : Prop := h.addr = true ∧ (gq d.ad ≠ 0 ∨ d.ad.six ≠ decide (t = 28))
instance (t : Int) (h : Hs) (d : Dt) : Decidable (adBad t h d) := by unfold adBad; infer_instance
def numOk (h : Hs) (d : Dt) (k : Nat) : Prop := ¬ (h.nums ≤ k ∧ numD d k ≠ 0) ∧ ¬ (h.wide = 2 ∧ 65535 < numD d k)
instance (h : Hs) (d : Dt) (k : Nat) : Decidable (numOk h d k) := by unfold numOk; infer_instance
def numsOk (h : Hs) (d : Dt) : Prop := ∀ k, k < 5 → numOk h d k
instance (h : Hs) (d : Dt) : Decidable (numsOk h d) := by unfold numsOk; exact Nat.decidableBallLT 5 _
end Go.Proofs.Ytnpdgmoeoidppaa

/- entries: the plain laws of their records -/
namespace Go.Proofs.Ytnpdgmoeoidppaa
open Go.RowKit Go.Shelf
set_option linter.unusedVariables false
set_option linter.unusedSimpArgs false

theorem iM {e : En} (h : dv e = 0) : bj e.host = 0 := by
  unfold dv at h
  split at h
  · exact h
  · omega
theorem jb {e : En} (h : ey e = true) : e.host.length ≤ 300 ∧ e.alias.length ≤ 300 ∧ e.cluster.length ≤ 300 ∧ e.addrs.length ≤ 20 ∧ e.ports.length ≤ 20 := by
  simp only [ey, Bool.and_eq_true, decide_eq_true_eq] at h
  exact ⟨h.1.1.1.1, h.1.1.1.2, h.1.1.2, h.1.2, h.2⟩

end Go.Proofs.Ytnpdgmoeoidppaa

/- the laws of entries -/
namespace Go.Proofs.Ytnpdgmoeoidppaa
open Go.RowKit Go.Shelf
set_option linter.unusedVariables false
set_option linter.unusedSimpArgs false

def AdOk (a : Ad) : Prop := 0 ≤ a.hi ∧ a.hi ≤ 18446744073709551615 ∧ 0 ≤ a.lo ∧ a.lo ≤ 18446744073709551615
def EnOk (e : En) : Prop := e.host.length ≤ 9223372036854775807 ∧ (-9223372036854775808 ≤ e.kind ∧ e.kind ≤ 9223372036854775807) ∧ e.cluster.length ≤ 9223372036854775807 ∧ (∀ a ∈ e.addrs, AdOk a) ∧ e.addrs.length ≤ 9223372036854775807 ∧ e.alias.length ≤ 9223372036854775807 ∧ (∀ p ∈ e.ports, -9223372036854775808 ≤ p ∧ p ≤ 9223372036854775807) ∧ e.ports.length ≤ 9223372036854775807 ∧ 0 ≤ e.ttl ∧ e.ttl ≤ 4294967295
theorem EnOk.lo {e : En} (h : EnOk e) : ∀ a ∈ e.addrs, 0 ≤ a.lo := fun a ha => (h.2.2.2.1 a ha).2.2.1

theorem dc_ad {w : World} : Dc Try.prog w 62 (α := Ad) (fY) (fun _ => []) (AdOk) := fun H enc base sp hd fuel cs x h => by
  obtain ⟨xs, n, rfl, _, hcl, hxl, hf⟩ := DataW.trod_struct Try.underlying62 h
  have hcl2 : cs.length = 3 := hcl.trans (by kernel_rfl)
  obtain ⟨x0, c0, r0, o0⟩ := dp hxl hf 0 (ft := 4) (off := 0) (k := 1) (by kernel_rfl) (by kernel_rfl) (dc_bool Try.underlying4)
  obtain ⟨x1, c1, r1, o1⟩ := dp hxl hf 1 (ft := 60) (off := 1) (k := 1) (by kernel_rfl) (by kernel_rfl) (gU Try.underlying60)
  obtain ⟨x2, c2, r2, o2⟩ := dp hxl hf 2 (ft := 60) (off := 2) (k := 1) (by kernel_rfl) (by kernel_rfl) (gU Try.underlying60)
  have hcs := cut0 (gW c0 (gW c1 (gW c2 (cutn hcl2) rfl) rfl) rfl)
  exact ⟨⟨x0, x1, x2⟩, hcs, nofun, o1.1, o1.2, o2.1, o2.2⟩

theorem dc_ads {w : World} : Dc Try.prog w 40 (fun p : List Ad × Option Addr × Nat => [.slice p.2.1 p.1.length p.2.2]) (fun p => Ch.rd p.2.1 3 fY p.1 :: p.1.flatMap (fun _ => [])) (fun p => p.1.length ≤ 9223372036854775807 ∧ ∀ a ∈ p.1, AdOk a) := jd Try.underlying40 (by kernel_rfl) (by decide) gk dc_ad
theorem dc_ints {w : World} : Dc Try.prog w 41 (fun p : List Int × Option Addr × Nat => [.slice p.2.1 p.1.length p.2.2]) (fun p => Ch.rd p.2.1 1 eN p.1 :: p.1.flatMap (fun _ => [])) (fun p => p.1.length ≤ 9223372036854775807 ∧ ∀ n ∈ p.1, IntKind.i64.min ≤ n ∧ n ≤ IntKind.i64.max) := jd Try.underlying41 (by kernel_rfl) (by decide) fZ (gU Try.underlying3)

theorem eZ {w : World} {sz : Nat} : (Ch.rs none 0 sz []).P w ∧ ∀ b, (Ch.rs none 0 sz []).ok b → b < w.heap.size := ⟨⟨by simp, (by simp), .inl rfl⟩, fun b hb => by simp [Ch.rs] at hb⟩

end Go.Proofs.Ytnpdgmoeoidppaa
