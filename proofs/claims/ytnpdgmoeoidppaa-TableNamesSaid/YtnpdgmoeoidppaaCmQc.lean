import Derived.Test.YtnpdgmoeoidppaaCgQc
import Derived.Test.YtnpdgmoeoidppaaPaQc
import Derived.ProofKit
import Derived.Test.YtnpdgmoeoidppaaPcQc
import Derived.ChangeArms
import Derived.ChangeOld
/- the references of addresses, data, records, entries -/
namespace Go.Proofs.Ytnpdgmoeoidppaa
open Go.RowKit Go.Shelf
set_option linter.unusedVariables false
set_option linter.unusedSimpArgs false

set_option maxRecDepth 100000 in
theorem c_Equal_ad (xs ys : List Ad) (A B : Option Addr) (c e : Nat) (hl : xs.length ≤ 1000000000000) : RC Try.prog 91 #[.slice A xs.length c, .slice B ys.length e] [Ch.rd A 3 gS xs, Ch.rd B 3 gS ys] (α := Unit) (fun _ => .bool (decide (xs = ys))) (fun _ => []) := by
 refine bZ (args := [.slice A xs.length c, .slice B ys.length e]) 26 Try.func91 rfl rfl rfl (fun w0 => ?_)
 refine ap ?_
 refine ah ?_
 refine au (aj rfl) rfl rfl ?_
 refine aa ?_
 refine am ?_
 refine ap ?_
 refine ap ?_
 refine ah ?_
 refine au (ak rfl) rfl rfl ?_
 refine au (bu Try.underlying40 rfl) rfl rfl ?_
 refine au (ak rfl) rfl rfl ?_
 refine au (bu Try.underlying40 rfl) rfl rfl ?_
 refine au (dA rfl rfl) rfl rfl ?_
 refine aG (t := 10) rfl (fun h1_4 => ?_) (fun h1_4 => ?_)
 refine aa ?_
 refine am ?_
 refine aI rfl ?_
 refine ap ?_
 refine ah ?_
 refine au (aj rfl) rfl rfl ?_
 refine aa ?_
 refine am ?_
 refine aU ?_
 refine aA ?_
 refine aX (ts := [4]) rfl rfl rfl (fun w hw => ?_)
 have hne : xs ≠ ys := fun he => by rw [he] at h1_4; exact absurd rfl h1_4
 exact ⟨(), by rw [decide_eq_false hne]; rfl, hw.base, hw.toNews⟩
 refine aa ?_
 refine am ?_
 refine aK rfl ?_
 refine aZ ?_
 refine am ?_
 refine ap ?_
 refine ap ?_
 refine ah ?_
 refine au (ak rfl) rfl rfl ?_
 refine au (bu Try.underlying40 rfl) rfl rfl ?_
 refine au (ak rfl) rfl rfl ?_
 refine aa ?_
 refine am ?_
 refine bk ?_
 refine dd (σ := Nat) [4, 5, 13, 14, 15, 16, 17, 18, 19, 20, 21, 22, 23, 24, 25] (fun k => k ≤ xs.length ∧ xs.take k = ys.take k) (fun k => xs.length - k) (fun k => [(13, .int .i64 k)]) (0) ?_ ⟨rfl, trivial⟩ (fun k hI => ?_)
 exact ⟨Nat.zero_le _, rfl⟩
 refine ap ?_
 refine ah ?_
 refine au (cX rfl rfl) rfl rfl ?_
 refine aG (t := 14) rfl (fun h4_0 => ?_) (fun h4_0 => ?_)
 refine aa ?_
 refine am ?_
 refine ap ?_
 refine aI rfl ?_
 refine aZ ?_
 refine am ?_
 refine ap ?_
 refine bk ?_
 refine ap ?_
 refine ah ?_
 refine au (ak rfl) rfl rfl ?_
 refine au (aj rfl) rfl rfl ?_
 refine aa ?_
 refine am ?_
 refine ap ?_
 refine dX 9 rfl mixed ?_
 refine aY (i := 0) rfl ae (ak rfl) aD aD rfl (ai (aC (ai (aV (aC (ai ar)))))) (by kernel_rfl) rfl ?_
 refine aY (i := 1) rfl ae (ak rfl) aD aD rfl (ai (aC (ai (aV (aC (ai ar)))))) (by kernel_rfl) rfl ?_
 refine aY (i := 2) rfl ae (co  Try.underlying40 fo rfl rfl (cI 0 rfl) rfl (by omega)) aD aD rfl (ai (aC (ai (aV (aC (ai ar)))))) (by kernel_rfl) rfl ?_
 refine aY (i := 3) rfl ae (de enc_ad ad0 fo rfl (cI 0 rfl) (by omega) rfl rfl rfl) aD aD rfl (ai (aC (ai (aV (aC (ai ar)))))) (by kernel_rfl) rfl ?_
 refine aY (i := 4) rfl ae (ak rfl) aD aD rfl (ai (aC (ai (aV (aC (ai ar)))))) (by kernel_rfl) rfl ?_
 refine aY (i := 5) rfl ae (ak rfl) aD aD rfl (ai (aC (ai (aV (aC (ai ar)))))) (by kernel_rfl) rfl ?_
 refine aY (i := 6) rfl ae (co  Try.underlying40 fo rfl rfl (cI 1 rfl) rfl (by omega)) aD aD rfl (ai (aC (ai (aV (aC (ai ar)))))) (by kernel_rfl) rfl ?_
 refine aY (i := 7) rfl ae (de enc_ad ad0 fo rfl (cI 1 rfl) (by omega) rfl rfl rfl) aD aD rfl (ai (aC (ai (aV (aC (ai ar)))))) (by kernel_rfl) rfl ?_
 refine aY (i := 8) rfl ae (y_nestd (by kernel_rfl) rfl rfl (eqd_ad _ _) rfl) aD aD rfl (ai (aC (ai (aV (aC (ai ar)))))) (by kernel_rfl) rfl ?_
 refine gb (t := 24) rfl (fun h6_8 => ?_) (fun h6_8 => ?_)
 refine dz (by kernel_rfl) ?_
 refine am ?_
 refine aI rfl ?_
 refine ap ?_
 refine ah ?_
 refine au (aj rfl) rfl rfl ?_
 refine aa ?_
 refine am ?_
 refine aU ?_
 refine aO ?_
 refine aA ?_
 refine bG ?_
 refine aO ?_
 refine aA ?_
 refine aX (ts := [4]) rfl rfl rfl (fun w hw => ?_)
 focus first
   | (have hne : xs ≠ ys := ea ad0 (k := k) (by simpa using h6_8)
      exact ⟨(), by rw [decide_eq_false hne]; rfl, hw.base, hw.toNews⟩)
   | (have hk : k = xs.length := by omega
      have he : xs = ys := by have := hI.2; rw [hk, List.take_length, List.take_of_length_le (by omega)] at this; exact this
      exact ⟨(), by rw [decide_eq_true he]; rfl, hw.base, hw.toNews⟩)
 refine dz (by kernel_rfl) ?_
 refine am ?_
 refine aK rfl ?_
 refine aZ ?_
 refine bV ?_
 refine am ?_
 refine ah ?_
 refine au (cr rfl rfl (by omega) (by omega)) rfl rfl ?_
 refine au (ak rfl) rfl rfl ?_
 refine aa ?_
 refine cn (k + 1) ?_ ?_ ⟨rfl, trivial⟩ (by repeat (first | exact trivial | refine ⟨rfl, ?_⟩)) aD
 exact ⟨by omega, fK ad0 (by omega) (by omega) hI.2 (by simpa using h6_8)⟩
 omega
 refine aa ?_
 refine am ?_
 refine ap ?_
 refine aK rfl ?_
 refine cB ?_
 refine bl ?_
 refine bq ?_
 refine bA ?_
 refine am ?_
 refine ap ?_
 refine ah ?_
 refine au (aj rfl) rfl rfl ?_
 refine aa ?_
 refine am ?_
 refine aU ?_
 refine aX (ts := [4]) rfl rfl rfl (fun w hw => ?_)
 focus first
   | (have hne : xs ≠ ys := ea ad0 (k := k) (by simpa using h6_8)
      exact ⟨(), by rw [decide_eq_false hne]; rfl, hw.base, hw.toNews⟩)
   | (have hk : k = xs.length := by omega
      have he : xs = ys := by have := hI.2; rw [hk, List.take_length, List.take_of_length_le (by omega)] at this; exact this
      exact ⟨(), by rw [decide_eq_true he]; rfl, hw.base, hw.toNews⟩)

set_option maxRecDepth 100000 in
theorem c_Equal_int (xs ys : List Int) (A B : Option Addr) (c e : Nat) (hl : xs.length ≤ 1000000000000) : RC Try.prog 92 #[.slice A xs.length c, .slice B ys.length e] [Ch.rd A 1 fG xs, Ch.rd B 1 fG ys] (α := Unit) (fun _ => .bool (decide (xs = ys))) (fun _ => []) := by
 refine bZ (args := [.slice A xs.length c, .slice B ys.length e]) 26 Try.func92 rfl rfl rfl (fun w0 => ?_)
 refine ap ?_
 refine ah ?_
 refine au (aj rfl) rfl rfl ?_
 refine aa ?_
 refine am ?_
 refine ap ?_
 refine ap ?_
 refine ah ?_
 refine au (ak rfl) rfl rfl ?_
 refine au (bu Try.underlying41 rfl) rfl rfl ?_
 refine au (ak rfl) rfl rfl ?_
 refine au (bu Try.underlying41 rfl) rfl rfl ?_
 refine au (dA rfl rfl) rfl rfl ?_
 refine aG (t := 10) rfl (fun h1_4 => ?_) (fun h1_4 => ?_)
 refine aa ?_
 refine am ?_
 refine aI rfl ?_
 refine ap ?_
 refine ah ?_
 refine au (aj rfl) rfl rfl ?_
 refine aa ?_
 refine am ?_
 refine aU ?_
 refine aA ?_
 refine aX (ts := [4]) rfl rfl rfl (fun w hw => ?_)
 have hne : xs ≠ ys := fun he => by rw [he] at h1_4; exact absurd rfl h1_4
 exact ⟨(), by rw [decide_eq_false hne]; rfl, hw.base, hw.toNews⟩
 refine aa ?_
 refine am ?_
 refine aK rfl ?_
 refine aZ ?_
 refine am ?_
 refine ap ?_
 refine ap ?_
 refine ah ?_
 refine au (ak rfl) rfl rfl ?_
 refine au (bu Try.underlying41 rfl) rfl rfl ?_
 refine au (ak rfl) rfl rfl ?_
 refine aa ?_
 refine am ?_
 refine bk ?_
 refine dd (σ := Nat) [4, 5, 13, 14, 15, 16, 17, 18, 19, 20, 21, 22, 23, 24, 25] (fun k => k ≤ xs.length ∧ xs.take k = ys.take k) (fun k => xs.length - k) (fun k => [(13, .int .i64 k)]) (0) ?_ ⟨rfl, trivial⟩ (fun k hI => ?_)
 exact ⟨Nat.zero_le _, rfl⟩
 refine ap ?_
 refine ah ?_
 refine au (cX rfl rfl) rfl rfl ?_
 refine aG (t := 14) rfl (fun h4_0 => ?_) (fun h4_0 => ?_)
 refine aa ?_
 refine am ?_
 refine ap ?_
 refine aI rfl ?_
 refine aZ ?_
 refine am ?_
 refine ap ?_
 refine bk ?_
 refine ap ?_
 refine ah ?_
 refine au (ak rfl) rfl rfl ?_
 refine au (aj rfl) rfl rfl ?_
 refine aa ?_
 refine am ?_
 refine ap ?_
 refine dX 9 rfl mixed ?_
 refine aY (i := 0) rfl ae (ak rfl) aD aD rfl (ai (aC (ai (aV (aC (ai ar)))))) (by kernel_rfl) rfl ?_
 refine aY (i := 1) rfl ae (ak rfl) aD aD rfl (ai (aC (ai (aV (aC (ai ar)))))) (by kernel_rfl) rfl ?_
 refine aY (i := 2) rfl ae (co  Try.underlying41 d6 rfl rfl (cI 0 rfl) rfl (by omega)) aD aD rfl (ai (aC (ai (aV (aC (ai ar)))))) (by kernel_rfl) rfl ?_
 refine aY (i := 3) rfl ae (cP enc_i (0 : Int) d6 rfl (cI 0 rfl) (by omega) rfl rfl) aD aD rfl (ai (aC (ai (aV (aC (ai ar)))))) (by kernel_rfl) rfl ?_
 refine aY (i := 4) rfl ae (ak rfl) aD aD rfl (ai (aC (ai (aV (aC (ai ar)))))) (by kernel_rfl) rfl ?_
 refine aY (i := 5) rfl ae (ak rfl) aD aD rfl (ai (aC (ai (aV (aC (ai ar)))))) (by kernel_rfl) rfl ?_
 refine aY (i := 6) rfl ae (co  Try.underlying41 d6 rfl rfl (cI 1 rfl) rfl (by omega)) aD aD rfl (ai (aC (ai (aV (aC (ai ar)))))) (by kernel_rfl) rfl ?_
 refine aY (i := 7) rfl ae (cP enc_i (0 : Int) d6 rfl (cI 1 rfl) (by omega) rfl rfl) aD aD rfl (ai (aC (ai (aV (aC (ai ar)))))) (by kernel_rfl) rfl ?_
 refine aY (i := 8) rfl ae (dA rfl rfl) aD aD rfl (ai (aC (ai (aV (aC (ai ar)))))) (by kernel_rfl) rfl ?_
 refine gb (t := 24) rfl (fun h6_8 => ?_) (fun h6_8 => ?_)
 refine dz (by kernel_rfl) ?_
 refine am ?_
 refine aI rfl ?_
 refine ap ?_
 refine ah ?_
 refine au (aj rfl) rfl rfl ?_
 refine aa ?_
 refine am ?_
 refine aU ?_
 refine aO ?_
 refine aA ?_
 refine bG ?_
 refine aO ?_
 refine aA ?_
 refine aX (ts := [4]) rfl rfl rfl (fun w hw => ?_)
 focus first
   | (have hne : xs ≠ ys := ea (0 : Int) (k := k) (by simpa using h6_8)
      exact ⟨(), by rw [decide_eq_false hne]; rfl, hw.base, hw.toNews⟩)
   | (have hk : k = xs.length := by omega
      have he : xs = ys := by have := hI.2; rw [hk, List.take_length, List.take_of_length_le (by omega)] at this; exact this
      exact ⟨(), by rw [decide_eq_true he]; rfl, hw.base, hw.toNews⟩)
 refine dz (by kernel_rfl) ?_
 refine am ?_
 refine aK rfl ?_
 refine aZ ?_
 refine bV ?_
 refine am ?_
 refine ah ?_
 refine au (cr rfl rfl (by omega) (by omega)) rfl rfl ?_
 refine au (ak rfl) rfl rfl ?_
 refine aa ?_
 refine cn (k + 1) ?_ ?_ ⟨rfl, trivial⟩ (by repeat (first | exact trivial | refine ⟨rfl, ?_⟩)) aD
 exact ⟨by omega, fK (0 : Int) (by omega) (by omega) hI.2 (by simpa using h6_8)⟩
 omega
 refine aa ?_
 refine am ?_
 refine ap ?_
 refine aK rfl ?_
 refine cB ?_
 refine bl ?_
 refine bq ?_
 refine bA ?_
 refine am ?_
 refine ap ?_
 refine ah ?_
 refine au (aj rfl) rfl rfl ?_
 refine aa ?_
 refine am ?_
 refine aU ?_
 refine aX (ts := [4]) rfl rfl rfl (fun w hw => ?_)
 focus first
   | (have hne : xs ≠ ys := ea (0 : Int) (k := k) (by simpa using h6_8)
      exact ⟨(), by rw [decide_eq_false hne]; rfl, hw.base, hw.toNews⟩)
   | (have hk : k = xs.length := by omega
      have he : xs = ys := by have := hI.2; rw [hk, List.take_length, List.take_of_length_le (by omega)] at this; exact this
      exact ⟨(), by rw [decide_eq_true he]; rfl, hw.base, hw.toNews⟩)

set_option maxRecDepth 100000 in
theorem dG (xs ys : List aW) (A B : Option Addr) (c e : Nat) (hl : xs.length ≤ 1000000000000) : RC Try.prog 24 #[.slice A xs.length c, .slice B ys.length e] [Ch.rd A 1 er xs, Ch.rd B 1 er ys] (α := Unit) (fun _ => .bool (decide (xs = ys))) (fun _ => []) := by
 refine bZ (args := [.slice A xs.length c, .slice B ys.length e]) 26 Try.func24 rfl rfl rfl (fun w0 => ?_)
 refine ap ?_
 refine ah ?_
 refine au (aj rfl) rfl rfl ?_
 refine aa ?_
 refine am ?_
 refine ap ?_
 refine ap ?_
 refine ah ?_
 refine au (ak rfl) rfl rfl ?_
 refine au (bu Try.underlying25 rfl) rfl rfl ?_
 refine au (ak rfl) rfl rfl ?_
 refine au (bu Try.underlying25 rfl) rfl rfl ?_
 refine au (dA rfl rfl) rfl rfl ?_
 refine aG (t := 10) rfl (fun h1_4 => ?_) (fun h1_4 => ?_)
 refine aa ?_
 refine am ?_
 refine aI rfl ?_
 refine ap ?_
 refine ah ?_
 refine au (aj rfl) rfl rfl ?_
 refine aa ?_
 refine am ?_
 refine aU ?_
 refine aA ?_
 refine aX (ts := [4]) rfl rfl rfl (fun w hw => ?_)
 have hne : xs ≠ ys := fun he => by rw [he] at h1_4; exact absurd rfl h1_4
 exact ⟨(), by rw [decide_eq_false hne]; rfl, hw.base, hw.toNews⟩
 refine aa ?_
 refine am ?_
 refine aK rfl ?_
 refine aZ ?_
 refine am ?_
 refine ap ?_
 refine ap ?_
 refine ah ?_
 refine au (aj rfl) rfl rfl ?_
 refine aa ?_
 refine am ?_
 refine bk ?_
 refine dd (σ := Nat) [4, 5, 11, 12, 13, 14, 15, 16, 17, 18, 19, 20, 21, 22, 23, 24, 25] (fun k => k ≤ xs.length ∧ xs.take k = ys.take k) (fun k => xs.length - k) (fun k => [(5, .int .i64 k)]) (0) ?_ ⟨rfl, trivial⟩ (fun k hI => ?_)
 exact ⟨Nat.zero_le _, rfl⟩
 refine ap ?_
 refine ap ?_
 refine ah ?_
 refine au (ak rfl) rfl rfl ?_
 refine au (ak rfl) rfl rfl ?_
 refine au (bu Try.underlying25 rfl) rfl rfl ?_
 refine au (cX rfl rfl) rfl rfl ?_
 refine aG (t := 14) rfl (fun h4_3 => ?_) (fun h4_3 => ?_)
 refine aa ?_
 refine am ?_
 refine aI rfl ?_
 refine aZ ?_
 refine am ?_
 refine ap ?_
 refine bk ?_
 refine ap ?_
 refine dX 9 rfl mixed ?_
 refine aY (i := 0) rfl ae (ak rfl) aD aD rfl (ai (aC (ai (aV (aC (ai ar)))))) (by kernel_rfl) rfl ?_
 refine aY (i := 1) rfl ae (ak rfl) aD aD rfl (ai (aC (ai (aV (aC (ai ar)))))) (by kernel_rfl) rfl ?_
 refine aY (i := 2) rfl ae (co  Try.underlying25 bN rfl rfl (cI 0 rfl) rfl (by omega)) aD aD rfl (ai (aC (ai (aV (aC (ai ar)))))) (by kernel_rfl) rfl ?_
 refine aY (i := 3) rfl ae (cP bm ([] : aW) bN rfl (cI 0 rfl) (by omega) rfl rfl) aD aD rfl (ai (aC (ai (aV (aC (ai ar)))))) (by kernel_rfl) rfl ?_
 refine aY (i := 4) rfl ae (ak rfl) aD aD rfl (ai (aC (ai (aV (aC (ai ar)))))) (by kernel_rfl) rfl ?_
 refine aY (i := 5) rfl ae (ak rfl) aD aD rfl (ai (aC (ai (aV (aC (ai ar)))))) (by kernel_rfl) rfl ?_
 refine aY (i := 6) rfl ae (co  Try.underlying25 bN rfl rfl (cI 1 rfl) rfl (by omega)) aD aD rfl (ai (aC (ai (aV (aC (ai ar)))))) (by kernel_rfl) rfl ?_
 refine aY (i := 7) rfl ae (cP bm ([] : aW) bN rfl (cI 1 rfl) (by omega) rfl rfl) aD aD rfl (ai (aC (ai (aV (aC (ai ar)))))) (by kernel_rfl) rfl ?_
 refine aY (i := 8) rfl ae (y_neqs rfl rfl) aD aD rfl (ai (aC (ai (aV (aC (ai ar)))))) (by kernel_rfl) rfl ?_
 refine gb (t := 25) rfl (fun h6_8 => ?_) (fun h6_8 => ?_)
 refine dz (by kernel_rfl) ?_
 refine am ?_
 refine aI rfl ?_
 refine ap ?_
 refine ah ?_
 refine au (aj rfl) rfl rfl ?_
 refine aa ?_
 refine am ?_
 refine aU ?_
 refine aO ?_
 refine aA ?_
 refine bG ?_
 refine aO ?_
 refine aA ?_
 refine aX (ts := [4]) rfl rfl rfl (fun w hw => ?_)
 focus first
   | (have hne : xs ≠ ys := ea ([] : aW) (k := k) (by simpa using h6_8)
      exact ⟨(), by rw [decide_eq_false hne]; rfl, hw.base, hw.toNews⟩)
   | (have hk : k = xs.length := by omega
      have he : xs = ys := by have := hI.2; rw [hk, List.take_length, List.take_of_length_le (by omega)] at this; exact this
      exact ⟨(), by rw [decide_eq_true he]; rfl, hw.base, hw.toNews⟩)
 refine dz (by kernel_rfl) ?_
 refine am ?_
 refine aK rfl ?_
 refine aZ ?_
 refine bV ?_
 refine am ?_
 refine ah ?_
 refine au (ak rfl) rfl rfl ?_
 refine au (cr rfl rfl (by omega) (by omega)) rfl rfl ?_
 refine au (aj rfl) rfl rfl ?_
 refine aa ?_
 refine cn (k + 1) ?_ ?_ ⟨rfl, trivial⟩ (by repeat (first | exact trivial | refine ⟨rfl, ?_⟩)) aD
 exact ⟨by omega, fK ([] : aW) (by omega) (by omega) hI.2 (by simpa using h6_8)⟩
 omega
 refine aa ?_
 refine am ?_
 refine aK rfl ?_
 refine cB ?_
 refine bl ?_
 refine bq ?_
 refine bA ?_
 refine am ?_
 refine ap ?_
 refine ah ?_
 refine au (aj rfl) rfl rfl ?_
 refine aa ?_
 refine am ?_
 refine aU ?_
 refine aX (ts := [4]) rfl rfl rfl (fun w hw => ?_)
 focus first
   | (have hne : xs ≠ ys := ea ([] : aW) (k := k) (by simpa using h6_8)
      exact ⟨(), by rw [decide_eq_false hne]; rfl, hw.base, hw.toNews⟩)
   | (have hk : k = xs.length := by omega
      have he : xs = ys := by have := hI.2; rw [hk, List.take_length, List.take_of_length_le (by omega)] at this; exact this
      exact ⟨(), by rw [decide_eq_true he]; rfl, hw.base, hw.toNews⟩)

/-- Not too much. -/
def lightE (e : En) : Bool := decide (e.host.length ≤ 300) && decide (e.alias.length ≤ 300) && decide (e.cluster.length ≤ 300) && decide (e.addrs.length ≤ 20) && decide (e.ports.length ≤ 20)

end Go.Proofs.Ytnpdgmoeoidppaa

/- From a law's call that answers true and turns nothing that lay, to what its row asks. -/
namespace Go.Proofs.Ytnpdgmoeoidppaa
open Go.RowKit Go.Shelf Go.ChangeShapes Go.WideShapes Go.ChangeAt
set_option linter.unusedVariables false

theorem stay_all {H : Type} {enc : TypeId × Value → H} {P : Program} (hl : laidOutB P = true) {W W' : World} (hb : Below W.heap.size W W') :
    ∀ {ts : List TypeId} {vs : List Value} {ds : List (DataW H)} {ps : List MemPlace}, ts.all (fun t => P.readableRec t && decide (t < P.types.size)) = true → (∀ x ∈ ps, x.block < W.heap.size) →
      DataW.TrodAll enc P W 0 (fun _ => true) true ts vs ds ps → DataW.TrodAll enc P W' 0 (fun b => decide (b < W.heap.size)) true ts vs ds ps
  | [], [], [], _, _, _, h => h
  | [], [], _ :: _, _, _, _, h => h.elim
  | [], _ :: _, _, _, _, _, h => h.elim
  | _ :: _, [], _, _, _, _, h => h.elim
  | _ :: _, _ :: _, [], _, _, _, h => h.elim
  | t :: ts, v :: vs, d :: ds, ps, hr, hlt, h => by
    obtain ⟨p, q, h1, h2, rfl⟩ := h
    simp only [List.all_cons, Bool.and_eq_true, decide_eq_true_eq] at hr
    exact ⟨p, q, Below.trod hl hr.1.1 hr.1.2 h1 hb (fun x hx => hlt x (List.mem_append_left _ hx)), stay_all hl hb hr.2 (fun x hx => hlt x (List.mem_append_right _ hx)) h2, rfl⟩
theorem keptBut_of {W W' : World} (hb : Upd no W W') (may : MemPlace → Prop) : W.keptBut W' may := by
  refine ⟨hb.os, hb.output, fun i hi => ?_⟩
  rw [hb.block i hi id]
  cases W.heap[i]? with
  | none => rfl
  | some o => cases o <;> simp
theorem law_post {H : Type} {enc : TypeId × Value → H} {P : Program} {f : Func} {s : ChangeSpec} {W W' : World} {args : Array Value} {ds : List (DataW H)} {p : List MemPlace} {tb : TypeId} (hl : laidOutB P = true) (hr : f.params.toList.all (fun t => P.readableRec t && decide (t < P.types.size)) = true) (hv : s.vars = [])
    (hW : DataW.Whole enc P f.params.toList s.vars false W args.toList ds [] p) (hs : s.fn H (ds ++ []) = { results := [.lit (.bool true)], args := ds }) (hrt : f.resultTypes = #[tb]) (hb : P.underlying tb = some .bool) (hu : Upd no W W') :
    s.post enc P f false true false false W args (.bool true) W' := by
  have hlt := hW.lt
  obtain ⟨q, r, h1, h2, rfl, h3, h4⟩ := id hW
  refine ⟨ds, [], q ++ r, [], q, r, hW, ?_, ?_, ?_, ?_, nofun⟩
  · rw [hs, hrt]
    exact trodAll_mk1 (shut_bool hb true)
  · rw [hs]
    exact stay_all hl hu.below hr (fun x hx => hlt x (List.mem_append_left _ hx)) h1
  · rw [hs, hv] at *
    exact h2
  · exact keptBut_of hu _
theorem op_none {H : Type} {enc : TypeId × Value → H} {P : Program} {w : World} {base : Nat} {sp : Nat → Bool} {hd : Bool} {args : Array Value} {ds : List (DataW H)} {ps : List MemPlace} (h : DataW.TrodAll enc P w base sp hd [] args.toList ds ps) : args = #[] ∧ ds = [] ∧ ps = [] := by
  obtain ⟨h1, h2, h3⟩ := trodAll_nil h
  exact ⟨Array.toList_eq_nil_iff.1 h1, h2, h3⟩
end Go.Proofs.Ytnpdgmoeoidppaa

/- A law's arguments opened: what a decoded value is, and which chunks it reads. Elements of arrays. -/
namespace Go.Proofs.Ytnpdgmoeoidppaa
open Go.RowKit Go.Shelf
set_option linter.unusedVariables false
set_option linter.unusedSimpArgs false

section
variable {P : Program} {w : World} {t : TypeId}
end
/-- Of each slot only what was put last. -/
def Kn2 (l' : Fr) : List Nat → Fr → Prop
  | _, [] => True
  | seen, (t, v) :: r => match seen.elem t with
    | true => Kn2 l' seen r
    | false => look l' t = some v ∧ Kn2 l' (t :: seen) r
theorem Kn2.look {l' : Fr} : ∀ {seen : List Nat} {l : Fr}, Kn2 l' seen l → ∀ t v, Go.Proofs.Ytnpdgmoeoidppaa.look l t = some v → seen.elem t = false → Go.Proofs.Ytnpdgmoeoidppaa.look l' t = some v
  | seen, [], _, t, v, h, _ => by cases h
  | seen, (t0, v0) :: r, h, t, v, ht, hs => by
    rw [Kn2] at h
    simp only [Go.Proofs.Ytnpdgmoeoidppaa.look] at ht
    cases e : Nat.beq t0 t with
    | true =>
      have e2 := Nat.eq_of_beq_eq_true e; subst e2
      rw [hs] at h
      rw [e] at ht
      cases ht; exact h.1
    | false =>
      rw [e] at ht
      have hne : ¬ t = t0 := fun h2 => Nat.ne_of_beq_eq_false e h2.symm
      cases h0 : seen.elem t0 with
      | true => rw [h0] at h; exact Kn2.look h t v ht hs
      | false => rw [h0] at h; exact Kn2.look h.2 t v ht (by rw [List.elem_cons, hs, beq_eq_false_iff_ne.2 hne])
section
variable {x : Cx} {l : Fr} {L S : List Ch} {Q : Exit → Act → World → Prop} {d : Nat} {ty : TypeId} {pos : String} {af : Array Edge} {gd : Option (Nat × Bool)}
/-- A loop that turns the chunks ahead. -/
theorem w_loopL {c : Code} {σ : Type} {L0 : List Ch} (ts : List Nat) (I : σ → Prop) (μ : σ → Nat) (lf : σ → Fr) (C : σ → List Ch) (g0 : σ) (h0 : I g0) (hk : Knows l (lf g0)) (hc : L = C g0 ++ L0)
    (body : ∀ g, I g → W x (lf g ++ eV ts l) (C g ++ L0) S c (Ql x I lf (fun g => C g ++ L0) (fun _ => S) (eV ts l) (fun g' => μ g' < μ g) Q)) : W x l L S (.loop c) Q :=
  w_loop ts I μ lf (fun g => C g ++ L0) (fun _ => S) g0 h0 hk (fun _ h => hc ▸ h) body
end
/-! Where several operations may come up: each of them. -/
section
variable {x : Cx} {C : World → Prop} {l : Fr} {L S : List Ch} {Q : Exit → Act → World → Prop} {ops : Array Oper} {fuel m : Nat} {listed : Array Bool}
end
/-! Regions with open order once more: C is kept as long as nothing of the tail has come up. -/
def dR (m : Nat) (listed : Array Bool) : Bool := (List.range listed.size).all fun t => Nat.blt t m || !(listed.getD t false)
theorem getD_set_ne' {l : Array Bool} {i j : Nat} {v d : Bool} (h : i ≠ j) : (l.setIfInBounds i v).getD j d = l.getD j d := by
  simp [Array.getD_eq_getD_getElem?, Array.getElem?_setIfInBounds_ne h]
theorem d7 {m : Nat} {listed : Array Bool} {j : Nat} (h : dR m listed = true) (hj : j < m) : dR m (listed.setIfInBounds j true) = true := by
  simp only [dR, List.all_eq_true, List.mem_range, Array.size_setIfInBounds, Bool.or_eq_true] at h ⊢
  intro t ht
  rcases h t ht with h1 | h1
  · exact .inl h1
  · by_cases e : j = t
    · subst e; exact .inl (Nat.ble_eq_true_of_le hj)
    · right
      rw [getD_set_ne' e]; exact h1
def gL (P : Program) (ops : Array Oper) (Q : Exit → Act → World → Prop) (C : World → Prop) (m : Nat) : Nat → Array Bool → Act → World → Prop
  | 0, listed, a, _w => Region.ready .any ops listed = [] ∧ Q .normal a _w
  | fuel + 1, listed, a, w =>
    (Region.ready .any ops listed = [] → Q .normal a w) ∧
    ∀ i ∈ Region.ready .any ops listed, wpOp P ops Q i (fun a' w' => (dR m (listed.setIfInBounds i true) = true → C w') ∧ gL P ops Q C m fuel (listed.setIfInBounds i true) a' w') a w
theorem wpAny_of_U {P : Program} {ops : Array Oper} {Q : Exit → Act → World → Prop} {C : World → Prop} {m : Nat} : ∀ (fuel : Nat) (listed : Array Bool) (a : Act) (w : World), gL P ops Q C m fuel listed a w → wpAny P .any ops Q fuel listed a w
  | 0, _, _, _, h => h
  | fuel + 1, _, _, _, h => ⟨h.1, fun i hi => wpOp_mono (fun a' w' h' => wpAny_of_U fuel _ a' w' h'.2) (h.2 i hi)⟩
/-- .. waits for it, through others. -/
def waits (ops : Array Oper) : Nat → Nat → Nat → Bool
  | 0, _, _ => false
  | f + 1, t, i => match ops[t]? with
    | some o => o.after.any fun e => Region.binds .any e && (e.on == i || waits ops f e.on i)
    | none => false
def tailW2 (ops : Array Oper) (m i : Nat) : Bool := (List.range ops.size).all fun t => Nat.blt t m || waits ops ops.size t i
def closedB (ops : Array Oper) (listed : Array Bool) : Bool := (List.range ops.size).all fun k => !(listed.getD k false) || match ops[k]? with
  | some o => o.after.all fun e => !(Region.binds .any e) || listed.getD e.on false
  | none => true
def gc (ops : Array Oper) (listed : Array Bool) : Prop := ∀ k o, ops[k]? = some o → listed.getD k false = true → ∀ e ∈ o.after, Region.binds .any e = true → listed.getD e.on false = true
theorem closed_of {ops : Array Oper} {listed : Array Bool} (h : closedB ops listed = true) : gc ops listed := fun k o ho hk e he hb => by
  simp only [closedB, List.all_eq_true, List.mem_range] at h
  have h1 := h k (Array.getElem?_eq_some_iff.1 ho).1
  simp only [hk, ho, Bool.not_true, Bool.false_or] at h1
  have h2 := Array.all_eq_true'.1 h1 e he
  simpa [hb] using h2
theorem fC {ops : Array Oper} {listed : Array Bool} (hc : gc ops listed) {i : Nat} : ∀ (f t : Nat) (o : Oper), ops[t]? = some o → (∀ e ∈ o.after, Region.binds .any e = true → listed.getD e.on false = true) → waits ops f t i = true → listed.getD i false = true
  | 0, _, _, _, _, h => by cases h
  | f + 1, t, o, ho, hd, h => by
    rw [waits, ho] at h
    obtain ⟨e, he, hb⟩ := Array.any_eq_true'.1 h
    simp only [Bool.and_eq_true, Bool.or_eq_true, beq_iff_eq] at hb
    have hl := hd e he hb.1
    rcases hb.2 with h1 | h1
    · rw [← h1]; exact hl
    · cases hoe : ops[e.on]? with
      | none =>
        exfalso
        cases f with
        | zero => cases h1
        | succ f =>
          rw [waits, hoe] at h1
          cases h1
      | some oe => exact fC hc f e.on oe hoe (fun e2 h2 h3 => hc e.on oe hoe hl e2 h2 h3) h1
theorem closed_set {ops : Array Oper} {listed : Array Bool} {j : Nat} {oj : Oper} (h : gc ops listed) (hoj : ops[j]? = some oj) (hd : ∀ e ∈ oj.after, Region.binds .any e = true → listed.getD e.on false = true) : gc ops (listed.setIfInBounds j true) := fun k o ho hk e he hb => by
  have mono : ∀ q, listed.getD q false = true → (listed.setIfInBounds j true).getD q false = true := fun q hq => by
    by_cases e2 : j = q
    · subst e2
      have : j < listed.size := by
        rcases Nat.lt_or_ge j listed.size with h' | h'
        · exact h'
        · simp [Array.getElem?_eq_none h'] at hq
      simp [this]
    · rw [getD_set_ne' e2]; exact hq
  refine mono _ ?_
  by_cases e2 : j = k
  · subst e2; rw [hoj] at ho; cases ho; exact hd e he hb
  · rw [getD_set_ne' e2] at hk; exact h k o ho hk e he hb
theorem wpAnyU_first {P : Program} {ops : Array Oper} {Q : Exit → Act → World → Prop} {C : World → Prop} {m i : Nat} {oi : Oper} {v : Value} (hi : ops[i]? = some oi) (hsel : ∀ (j : Nat) (o : Oper) cs b, ops[j]? = some o → o.op ≠ .select cs b)
    (hQ : ∀ c a w, Q (.panic c) (a.put oi.dst v) w → Q (.panic c) a w) (hm : tailW2 ops m i = true) (him : i < m) :
    ∀ (fuel : Nat) (listed : Array Bool) (a : Act) (w : World), dR m listed = true → gc ops listed →
      (∀ j oj, ops[j]? = some oj → j ≠ i → listed.getD j true = false → (∀ e ∈ oj.after, Region.binds .any e = true → e.on ≠ i) → oi.apart ops oj = true) →
      i ∈ Region.ready .any ops listed → YieldsIf P ops C oi v a → C w →
      gL P ops Q C m fuel (listed.setIfInBounds i true) (a.put oi.dst v) w → gL P ops Q C m (fuel + 1) listed a w := by
  intro fuel
  induction fuel with
  | zero =>
    intro listed a w hnt hcl _ hr hy hS H
    refine ⟨fun h => (by rw [h] at hr; cases hr), fun j hj => ?_⟩
    by_cases hji : j = i
    · subst hji; exact hy.wpOp hi hS ⟨fun _ => hS, H⟩
    · have := ready_mono hj hji
      rw [H.1] at this
      cases this
  | succ fuel ih =>
    intro listed a w hnt hcl hfree hr hy hS H
    refine ⟨fun h => (by rw [h] at hr; cases hr), fun j hj => ?_⟩
    by_cases hji : j = i
    · subst hji; exact hy.wpOp hi hS ⟨fun _ => hS, H⟩
    · have h1 := H.2 j (ready_mono hj hji)
      obtain ⟨hjun, oj, hoj, hall⟩ := mem_ready.1 hj
      have hun : listed.getD i false = false := by
        have h0 := (mem_ready.1 hr).1
        rcases Nat.lt_or_ge i listed.size with h' | h'
        · simpa [h'] using h0
        · simp [Array.getElem?_eq_none h']
      have hnot : ∀ e ∈ oj.after, Region.binds .any e = true → e.on ≠ i := fun e he hb heq => by
        have h1 := hall e he hb
        rw [heq, hun] at h1
        cases h1
      have hjm : j < m := by
        rcases Nat.lt_or_ge j m with h | h
        · exact h
        · simp only [tailW2, List.all_eq_true, List.mem_range] at hm
          have h1 := hm j (Array.getElem?_eq_some_iff.1 hoj).1
          rw [Bool.or_eq_true] at h1
          rcases h1 with h1 | h1
          · have := Nat.le_of_ble_eq_true h1; omega
          · rw [fC hcl _ j oj hoj hall h1] at hun; cases hun
      have h2 := wpOp_putIf hoj (hfree j oj hoj hji hjun hnot) (fun cs b => hsel i oi cs b hi) (fun cs b => hsel j oj cs b hoj) hQ hy h1
      have hfree' : ∀ k ok, ops[k]? = some ok → k ≠ i → (listed.setIfInBounds j true).getD k true = false →
          (∀ e ∈ ok.after, Region.binds .any e = true → e.on ≠ i) → oi.apart ops ok = true := fun k ok hk hki hun' hno => by
        refine hfree k ok hk hki ?_ hno
        by_cases hjk : j = k
        · subst hjk; exact hjun
        · rw [getD_set_ne true hjk] at hun'; exact hun'
      have hC := d7 (d7 hnt him) hjm
      refine wpOp_mono (fun a' w' h3 => ⟨fun _ => h3.2.1 hC, ih (listed.setIfInBounds j true) a' w' (d7 hnt hjm) (closed_set hcl hoj hall) hfree' (ready_mono hr (Ne.symm hji)) h3.1 (h3.2.1 hC) ?_⟩) h2
      rw [Array.setIfInBounds_comm _ _ hji]
      exact h3.2.2
def WU (x : Cx) (C : World → Prop) (m : Nat) (ops : Array Oper) (fuel : Nat) (listed : Array Bool) (l : Fr) (L S : List Ch) (Q : Exit → Act → World → Prop) : Prop :=
  ∀ a w, Kn x.N x.ds l a → Hp x.ok0 x.w0 L S w → gL x.P ops Q C m fuel listed a w
def QnU (x : Cx) (C : World → Prop) (m : Nat) (ops : Array Oper) (fuel : Nat) (listed : Array Bool) (Q : Exit → Act → World → Prop) : Exit → Act → World → Prop := Exit.then (fun a w => (dR m listed = true → C w) ∧ gL x.P ops Q C m fuel listed a w) Q
def WRU (x : Cx) (C : World → Prop) (m : Nat) (ops : Array Oper) (fuel : Nat) (listed : Array Bool) (js : List Nat) (l : Fr) (L S : List Ch) (Q : Exit → Act → World → Prop) : Prop :=
  ∀ i ∈ js, ∀ a w, Kn x.N x.ds l a → Hp x.ok0 x.w0 L S w → wpOp x.P ops Q i (fun a' w' => (dR m (listed.setIfInBounds i true) = true → C w') ∧ gL x.P ops Q C m fuel (listed.setIfInBounds i true) a' w') a w
section
variable {x : Cx} {C : World → Prop} {l : Fr} {L S : List Ch} {Q : Exit → Act → World → Prop} {ops : Array Oper} {fuel m : Nat} {listed : Array Bool}
theorem eG {id : Nat} {ol : List Oper} (m : Nat) (hro : x.ro = none) (hm : x.P.follows .mixedOrders = true) (h : WU x (Hp x.ok0 x.w0 L S) m ol.toArray ol.length (Array.replicate ol.length false) l L S Q) : W x l L S (.region id ol.toArray true) Q := fun a w ha hw => by
  rw [hro]
  refine (wpIn_wide (n := 0)).2 (wp_region_any hm (wpAny_of_U (C := Hp x.ok0 x.w0 L S) (m := m) _ _ _ _ ?_))
  have := h a { w with drawn := w.drawn + 1 } ha hw.drew
  simpa using this
theorem aq {i d : Nat} {op : Op} {ty : TypeId} {pos : String} {af : Array Edge} {gd : Option (Nat × Bool)} {v : Value} {listed' : Array Bool} {L0 S0 : List Ch} (hi : ops[i]? = some ⟨some d, op, ty, pos, af, gd⟩) (hw : ∀ a, Kn x.N x.ds l a → Region.wanted ⟨some d, op, ty, pos, af, gd⟩ (yielded ops a.tmps) = true)
    (hy : Yv x l L0 S0 ⟨some d, op, ty, pos, af, gd⟩ v) (hC : ∀ w, Hp x.ok0 x.w0 L S w → C w) (hC0 : ∀ w, C w → Hp x.ok0 x.w0 L0 S0 w) (hN : Nat.blt d x.N = true) (hpk : PkOk Q)
    (hs : (Region.noSelect ops && Region.free .any ops listed i && (Region.ready .any ops listed).contains i && tailW2 ops m i && Nat.blt i m && dR m listed && closedB ops listed) = true) (hl : listed.setIfInBounds i true = listed')
    (k : WU x C m ops fuel listed' ((d, v) :: l) L S Q) : WU x C m ops (fuel + 1) listed l L S Q := fun a w ha hh => by
  simp only [Bool.and_eq_true] at hs
  obtain ⟨⟨⟨⟨⟨⟨h1, h2⟩, h3⟩, h4⟩, h5⟩, h6⟩, h7⟩ := hs
  exact wpAnyU_first hi (Region.noSelect_spec h1) (fun c a w h => hpk c a w _ _ h) h4 (Nat.le_of_ble_eq_true h5) fuel listed a w h6 (closed_of h7) (Region.free_spec hi h2) (by simpa using h3) (.inl ⟨hw a ha, fun w' hw' => hy a w' ha (hC0 w' hw')⟩) (hC w hh) (by rw [hl]; exact k _ w (ha.put (Nat.le_of_ble_eq_true hN) v) hh)
theorem ax {C : World → Prop} {l : Fr} {L S : List Ch} (hC : ∀ w, Hp x.ok0 x.w0 L S w → C w) (h : WU x C m ops fuel listed l L S Q) : E x l L S .normal (QnU x C m ops fuel listed Q) := fun a w ha hw => ⟨fun _ => hC w hw, h a w ha hw⟩
theorem cE {C : World → Prop} {l : Fr} {L S : List Ch} (hi : dR m listed = false) (h : WU x C m ops fuel listed l L S Q) : E x l L S .normal (QnU x C m ops fuel listed Q) := fun a w ha hw => ⟨fun h' => absurd (hi.symm.trans h') (by decide), h a w ha hw⟩
theorem bI {js : List Nat} (hr : Region.ready .any ops listed = js) (hne : js.isEmpty = false) (h : WRU x C m ops fuel listed js l L S Q) : WU x C m ops (fuel + 1) listed l L S Q := fun a w ha hh =>
  ⟨fun h0 => by rw [hr] at h0; subst h0; simp at hne, fun j hj => h j (hr ▸ hj) a w ha hh⟩
theorem br : WRU x C m ops fuel listed [] l L S Q := fun i hi => by cases hi
theorem aH {js : List Nat} {o : Oper} {i : Nat} {listed' : Array Bool} (hro : x.ro = none) (hi : ops[i]? = some o) (hnd : Op.isDefer o.op = false) (ht : ∀ a w, Kn x.N x.ds l a → Tame ((execOp a.eval o).run x.P w)) (hl : listed.setIfInBounds i true = listed')
    (h : WL x l L S ops [o] (QnU x C m ops fuel listed' Q)) (k : WRU x C m ops fuel listed js l L S Q) : WRU x C m ops fuel listed (i :: js) l L S Q := fun j hj => by
  rcases List.mem_cons.1 hj with rfl | hj
  · intro a w ha hh
    rw [hl]
    refine g7 hi ?_
    have h1 := h a w ha hh
    rw [hro] at h1
    unfold wpListIn at h1
    unfold wpList
    split
    · rename_i hw
      rw [if_pos hw] at h1
      obtain ⟨_, h1⟩ := h1
      have e : Oper.semAt (fw none).round a.eval o = execOp a.eval o := rfl
      rw [e] at h1
      refine .inl ?_
      unfold Oper.wp
      have ht' := ht a w ha
      cases hx : (execOp a.eval o).run x.P w with
      | halt hh w' => rw [hx] at h1; cases hh <;> exact h1
      | ok n w' =>
        rw [hx] at h1 ht'
        cases n with
        | value v => exact h1
        | skip => exact h1
        | enter f args =>
          have := (callsIn_wide (n := 0 - 1)).1 (show CallsIn Fence.wide (0 - 1) x.P f args w' _ from h1.2)
          exact cw this fun e w'' hR => by cases e <;> exact hR
        | _ => exact ht'.elim
    · rename_i hw
      rw [if_neg hw] at h1
      exact h1.2
  · exact k j hj
theorem aQ {o : Oper} {i : Nat} {listed' : Array Bool} (hro : x.ro = none) (hi : ops[i]? = some o) (hnd : Op.isDefer o.op = false) (ht : ∀ a w, Kn x.N x.ds l a → Tame ((execOp a.eval o).run x.P w)) (hr : Region.ready .any ops listed = [i]) (hl : listed.setIfInBounds i true = listed')
    (h : WL x l L S ops [o] (QnU x C m ops fuel listed' Q)) : WU x C m ops (fuel + 1) listed l L S Q := bI hr rfl (aH hro hi hnd ht hl h br)
theorem bO {t : Nat} {v : Value} (v' : Value) (h : look l t = some v) (e : v = v') (k : WU x C m ops fuel listed ((t, v') :: l) L S Q) : WU x C m ops fuel listed l L S Q := fun a w ha hw => k a w (ha.mono fun t' u h' => by
    simp only [look] at h'
    cases e2 : Nat.beq t t' with
    | true => rw [e2] at h'; cases h'; rw [← Nat.eq_of_beq_eq_true e2, h, e]
    | false => rw [e2] at h'; exact h') hw
theorem b0 {fuel : Nat} (hr : Region.ready .any ops listed = []) (h : E x l L S .normal Q) : WU x C m ops fuel listed l L S Q := fun a w ha hh => by
  cases fuel with
  | zero => exact ⟨hr, h a w ha hh⟩
  | succ n => exact ⟨fun _ => h a w ha hh, by rw [hr]; simp⟩
end
end Go.Proofs.Ytnpdgmoeoidppaa

/- the references of data and records; where entries lie -/
namespace Go.Proofs.Ytnpdgmoeoidppaa
open Go.RowKit Go.Shelf
set_option linter.unusedVariables false
set_option linter.unusedSimpArgs false

/-- What a type has. -/
structure Hs where
  addr : Bool
  name : Bool
  mail : Bool
  texts : Bool
  raw : Bool
  nums : Int
  wide : Int
def numD (d : Dt) : Nat → Int
  | 0 => d.n0
  | 1 => d.n1
  | 2 => d.n2
  | 3 => d.n3
  | _ => d.n4
def hasBad (h : Hs) (d : Dt) : Prop := (h.addr = false ∧ d.ad ≠ ad0) ∨ (h.name = false ∧ d.name ≠ []) ∨ (h.mail = false ∧ d.mail ≠ []) ∨ (h.raw = false ∧ d.raw ≠ []) ∨ h.texts = true
instance (h : Hs) (d : Dt) : Decidable (hasBad h d) := by unfold hasBad; infer_instance
def adBad (t : Int) (h : Hs) (d : Dt) : Prop := h.addr = true ∧ (fH d.ad ≠ 0 ∨ d.ad.six ≠ decide (t = 28))
instance (t : Int) (h : Hs) (d : Dt) : Decidable (adBad t h d) := by unfold adBad; infer_instance
def numOk (h : Hs) (d : Dt) (k : Nat) : Prop := ¬ (h.nums ≤ k ∧ numD d k ≠ 0) ∧ ¬ (h.wide = 2 ∧ 65535 < numD d k)
instance (h : Hs) (d : Dt) (k : Nat) : Decidable (numOk h d k) := by unfold numOk; infer_instance
def numsOk (h : Hs) (d : Dt) : Prop := ∀ k, k < 5 → numOk h d k
instance (h : Hs) (d : Dt) : Decidable (numsOk h d) := by unfold numsOk; exact Nat.decidableBallLT 5 _
end Go.Proofs.Ytnpdgmoeoidppaa

/- entries: the plain laws of their records -/
namespace Go.Proofs.Ytnpdgmoeoidppaa
open Go.RowKit Go.Shelf
set_option linter.unusedVariables false
set_option linter.unusedSimpArgs false

theorem fE {e : En} (h : cM e = 0) : bi e.host = 0 := by
  unfold cM at h
  split at h
  · exact h
  · omega
theorem hX {e : En} (h : lightE e = true) : e.host.length ≤ 300 ∧ e.alias.length ≤ 300 ∧ e.cluster.length ≤ 300 ∧ e.addrs.length ≤ 20 ∧ e.ports.length ≤ 20 := by
  simp only [lightE, Bool.and_eq_true, decide_eq_true_eq] at h
  exact ⟨h.1.1.1.1, h.1.1.1.2, h.1.1.2, h.1.2, h.2⟩

end Go.Proofs.Ytnpdgmoeoidppaa

/- the laws of entries -/
namespace Go.Proofs.Ytnpdgmoeoidppaa
open Go.RowKit Go.Shelf
set_option linter.unusedVariables false
set_option linter.unusedSimpArgs false

def AdOk (a : Ad) : Prop := 0 ≤ a.hi ∧ a.hi ≤ 18446744073709551615 ∧ 0 ≤ a.lo ∧ a.lo ≤ 18446744073709551615
def EnOk (e : En) : Prop := e.host.length ≤ 9223372036854775807 ∧ (-9223372036854775808 ≤ e.kind ∧ e.kind ≤ 9223372036854775807) ∧ e.cluster.length ≤ 9223372036854775807 ∧ (∀ a ∈ e.addrs, AdOk a) ∧ e.addrs.length ≤ 9223372036854775807 ∧ e.alias.length ≤ 9223372036854775807 ∧ (∀ p ∈ e.ports, -9223372036854775808 ≤ p ∧ p ≤ 9223372036854775807) ∧ e.ports.length ≤ 9223372036854775807 ∧ 0 ≤ e.ttl ∧ e.ttl ≤ 4294967295
theorem EnOk.lo {e : En} (h : EnOk e) : ∀ a ∈ e.addrs, 0 ≤ a.lo := fun a ha => (h.2.2.2.1 a ha).2.2.1

theorem cT {w : World} {sz : Nat} : (Ch.rs none 0 sz []).P w ∧ ∀ b, (Ch.rs none 0 sz []).ok b → b < w.heap.size := ⟨⟨by simp, (by simp), .inl rfl⟩, fun b hb => by simp [Ch.rs] at hb⟩

end Go.Proofs.Ytnpdgmoeoidppaa

/- copies of entries; the laws of folded hosts and of copies -/
namespace Go.Proofs.Ytnpdgmoeoidppaa
open Go.RowKit Go.Shelf
set_option linter.unusedVariables false
set_option linter.unusedSimpArgs false

theorem ent_89 : Enters Try.prog 89 := enters_of Try.func89 (by kernel_rfl) rfl
theorem ent_90 : Enters Try.prog 90 := enters_of Try.func90 (by kernel_rfl) rfl
theorem ent_91 : Enters Try.prog 91 := enters_of Try.func91 (by kernel_rfl) rfl
theorem ent_92 : Enters Try.prog 92 := enters_of Try.func92 (by kernel_rfl) rfl

theorem c_entry_Same (e : En) (A B : Option Addr) (c d : Nat) (f : En) (F G : Option Addr) (c2 d2 : Nat) (hla : e.addrs.length ≤ 1000000000000) (hlp : e.ports.length ≤ 1000000000000) : RC Try.prog 51 #[.agg (enC e A B c d).toArray, .agg (enC f F G c2 d2).toArray] [Ch.rd A 3 gS e.addrs, Ch.rd B 1 fG e.ports, Ch.rd F 3 gS f.addrs, Ch.rd G 1 fG f.ports] (α := Unit) (fun _ => .bool (decide (e = f))) (fun _ => []) := by
 refine bZ (args := [.agg (enC e A B c d).toArray, .agg (enC f F G c2 d2).toArray]) 52 Try.func51 rfl rfl rfl (fun w0 => ?_)
 refine ap ?_
 refine ah ?_
 refine da rfl rfl rfl (fun b1 => ?_)
 refine da rfl rfl rfl (fun b2 => ?_)
 refine au (aj rfl) rfl rfl ?_
 refine aa ?_
 refine am ?_
 refine ap ?_
 refine ah ?_
 refine au (aR db rfl) rfl rfl ?_
 refine au (aN 1 bN rfl rfl rfl) rfl rfl ?_
 refine au (aR db rfl) rfl rfl ?_
 refine au (aN 0 bN rfl rfl rfl) rfl rfl ?_
 refine au (d8 rfl rfl) rfl rfl ?_
 refine aG (t := 9) rfl (fun h1_4 => ?_) (fun h1_4 => ?_)
 refine au (ak rfl) rfl rfl ?_
 refine av rfl rfl ?_
 refine au (aR fa_44_1 rfl) rfl rfl ?_
 refine av rfl rfl ?_
 refine au (aN 1 d6 rfl rfl rfl) rfl rfl ?_
 refine av rfl rfl ?_
 refine au (aR fa_44_1 rfl) rfl rfl ?_
 refine av rfl rfl ?_
 refine au (aN 0 d6 rfl rfl rfl) rfl rfl ?_
 refine av rfl rfl ?_
 refine au (bW rfl rfl) rfl rfl ?_
 refine aG (t := 15) rfl (fun h1_10 => ?_) (fun h1_10 => ?_)
 refine au (aF rfl rfl) rfl rfl ?_
 refine au (ak rfl) rfl rfl ?_
 refine av rfl rfl ?_
 refine au (aR gZ rfl) rfl rfl ?_
 refine av rfl rfl ?_
 refine au (aN 1 bK rfl rfl rfl) rfl rfl ?_
 refine av rfl rfl ?_
 refine au (aR gZ rfl) rfl rfl ?_
 refine av rfl rfl ?_
 refine au (aN 0 bK rfl rfl rfl) rfl rfl ?_
 refine av rfl rfl ?_
 refine au (d8 rfl rfl) rfl rfl ?_
 refine aG (t := 22) rfl (fun h1_17 => ?_) (fun h1_17 => ?_)
 refine au (aF rfl rfl) rfl rfl ?_
 refine au (ak rfl) rfl rfl ?_
 refine av rfl rfl ?_
 refine au (aR fD rfl) rfl rfl ?_
 refine av rfl rfl ?_
 refine au (aN 1 bN rfl rfl rfl) rfl rfl ?_
 refine av rfl rfl ?_
 refine au (aR fD rfl) rfl rfl ?_
 refine av rfl rfl ?_
 refine au (aN 0 bN rfl rfl rfl) rfl rfl ?_
 refine av rfl rfl ?_
 refine au (d8 rfl rfl) rfl rfl ?_
 refine aG (t := 29) rfl (fun h1_24 => ?_) (fun h1_24 => ?_)
 refine au (aF rfl rfl) rfl rfl ?_
 refine au (ak rfl) rfl rfl ?_
 refine av rfl rfl ?_
 refine au (aR fa_44_6 rfl) rfl rfl ?_
 refine av rfl rfl ?_
 refine au (aN 1 ty_42 rfl rfl rfl) rfl rfl ?_
 refine av rfl rfl ?_
 refine au (aR fa_44_6 rfl) rfl rfl ?_
 refine av rfl rfl ?_
 refine au (aN 0 ty_42 rfl rfl rfl) rfl rfl ?_
 refine av rfl rfl ?_
 refine au (bW rfl rfl) rfl rfl ?_
 refine aG (t := 36) rfl (fun h1_31 => ?_) (fun h1_31 => ?_)
 refine au (aF rfl rfl) rfl rfl ?_
 refine au (ak rfl) rfl rfl ?_
 refine av rfl rfl ?_
 refine au (aR eF rfl) rfl rfl ?_
 refine av rfl rfl ?_
 refine au (aN 1 g5 rfl rfl rfl) rfl rfl ?_
 refine av rfl rfl ?_
 refine au (aR eF rfl) rfl rfl ?_
 refine av rfl rfl ?_
 refine au (aN 0 g5 rfl rfl rfl) rfl rfl ?_
 refine av rfl rfl ?_
 refine aS rfl ent_91 rfl (c_Equal_ad _ _ _ _ _ _ (by omega)) (fun w hw => (ao (cW 0 rfl hw) (ao (cW 2 rfl hw) aM))) ?_
 refine b6 (t := 43) rfl (fun h1_38 => ?_) (fun h1_38 => ?_)
 refine au (aF rfl rfl) rfl rfl ?_
 refine au (ak rfl) rfl rfl ?_
 refine av rfl rfl ?_
 refine au (aR f9 rfl) rfl rfl ?_
 refine av rfl rfl ?_
 refine au (aN 1 ty_41 rfl rfl rfl) rfl rfl ?_
 refine av rfl rfl ?_
 refine au (aR f9 rfl) rfl rfl ?_
 refine av rfl rfl ?_
 refine au (aN 0 ty_41 rfl rfl rfl) rfl rfl ?_
 refine av rfl rfl ?_
 refine aS rfl ent_92 rfl (c_Equal_int _ _ _ _ _ _ (by omega)) (fun w hw => (ao (cW 1 rfl hw) (ao (cW 3 rfl hw) aM))) ?_
 refine au (aF rfl rfl) rfl rfl ?_
 refine au (aj rfl) rfl rfl ?_
 refine aa ?_
 refine am ?_
 refine aU ?_
 refine aX (ts := [4]) rfl rfl rfl (fun w hw => ?_)
 refine ⟨(), ?_, hw.base, (hw.weak (List.nil_sublist _) (fun s hs => hs)).toNews⟩
 show Ending.returned (.bool _) = _
 congr 2
 focus first
   | (have hne : e ≠ f := fun h => by
        subst h
        simp_all
      rw [decide_eq_false hne]
      done)
   | (rw [decide_eq_decide]
      cases e; cases f
      simp_all
      done)
   | (trace_state; fail)
 refine au (aF rfl rfl) rfl rfl ?_
 refine au (ak rfl) rfl rfl ?_
 refine aw rfl rfl rfl rfl ?_
 refine aw rfl rfl rfl rfl ?_
 refine aw rfl rfl rfl rfl ?_
 refine aw rfl rfl rfl rfl ?_
 refine aw rfl rfl rfl rfl ?_
 refine au (aT rfl rfl) rfl rfl ?_
 refine au (aj rfl) rfl rfl ?_
 refine aa ?_
 refine am ?_
 refine aU ?_
 refine aX (ts := [4]) rfl rfl rfl (fun w hw => ?_)
 refine ⟨(), ?_, hw.base, (hw.weak (List.nil_sublist _) (fun s hs => hs)).toNews⟩
 show Ending.returned (.bool _) = _
 congr 2
 focus first
   | (have hne : e ≠ f := fun h => by
        subst h
        simp_all
      rw [decide_eq_false hne]
      done)
   | (rw [decide_eq_decide]
      cases e; cases f
      simp_all
      done)
   | (trace_state; fail)
 refine au (aF rfl rfl) rfl rfl ?_
 refine au (ak rfl) rfl rfl ?_
 refine aw rfl rfl rfl rfl ?_
 refine aw rfl rfl rfl rfl ?_
 refine aw rfl rfl rfl rfl ?_
 refine aw rfl rfl rfl rfl ?_
 refine aw rfl rfl rfl rfl ?_
 refine au (aT rfl rfl) rfl rfl ?_
 refine au (ak rfl) rfl rfl ?_
 refine aw rfl rfl rfl rfl ?_
 refine aw rfl rfl rfl rfl ?_
 refine aw rfl rfl rfl rfl ?_
 refine aw rfl rfl rfl rfl ?_
 refine aw rfl rfl rfl rfl ?_
 refine au (aT rfl rfl) rfl rfl ?_
 refine au (aj rfl) rfl rfl ?_
 refine aa ?_
 refine am ?_
 refine aU ?_
 refine aX (ts := [4]) rfl rfl rfl (fun w hw => ?_)
 refine ⟨(), ?_, hw.base, (hw.weak (List.nil_sublist _) (fun s hs => hs)).toNews⟩
 show Ending.returned (.bool _) = _
 congr 2
 focus first
   | (have hne : e ≠ f := fun h => by
        subst h
        simp_all
      rw [decide_eq_false hne]
      done)
   | (rw [decide_eq_decide]
      cases e; cases f
      simp_all
      done)
   | (trace_state; fail)
 refine au (aF rfl rfl) rfl rfl ?_
 refine au (ak rfl) rfl rfl ?_
 refine aw rfl rfl rfl rfl ?_
 refine aw rfl rfl rfl rfl ?_
 refine aw rfl rfl rfl rfl ?_
 refine aw rfl rfl rfl rfl ?_
 refine aw rfl rfl rfl rfl ?_
 refine au (aT rfl rfl) rfl rfl ?_
 refine au (ak rfl) rfl rfl ?_
 refine aw rfl rfl rfl rfl ?_
 refine aw rfl rfl rfl rfl ?_
 refine aw rfl rfl rfl rfl ?_
 refine aw rfl rfl rfl rfl ?_
 refine aw rfl rfl rfl rfl ?_
 refine au (aT rfl rfl) rfl rfl ?_
 refine au (ak rfl) rfl rfl ?_
 refine aw rfl rfl rfl rfl ?_
 refine aw rfl rfl rfl rfl ?_
 refine aw rfl rfl rfl rfl ?_
 refine aw rfl rfl rfl rfl ?_
 refine aw rfl rfl rfl rfl ?_
 refine au (aT rfl rfl) rfl rfl ?_
 refine au (aj rfl) rfl rfl ?_
 refine aa ?_
 refine am ?_
 refine aU ?_
 refine aX (ts := [4]) rfl rfl rfl (fun w hw => ?_)
 refine ⟨(), ?_, hw.base, (hw.weak (List.nil_sublist _) (fun s hs => hs)).toNews⟩
 show Ending.returned (.bool _) = _
 congr 2
 focus first
   | (have hne : e ≠ f := fun h => by
        subst h
        simp_all
      rw [decide_eq_false hne]
      done)
   | (rw [decide_eq_decide]
      cases e; cases f
      simp_all
      done)
   | (trace_state; fail)
 refine au (aF rfl rfl) rfl rfl ?_
 refine au (ak rfl) rfl rfl ?_
 refine aw rfl rfl rfl rfl ?_
 refine aw rfl rfl rfl rfl ?_
 refine aw rfl rfl rfl rfl ?_
 refine aw rfl rfl rfl rfl ?_
 refine aw rfl rfl rfl rfl ?_
 refine au (aT rfl rfl) rfl rfl ?_
 refine au (ak rfl) rfl rfl ?_
 refine aw rfl rfl rfl rfl ?_
 refine aw rfl rfl rfl rfl ?_
 refine aw rfl rfl rfl rfl ?_
 refine aw rfl rfl rfl rfl ?_
 refine aw rfl rfl rfl rfl ?_
 refine au (aT rfl rfl) rfl rfl ?_
 refine au (ak rfl) rfl rfl ?_
 refine aw rfl rfl rfl rfl ?_
 refine aw rfl rfl rfl rfl ?_
 refine aw rfl rfl rfl rfl ?_
 refine aw rfl rfl rfl rfl ?_
 refine aw rfl rfl rfl rfl ?_
 refine au (aT rfl rfl) rfl rfl ?_
 refine au (ak rfl) rfl rfl ?_
 refine aw rfl rfl rfl rfl ?_
 refine aw rfl rfl rfl rfl ?_
 refine aw rfl rfl rfl rfl ?_
 refine aw rfl rfl rfl rfl ?_
 refine aw rfl rfl rfl rfl ?_
 refine au (aT rfl rfl) rfl rfl ?_
 refine au (aj rfl) rfl rfl ?_
 refine aa ?_
 refine am ?_
 refine aU ?_
 refine aX (ts := [4]) rfl rfl rfl (fun w hw => ?_)
 refine ⟨(), ?_, hw.base, (hw.weak (List.nil_sublist _) (fun s hs => hs)).toNews⟩
 show Ending.returned (.bool _) = _
 congr 2
 focus first
   | (have hne : e ≠ f := fun h => by
        subst h
        simp_all
      rw [decide_eq_false hne]
      done)
   | (rw [decide_eq_decide]
      cases e; cases f
      simp_all
      done)
   | (trace_state; fail)
 refine au (aF rfl rfl) rfl rfl ?_
 refine au (ak rfl) rfl rfl ?_
 refine aw rfl rfl rfl rfl ?_
 refine aw rfl rfl rfl rfl ?_
 refine aw rfl rfl rfl rfl ?_
 refine aw rfl rfl rfl rfl ?_
 refine aw rfl rfl rfl rfl ?_
 refine au (aT rfl rfl) rfl rfl ?_
 refine au (ak rfl) rfl rfl ?_
 refine aw rfl rfl rfl rfl ?_
 refine aw rfl rfl rfl rfl ?_
 refine aw rfl rfl rfl rfl ?_
 refine aw rfl rfl rfl rfl ?_
 refine aw rfl rfl rfl rfl ?_
 refine au (aT rfl rfl) rfl rfl ?_
 refine au (ak rfl) rfl rfl ?_
 refine aw rfl rfl rfl rfl ?_
 refine aw rfl rfl rfl rfl ?_
 refine aw rfl rfl rfl rfl ?_
 refine aw rfl rfl rfl rfl ?_
 refine aw rfl rfl rfl rfl ?_
 refine au (aT rfl rfl) rfl rfl ?_
 refine au (ak rfl) rfl rfl ?_
 refine aw rfl rfl rfl rfl ?_
 refine aw rfl rfl rfl rfl ?_
 refine aw rfl rfl rfl rfl ?_
 refine aw rfl rfl rfl rfl ?_
 refine aw rfl rfl rfl rfl ?_
 refine au (aT rfl rfl) rfl rfl ?_
 refine au (ak rfl) rfl rfl ?_
 refine aw rfl rfl rfl rfl ?_
 refine aw rfl rfl rfl rfl ?_
 refine aw rfl rfl rfl rfl ?_
 refine aw rfl rfl rfl rfl ?_
 refine aw rfl rfl rfl rfl ?_
 refine au (aT rfl rfl) rfl rfl ?_
 refine au (aj rfl) rfl rfl ?_
 refine aa ?_
 refine am ?_
 refine aU ?_
 refine aX (ts := [4]) rfl rfl rfl (fun w hw => ?_)
 refine ⟨(), ?_, hw.base, (hw.weak (List.nil_sublist _) (fun s hs => hs)).toNews⟩
 show Ending.returned (.bool _) = _
 congr 2
 focus first
   | (have hne : e ≠ f := fun h => by
        subst h
        simp_all
      rw [decide_eq_false hne]
      done)
   | (rw [decide_eq_decide]
      cases e; cases f
      simp_all
      done)
   | (trace_state; fail)
 refine au (ak rfl) rfl rfl ?_
 refine aw rfl rfl rfl rfl ?_
 refine aw rfl rfl rfl rfl ?_
 refine aw rfl rfl rfl rfl ?_
 refine aw rfl rfl rfl rfl ?_
 refine aw rfl rfl rfl rfl ?_
 refine au (aT rfl rfl) rfl rfl ?_
 refine au (ak rfl) rfl rfl ?_
 refine aw rfl rfl rfl rfl ?_
 refine aw rfl rfl rfl rfl ?_
 refine aw rfl rfl rfl rfl ?_
 refine aw rfl rfl rfl rfl ?_
 refine aw rfl rfl rfl rfl ?_
 refine au (aT rfl rfl) rfl rfl ?_
 refine au (ak rfl) rfl rfl ?_
 refine aw rfl rfl rfl rfl ?_
 refine aw rfl rfl rfl rfl ?_
 refine aw rfl rfl rfl rfl ?_
 refine aw rfl rfl rfl rfl ?_
 refine aw rfl rfl rfl rfl ?_
 refine au (aT rfl rfl) rfl rfl ?_
 refine au (ak rfl) rfl rfl ?_
 refine aw rfl rfl rfl rfl ?_
 refine aw rfl rfl rfl rfl ?_
 refine aw rfl rfl rfl rfl ?_
 refine aw rfl rfl rfl rfl ?_
 refine aw rfl rfl rfl rfl ?_
 refine au (aT rfl rfl) rfl rfl ?_
 refine au (ak rfl) rfl rfl ?_
 refine aw rfl rfl rfl rfl ?_
 refine aw rfl rfl rfl rfl ?_
 refine aw rfl rfl rfl rfl ?_
 refine aw rfl rfl rfl rfl ?_
 refine aw rfl rfl rfl rfl ?_
 refine au (aT rfl rfl) rfl rfl ?_
 refine au (ak rfl) rfl rfl ?_
 refine aw rfl rfl rfl rfl ?_
 refine aw rfl rfl rfl rfl ?_
 refine aw rfl rfl rfl rfl ?_
 refine aw rfl rfl rfl rfl ?_
 refine aw rfl rfl rfl rfl ?_
 refine au (aT rfl rfl) rfl rfl ?_
 refine au (aj rfl) rfl rfl ?_
 refine aa ?_
 refine am ?_
 refine aU ?_
 refine aX (ts := [4]) rfl rfl rfl (fun w hw => ?_)
 refine ⟨(), ?_, hw.base, (hw.weak (List.nil_sublist _) (fun s hs => hs)).toNews⟩
 show Ending.returned (.bool _) = _
 congr 2
 focus first
   | (have hne : e ≠ f := fun h => by
        subst h
        simp_all
      rw [decide_eq_false hne]
      done)
   | (rw [decide_eq_decide]
      cases e; cases f
      simp_all
      done)
   | (trace_state; fail)

set_option maxRecDepth 100000 in
theorem eH (e : En) (A B : Option Addr) (c d : Nat) (hla : e.addrs.length ≤ 1000000000000) (hlp : e.ports.length ≤ 1000000000000) : RC Try.prog 49 #[.agg (enC e A B c d).toArray] [Ch.rd A 3 gS e.addrs, Ch.rd B 1 fG e.ports] (α := Option Addr × Nat × Option Addr × Nat) (fun p => .agg (enC e p.1 p.2.2.1 p.2.1 p.2.2.2).toArray) (fun p => [Ch.ls p.2.2.1 p.2.2.2 3 1 fG (e).ports, Ch.ls p.1 p.2.1 62 3 gS (e).addrs]) := by
 refine bZ (args := [.agg (enC e A B c d).toArray]) 12 Try.func49 rfl rfl rfl (fun w0 => ?_)
 refine ap ?_
 refine ah ?_
 refine da rfl rfl rfl (fun b1 => ?_)
 refine bo a7 rfl rfl (fun b2 => ?_)
 refine aa ?_
 refine am ?_
 refine ap ?_
 refine dX 7 rfl mixed ?_
 refine aY (i := 0) rfl ae (aR eF rfl) aD aD rfl (ai ar) (by kernel_rfl) rfl ?_
 refine aY (i := 1) rfl ae (aN 1 g5 rfl rfl rfl) aD aD rfl (ai ar) (by kernel_rfl) rfl ?_
 refine aY (i := 3) rfl ae (aR f9 rfl) aD aD rfl (ai ar) (by kernel_rfl) rfl ?_
 refine aY (i := 4) rfl ae (aN 1 ty_41 rfl rfl rfl) aD aD rfl (ai ar) (by kernel_rfl) rfl ?_
 refine eB (i := 2) rfl rfl rfl (aB rfl ent_89) (by kernel_rfl) rfl ?_
 refine cY rfl ent_89 rfl (c_Clone_ad _ _ _ (by omega)) (fun w hw => (ao (cW 0 rfl hw) aM)) (fun ⟨A2, c2⟩ => ?_)
 refine aa ?_
 refine e_one (aJ 1) ?_
 refine aY (i := 6) rfl ae (aR eF rfl) (aJ 1) aD rfl (ai ar) (by kernel_rfl) rfl ?_
 refine eB (i := 5) rfl rfl rfl (aB rfl ent_90) (by kernel_rfl) rfl ?_
 refine cY rfl ent_90 rfl (c_Clone_int _ _ _ (by omega)) (fun w hw => (ao (cW 1 rfl hw) aM)) (fun ⟨A3, c3⟩ => ?_)
 refine aa ?_
 refine e_one (aJ 2) ?_
 refine eB (i := 7) rfl rfl rfl (fun _ _ _ => az (by kernel_rfl)) (by kernel_rfl) rfl ?_
 refine bf g5 rfl rfl rfl (.s (.s (.s (.z)))) rfl rfl rfl rfl ?_
 refine aa ?_
 refine fN rfl ?_
 refine eB (i := 8) rfl rfl rfl (fun _ _ _ => az (by kernel_rfl)) (by kernel_rfl) rfl ?_
 refine au (aR f9 rfl) rfl rfl ?_
 refine aa ?_
 refine fN rfl ?_
 refine eB (i := 9) rfl rfl rfl (fun _ _ _ => az (by kernel_rfl)) (by kernel_rfl) rfl ?_
 refine bf ty_41 rfl rfl rfl (.s (.s (.s (.z)))) rfl rfl rfl rfl ?_
 refine aa ?_
 refine fN rfl ?_
 refine dz (by kernel_rfl) ?_
 refine am ?_
 refine ap ?_
 refine ah ?_
 refine au (bj 3 a7 rfl rfl rfl rfl) rfl rfl ?_
 refine bf a7 rfl rfl rfl (.s (.s (.z))) rfl rfl rfl rfl ?_
 refine aa ?_
 refine am ?_
 refine aU ?_
 refine e_rsr (rs := [.cell 2 44]) rfl (dJ 2 a7 rfl rfl rfl rfl eN) rfl (fun w hw => ?_)
 exact ⟨⟨A2, c2, A3, c3⟩, rfl, hw.base, (hw.weak (.cons_cons _ (.cons_cons _ (.cons _ (.cons _ .slnil)))) (fun s hs => hs)).toNews⟩

end Go.Proofs.Ytnpdgmoeoidppaa

/- the reference of entries; the law of calls -/
namespace Go.Proofs.Ytnpdgmoeoidppaa
open Go.RowKit Go.Shelf
set_option linter.unusedVariables false
set_option linter.unusedSimpArgs false

end Go.Proofs.Ytnpdgmoeoidppaa
