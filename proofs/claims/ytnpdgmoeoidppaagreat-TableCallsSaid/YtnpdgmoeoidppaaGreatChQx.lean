import Derived.Test.YtnpdgmoeoidppaaGreatCgQx
/- the references of addresses, data, records, entries -/
namespace Go.Proofs.YtnpdgmoeoidppaaGreat
open Go.RowKit Go.Shelf
set_option linter.unusedVariables false
set_option linter.unusedSimpArgs false

theorem ent_151 : Enters Tryz.prog 151 := enters_of Tryz.func151 (by kernel_rfl) rfl
theorem ent_195 : Enters Tryz.prog 195 := enters_of Tryz.func195 (by kernel_rfl) rfl
theorem ent_79 : Enters Tryz.prog 79 := enters_of Tryz.func79 (by kernel_rfl) rfl

set_option maxRecDepth 100000 in
theorem c_Equal_ad (xs ys : List Ad) (A B : Option Addr) (c e : Nat) (hl : xs.length ≤ 1000000000000) : RC Tryz.prog 196 #[.slice A xs.length c, .slice B ys.length e] [Ch.rd A 3 gw xs, Ch.rd B 3 gw ys] (α := Unit) (fun _ => .bool (decide (xs = ys))) (fun _ => []) := by
 refine bK (args := [.slice A xs.length c, .slice B ys.length e]) 26 Tryz.func196 rfl rfl rfl (fun w0 => ?_)
 refine ap ?_
 refine ae ?_
 refine aq (ai rfl) rfl rfl ?_
 refine aa ?_
 refine aj ?_
 refine ap ?_
 refine ap ?_
 refine ae ?_
 refine aq (am rfl) rfl rfl ?_
 refine aq (bg Tryz.underlying30 rfl) rfl rfl ?_
 refine aq (am rfl) rfl rfl ?_
 refine aq (bg Tryz.underlying30 rfl) rfl rfl ?_
 refine aq (cO rfl rfl) rfl rfl ?_
 refine ay (t := 10) rfl (fun h1_4 => ?_) (fun h1_4 => ?_)
 refine aa ?_
 refine aj ?_
 refine aA rfl ?_
 refine ap ?_
 refine ae ?_
 refine aq (ai rfl) rfl rfl ?_
 refine aa ?_
 refine aj ?_
 refine aN ?_
 refine ax ?_
 refine aR (ts := [4]) rfl rfl rfl (fun w hw => ?_)
 have hne : xs ≠ ys := fun he => by rw [he] at h1_4; exact absurd rfl h1_4
 exact ⟨(), by rw [decide_eq_false hne]; rfl, hw.base, hw.toNews⟩
 refine aa ?_
 refine aj ?_
 refine aD rfl ?_
 refine aQ ?_
 refine aj ?_
 refine ap ?_
 refine ap ?_
 refine ae ?_
 refine aq (am rfl) rfl rfl ?_
 refine aq (bg Tryz.underlying30 rfl) rfl rfl ?_
 refine aq (am rfl) rfl rfl ?_
 refine aa ?_
 refine aj ?_
 refine aS ?_
 refine cC (σ := Nat) [4, 5, 13, 14, 15, 16, 17, 18, 19, 20, 21, 22, 23, 24, 25] (fun k => k ≤ xs.length ∧ xs.take k = ys.take k) (fun k => xs.length - k) (fun k => [(13, .int .i64 k)]) (0) ?_ ⟨rfl, trivial⟩ (fun k hI => ?_)
 exact ⟨Nat.zero_le _, rfl⟩
 refine ap ?_
 refine ae ?_
 refine aq (bW rfl rfl) rfl rfl ?_
 refine ay (t := 14) rfl (fun h4_0 => ?_) (fun h4_0 => ?_)
 refine aa ?_
 refine aj ?_
 refine ap ?_
 refine aA rfl ?_
 refine aQ ?_
 refine aj ?_
 refine ap ?_
 refine aS ?_
 refine ap ?_
 refine ae ?_
 refine aq (am rfl) rfl rfl ?_
 refine aq (ai rfl) rfl rfl ?_
 refine aa ?_
 refine aj ?_
 refine ap ?_
 refine dQ 9 rfl mixed ?_
 refine aK (i := 0) rfl ak (am rfl) aG aG rfl (ah (ao (ah (av (ao (ah aw)))))) (by kernel_rfl) rfl ?_
 refine aK (i := 1) rfl ak (am rfl) aG aG rfl (ah (ao (ah (av (ao (ah aw)))))) (by kernel_rfl) rfl ?_
 refine aK (i := 2) rfl ak (bB  Tryz.underlying30 eh rfl rfl (bF 0 rfl) rfl (by omega)) aG aG rfl (ah (ao (ah (av (ao (ah aw)))))) (by kernel_rfl) rfl ?_
 refine aK (i := 3) rfl ak (b6 fT jZ eh rfl (bF 0 rfl) (by omega) rfl rfl rfl) aG aG rfl (ah (ao (ah (av (ao (ah aw)))))) (by kernel_rfl) rfl ?_
 refine aK (i := 4) rfl ak (am rfl) aG aG rfl (ah (ao (ah (av (ao (ah aw)))))) (by kernel_rfl) rfl ?_
 refine aK (i := 5) rfl ak (am rfl) aG aG rfl (ah (ao (ah (av (ao (ah aw)))))) (by kernel_rfl) rfl ?_
 refine aK (i := 6) rfl ak (bB  Tryz.underlying30 eh rfl rfl (bF 1 rfl) rfl (by omega)) aG aG rfl (ah (ao (ah (av (ao (ah aw)))))) (by kernel_rfl) rfl ?_
 refine aK (i := 7) rfl ak (b6 fT jZ eh rfl (bF 1 rfl) (by omega) rfl rfl rfl) aG aG rfl (ah (ao (ah (av (ao (ah aw)))))) (by kernel_rfl) rfl ?_
 refine aK (i := 8) rfl ak (y_nestd (by kernel_rfl) rfl rfl (eqd_ad _ _) rfl) aG aG rfl (ah (ao (ah (av (ao (ah aw)))))) (by kernel_rfl) rfl ?_
 refine dN (t := 24) rfl (fun h6_8 => ?_) (fun h6_8 => ?_)
 refine cF (by kernel_rfl) ?_
 refine aj ?_
 refine aA rfl ?_
 refine ap ?_
 refine ae ?_
 refine aq (ai rfl) rfl rfl ?_
 refine aa ?_
 refine aj ?_
 refine aN ?_
 refine aJ ?_
 refine ax ?_
 refine bh ?_
 refine aJ ?_
 refine ax ?_
 refine aR (ts := [4]) rfl rfl rfl (fun w hw => ?_)
 focus first
   | (have hne : xs ≠ ys := fG jZ (k := k) (by simpa using h6_8)
      exact ⟨(), by rw [decide_eq_false hne]; rfl, hw.base, hw.toNews⟩)
   | (have hk : k = xs.length := by omega
      have he : xs = ys := by have := hI.2; rw [hk, List.take_length, List.take_of_length_le (by omega)] at this; exact this
      exact ⟨(), by rw [decide_eq_true he]; rfl, hw.base, hw.toNews⟩)
 refine cF (by kernel_rfl) ?_
 refine aj ?_
 refine aD rfl ?_
 refine aQ ?_
 refine bj ?_
 refine aj ?_
 refine ae ?_
 refine aq (br rfl rfl (by omega) (by omega)) rfl rfl ?_
 refine aq (am rfl) rfl rfl ?_
 refine aa ?_
 refine bv (k + 1) ?_ ?_ ⟨rfl, trivial⟩ (by repeat (first | exact trivial | refine ⟨rfl, ?_⟩)) aG
 exact ⟨by omega, fp jZ (by omega) (by omega) hI.2 (by simpa using h6_8)⟩
 omega
 refine aa ?_
 refine aj ?_
 refine ap ?_
 refine aD rfl ?_
 refine bJ ?_
 refine aV ?_
 refine aX ?_
 refine a8 ?_
 refine aj ?_
 refine ap ?_
 refine ae ?_
 refine aq (ai rfl) rfl rfl ?_
 refine aa ?_
 refine aj ?_
 refine aN ?_
 refine aR (ts := [4]) rfl rfl rfl (fun w hw => ?_)
 focus first
   | (have hne : xs ≠ ys := fG jZ (k := k) (by simpa using h6_8)
      exact ⟨(), by rw [decide_eq_false hne]; rfl, hw.base, hw.toNews⟩)
   | (have hk : k = xs.length := by omega
      have he : xs = ys := by have := hI.2; rw [hk, List.take_length, List.take_of_length_le (by omega)] at this; exact this
      exact ⟨(), by rw [decide_eq_true he]; rfl, hw.base, hw.toNews⟩)

set_option maxRecDepth 100000 in
theorem c_Equal_int (xs ys : List Int) (A B : Option Addr) (c e : Nat) (hl : xs.length ≤ 1000000000000) : RC Tryz.prog 197 #[.slice A xs.length c, .slice B ys.length e] [Ch.rd A 1 fh xs, Ch.rd B 1 fh ys] (α := Unit) (fun _ => .bool (decide (xs = ys))) (fun _ => []) := by
 refine bK (args := [.slice A xs.length c, .slice B ys.length e]) 26 Tryz.func197 rfl rfl rfl (fun w0 => ?_)
 refine ap ?_
 refine ae ?_
 refine aq (ai rfl) rfl rfl ?_
 refine aa ?_
 refine aj ?_
 refine ap ?_
 refine ap ?_
 refine ae ?_
 refine aq (am rfl) rfl rfl ?_
 refine aq (bg Tryz.underlying31 rfl) rfl rfl ?_
 refine aq (am rfl) rfl rfl ?_
 refine aq (bg Tryz.underlying31 rfl) rfl rfl ?_
 refine aq (cO rfl rfl) rfl rfl ?_
 refine ay (t := 10) rfl (fun h1_4 => ?_) (fun h1_4 => ?_)
 refine aa ?_
 refine aj ?_
 refine aA rfl ?_
 refine ap ?_
 refine ae ?_
 refine aq (ai rfl) rfl rfl ?_
 refine aa ?_
 refine aj ?_
 refine aN ?_
 refine ax ?_
 refine aR (ts := [4]) rfl rfl rfl (fun w hw => ?_)
 have hne : xs ≠ ys := fun he => by rw [he] at h1_4; exact absurd rfl h1_4
 exact ⟨(), by rw [decide_eq_false hne]; rfl, hw.base, hw.toNews⟩
 refine aa ?_
 refine aj ?_
 refine aD rfl ?_
 refine aQ ?_
 refine aj ?_
 refine ap ?_
 refine ap ?_
 refine ae ?_
 refine aq (am rfl) rfl rfl ?_
 refine aq (bg Tryz.underlying31 rfl) rfl rfl ?_
 refine aq (am rfl) rfl rfl ?_
 refine aa ?_
 refine aj ?_
 refine aS ?_
 refine cC (σ := Nat) [4, 5, 13, 14, 15, 16, 17, 18, 19, 20, 21, 22, 23, 24, 25] (fun k => k ≤ xs.length ∧ xs.take k = ys.take k) (fun k => xs.length - k) (fun k => [(13, .int .i64 k)]) (0) ?_ ⟨rfl, trivial⟩ (fun k hI => ?_)
 exact ⟨Nat.zero_le _, rfl⟩
 refine ap ?_
 refine ae ?_
 refine aq (bW rfl rfl) rfl rfl ?_
 refine ay (t := 14) rfl (fun h4_0 => ?_) (fun h4_0 => ?_)
 refine aa ?_
 refine aj ?_
 refine ap ?_
 refine aA rfl ?_
 refine aQ ?_
 refine aj ?_
 refine ap ?_
 refine aS ?_
 refine ap ?_
 refine ae ?_
 refine aq (am rfl) rfl rfl ?_
 refine aq (ai rfl) rfl rfl ?_
 refine aa ?_
 refine aj ?_
 refine ap ?_
 refine dQ 9 rfl mixed ?_
 refine aK (i := 0) rfl ak (am rfl) aG aG rfl (ah (ao (ah (av (ao (ah aw)))))) (by kernel_rfl) rfl ?_
 refine aK (i := 1) rfl ak (am rfl) aG aG rfl (ah (ao (ah (av (ao (ah aw)))))) (by kernel_rfl) rfl ?_
 refine aK (i := 2) rfl ak (bB  Tryz.underlying31 cX rfl rfl (bF 0 rfl) rfl (by omega)) aG aG rfl (ah (ao (ah (av (ao (ah aw)))))) (by kernel_rfl) rfl ?_
 refine aK (i := 3) rfl ak (bZ fL (0 : Int) cX rfl (bF 0 rfl) (by omega) rfl rfl) aG aG rfl (ah (ao (ah (av (ao (ah aw)))))) (by kernel_rfl) rfl ?_
 refine aK (i := 4) rfl ak (am rfl) aG aG rfl (ah (ao (ah (av (ao (ah aw)))))) (by kernel_rfl) rfl ?_
 refine aK (i := 5) rfl ak (am rfl) aG aG rfl (ah (ao (ah (av (ao (ah aw)))))) (by kernel_rfl) rfl ?_
 refine aK (i := 6) rfl ak (bB  Tryz.underlying31 cX rfl rfl (bF 1 rfl) rfl (by omega)) aG aG rfl (ah (ao (ah (av (ao (ah aw)))))) (by kernel_rfl) rfl ?_
 refine aK (i := 7) rfl ak (bZ fL (0 : Int) cX rfl (bF 1 rfl) (by omega) rfl rfl) aG aG rfl (ah (ao (ah (av (ao (ah aw)))))) (by kernel_rfl) rfl ?_
 refine aK (i := 8) rfl ak (cO rfl rfl) aG aG rfl (ah (ao (ah (av (ao (ah aw)))))) (by kernel_rfl) rfl ?_
 refine dN (t := 24) rfl (fun h6_8 => ?_) (fun h6_8 => ?_)
 refine cF (by kernel_rfl) ?_
 refine aj ?_
 refine aA rfl ?_
 refine ap ?_
 refine ae ?_
 refine aq (ai rfl) rfl rfl ?_
 refine aa ?_
 refine aj ?_
 refine aN ?_
 refine aJ ?_
 refine ax ?_
 refine bh ?_
 refine aJ ?_
 refine ax ?_
 refine aR (ts := [4]) rfl rfl rfl (fun w hw => ?_)
 focus first
   | (have hne : xs ≠ ys := fG (0 : Int) (k := k) (by simpa using h6_8)
      exact ⟨(), by rw [decide_eq_false hne]; rfl, hw.base, hw.toNews⟩)
   | (have hk : k = xs.length := by omega
      have he : xs = ys := by have := hI.2; rw [hk, List.take_length, List.take_of_length_le (by omega)] at this; exact this
      exact ⟨(), by rw [decide_eq_true he]; rfl, hw.base, hw.toNews⟩)
 refine cF (by kernel_rfl) ?_
 refine aj ?_
 refine aD rfl ?_
 refine aQ ?_
 refine bj ?_
 refine aj ?_
 refine ae ?_
 refine aq (br rfl rfl (by omega) (by omega)) rfl rfl ?_
 refine aq (am rfl) rfl rfl ?_
 refine aa ?_
 refine bv (k + 1) ?_ ?_ ⟨rfl, trivial⟩ (by repeat (first | exact trivial | refine ⟨rfl, ?_⟩)) aG
 exact ⟨by omega, fp (0 : Int) (by omega) (by omega) hI.2 (by simpa using h6_8)⟩
 omega
 refine aa ?_
 refine aj ?_
 refine ap ?_
 refine aD rfl ?_
 refine bJ ?_
 refine aV ?_
 refine aX ?_
 refine a8 ?_
 refine aj ?_
 refine ap ?_
 refine ae ?_
 refine aq (ai rfl) rfl rfl ?_
 refine aa ?_
 refine aj ?_
 refine aN ?_
 refine aR (ts := [4]) rfl rfl rfl (fun w hw => ?_)
 focus first
   | (have hne : xs ≠ ys := fG (0 : Int) (k := k) (by simpa using h6_8)
      exact ⟨(), by rw [decide_eq_false hne]; rfl, hw.base, hw.toNews⟩)
   | (have hk : k = xs.length := by omega
      have he : xs = ys := by have := hI.2; rw [hk, List.take_length, List.take_of_length_le (by omega)] at this; exact this
      exact ⟨(), by rw [decide_eq_true he]; rfl, hw.base, hw.toNews⟩)

set_option maxRecDepth 100000 in
theorem j0 (xs ys : List a6) (A B : Option Addr) (c e : Nat) (hl : xs.length ≤ 1000000000000) : RC Tryz.prog 26 #[.slice A xs.length c, .slice B ys.length e] [Ch.rd A 1 dD xs, Ch.rd B 1 dD ys] (α := Unit) (fun _ => .bool (decide (xs = ys))) (fun _ => []) := by
 refine bK (args := [.slice A xs.length c, .slice B ys.length e]) 26 Tryz.func26 rfl rfl rfl (fun w0 => ?_)
 refine ap ?_
 refine ae ?_
 refine aq (ai rfl) rfl rfl ?_
 refine aa ?_
 refine aj ?_
 refine ap ?_
 refine ap ?_
 refine ae ?_
 refine aq (am rfl) rfl rfl ?_
 refine aq (bg Tryz.underlying59 rfl) rfl rfl ?_
 refine aq (am rfl) rfl rfl ?_
 refine aq (bg Tryz.underlying59 rfl) rfl rfl ?_
 refine aq (cO rfl rfl) rfl rfl ?_
 refine ay (t := 10) rfl (fun h1_4 => ?_) (fun h1_4 => ?_)
 refine aa ?_
 refine aj ?_
 refine aA rfl ?_
 refine ap ?_
 refine ae ?_
 refine aq (ai rfl) rfl rfl ?_
 refine aa ?_
 refine aj ?_
 refine aN ?_
 refine ax ?_
 refine aR (ts := [4]) rfl rfl rfl (fun w hw => ?_)
 have hne : xs ≠ ys := fun he => by rw [he] at h1_4; exact absurd rfl h1_4
 exact ⟨(), by rw [decide_eq_false hne]; rfl, hw.base, hw.toNews⟩
 refine aa ?_
 refine aj ?_
 refine aD rfl ?_
 refine aQ ?_
 refine aj ?_
 refine ap ?_
 refine ap ?_
 refine ae ?_
 refine aq (ai rfl) rfl rfl ?_
 refine aa ?_
 refine aj ?_
 refine aS ?_
 refine cC (σ := Nat) [4, 5, 11, 12, 13, 14, 15, 16, 17, 18, 19, 20, 21, 22, 23, 24, 25] (fun k => k ≤ xs.length ∧ xs.take k = ys.take k) (fun k => xs.length - k) (fun k => [(5, .int .i64 k)]) (0) ?_ ⟨rfl, trivial⟩ (fun k hI => ?_)
 exact ⟨Nat.zero_le _, rfl⟩
 refine ap ?_
 refine ap ?_
 refine ae ?_
 refine aq (am rfl) rfl rfl ?_
 refine aq (am rfl) rfl rfl ?_
 refine aq (bg Tryz.underlying59 rfl) rfl rfl ?_
 refine aq (bW rfl rfl) rfl rfl ?_
 refine ay (t := 14) rfl (fun h4_3 => ?_) (fun h4_3 => ?_)
 refine aa ?_
 refine aj ?_
 refine aA rfl ?_
 refine aQ ?_
 refine aj ?_
 refine ap ?_
 refine aS ?_
 refine ap ?_
 refine dQ 9 rfl mixed ?_
 refine aK (i := 0) rfl ak (am rfl) aG aG rfl (ah (ao (ah (av (ao (ah aw)))))) (by kernel_rfl) rfl ?_
 refine aK (i := 1) rfl ak (am rfl) aG aG rfl (ah (ao (ah (av (ao (ah aw)))))) (by kernel_rfl) rfl ?_
 refine aK (i := 2) rfl ak (bB  Tryz.underlying59 bE rfl rfl (bF 0 rfl) rfl (by omega)) aG aG rfl (ah (ao (ah (av (ao (ah aw)))))) (by kernel_rfl) rfl ?_
 refine aK (i := 3) rfl ak (bZ bV ([] : a6) bE rfl (bF 0 rfl) (by omega) rfl rfl) aG aG rfl (ah (ao (ah (av (ao (ah aw)))))) (by kernel_rfl) rfl ?_
 refine aK (i := 4) rfl ak (am rfl) aG aG rfl (ah (ao (ah (av (ao (ah aw)))))) (by kernel_rfl) rfl ?_
 refine aK (i := 5) rfl ak (am rfl) aG aG rfl (ah (ao (ah (av (ao (ah aw)))))) (by kernel_rfl) rfl ?_
 refine aK (i := 6) rfl ak (bB  Tryz.underlying59 bE rfl rfl (bF 1 rfl) rfl (by omega)) aG aG rfl (ah (ao (ah (av (ao (ah aw)))))) (by kernel_rfl) rfl ?_
 refine aK (i := 7) rfl ak (bZ bV ([] : a6) bE rfl (bF 1 rfl) (by omega) rfl rfl) aG aG rfl (ah (ao (ah (av (ao (ah aw)))))) (by kernel_rfl) rfl ?_
 refine aK (i := 8) rfl ak (ju rfl rfl) aG aG rfl (ah (ao (ah (av (ao (ah aw)))))) (by kernel_rfl) rfl ?_
 refine dN (t := 25) rfl (fun h6_8 => ?_) (fun h6_8 => ?_)
 refine cF (by kernel_rfl) ?_
 refine aj ?_
 refine aA rfl ?_
 refine ap ?_
 refine ae ?_
 refine aq (ai rfl) rfl rfl ?_
 refine aa ?_
 refine aj ?_
 refine aN ?_
 refine aJ ?_
 refine ax ?_
 refine bh ?_
 refine aJ ?_
 refine ax ?_
 refine aR (ts := [4]) rfl rfl rfl (fun w hw => ?_)
 focus first
   | (have hne : xs ≠ ys := fG ([] : a6) (k := k) (by simpa using h6_8)
      exact ⟨(), by rw [decide_eq_false hne]; rfl, hw.base, hw.toNews⟩)
   | (have hk : k = xs.length := by omega
      have he : xs = ys := by have := hI.2; rw [hk, List.take_length, List.take_of_length_le (by omega)] at this; exact this
      exact ⟨(), by rw [decide_eq_true he]; rfl, hw.base, hw.toNews⟩)
 refine cF (by kernel_rfl) ?_
 refine aj ?_
 refine aD rfl ?_
 refine aQ ?_
 refine bj ?_
 refine aj ?_
 refine ae ?_
 refine aq (am rfl) rfl rfl ?_
 refine aq (br rfl rfl (by omega) (by omega)) rfl rfl ?_
 refine aq (ai rfl) rfl rfl ?_
 refine aa ?_
 refine bv (k + 1) ?_ ?_ ⟨rfl, trivial⟩ (by repeat (first | exact trivial | refine ⟨rfl, ?_⟩)) aG
 exact ⟨by omega, fp ([] : a6) (by omega) (by omega) hI.2 (by simpa using h6_8)⟩
 omega
 refine aa ?_
 refine aj ?_
 refine aD rfl ?_
 refine bJ ?_
 refine aV ?_
 refine aX ?_
 refine a8 ?_
 refine aj ?_
 refine ap ?_
 refine ae ?_
 refine aq (ai rfl) rfl rfl ?_
 refine aa ?_
 refine aj ?_
 refine aN ?_
 refine aR (ts := [4]) rfl rfl rfl (fun w hw => ?_)
 focus first
   | (have hne : xs ≠ ys := fG ([] : a6) (k := k) (by simpa using h6_8)
      exact ⟨(), by rw [decide_eq_false hne]; rfl, hw.base, hw.toNews⟩)
   | (have hk : k = xs.length := by omega
      have he : xs = ys := by have := hI.2; rw [hk, List.take_length, List.take_of_length_le (by omega)] at this; exact this
      exact ⟨(), by rw [decide_eq_true he]; rfl, hw.base, hw.toNews⟩)

/-- Not too much. -/
def eJ (e : En) : Bool := decide (e.host.length ≤ 300) && decide (e.alias.length ≤ 300) && decide (e.cluster.length ≤ 300) && decide (e.addrs.length ≤ 20) && decide (e.ports.length ≤ 20)

theorem c_LightEntry (e : En) (A B : Option Addr) (c d : Nat) : eC Tryz.prog 12 #[.agg (enC e A B c d).toArray] (.bool (eJ e)) := by
 intro w0
 refine bT (ok0 := no) (S := []) (args := [.agg (enC e A B c d).toArray]) 31 Tryz.func12 rfl rfl rfl (by simp) (by simp) ?_
 refine ap ?_
 refine ae ?_
 refine cL rfl rfl rfl (fun b1 => ?_)
 refine aq (ai rfl) rfl rfl ?_
 refine aa ?_
 refine aj ?_
 refine ap ?_
 refine ae ?_
 refine aq (aB cM rfl) rfl rfl ?_
 refine aq (aC 0 bE rfl rfl rfl) rfl rfl ?_
 refine aq (dp Tryz.underlying26 rfl) rfl rfl ?_
 refine aq (ff rfl rfl) rfl rfl ?_
 refine ay (t := 6) rfl (fun h1_3 => ?_) (fun h1_3 => ?_)
 refine aq (am rfl) rfl rfl ?_
 refine au rfl rfl ?_
 refine aq (aB ez rfl) rfl rfl ?_
 refine au rfl rfl ?_
 refine aq (aC 0 bE rfl rfl rfl) rfl rfl ?_
 refine au rfl rfl ?_
 refine aq (dp Tryz.underlying26 rfl) rfl rfl ?_
 refine au rfl rfl ?_
 refine aq (ff rfl rfl) rfl rfl ?_
 refine ay (t := 11) rfl (fun h1_8 => ?_) (fun h1_8 => ?_)
 refine aq (aH rfl rfl) rfl rfl ?_
 refine aq (am rfl) rfl rfl ?_
 refine au rfl rfl ?_
 refine aq (aB fx rfl) rfl rfl ?_
 refine au rfl rfl ?_
 refine aq (aC 0 cI rfl rfl rfl) rfl rfl ?_
 refine au rfl rfl ?_
 refine aq (dp Tryz.underlying9 rfl) rfl rfl ?_
 refine au rfl rfl ?_
 refine aq (ff rfl rfl) rfl rfl ?_
 refine ay (t := 17) rfl (fun h1_14 => ?_) (fun h1_14 => ?_)
 refine aq (aH rfl rfl) rfl rfl ?_
 refine aq (am rfl) rfl rfl ?_
 refine au rfl rfl ?_
 refine aq (aB du rfl) rfl rfl ?_
 refine au rfl rfl ?_
 refine aq (aC 0 eF rfl rfl rfl) rfl rfl ?_
 refine au rfl rfl ?_
 refine aq (bg Tryz.underlying30 rfl) rfl rfl ?_
 refine au rfl rfl ?_
 refine aq (ff rfl rfl) rfl rfl ?_
 refine ay (t := 23) rfl (fun h1_20 => ?_) (fun h1_20 => ?_)
 refine aq (aH rfl rfl) rfl rfl ?_
 refine aq (am rfl) rfl rfl ?_
 refine au rfl rfl ?_
 refine aq (aB dy rfl) rfl rfl ?_
 refine au rfl rfl ?_
 refine aq (aC 0 eN rfl rfl rfl) rfl rfl ?_
 refine au rfl rfl ?_
 refine aq (bg Tryz.underlying31 rfl) rfl rfl ?_
 refine au rfl rfl ?_
 refine aq (ff rfl rfl) rfl rfl ?_
 refine aq (aH rfl rfl) rfl rfl ?_
 refine aq (ai rfl) rfl rfl ?_
 refine aa ?_
 refine aj ?_
 refine aN ?_
 refine aR (ts := [2]) rfl rfl rfl (fun w hw => ?_)
 refine ⟨?_, hw.base⟩
 show Ending.returned (.bool _) = _
 congr 2
 rw [Bool.eq_iff_iff]
 simp only [eJ, Bool.and_eq_true, decide_eq_true_eq]
 focus first | omega | (simp; omega) | (trace_state; fail)
 refine aq (aH rfl rfl) rfl rfl ?_
 refine aq (am rfl) rfl rfl ?_
 refine ar rfl rfl rfl rfl ?_
 refine ar rfl rfl rfl rfl ?_
 refine ar rfl rfl rfl rfl ?_
 refine ar rfl rfl rfl rfl ?_
 refine aq (aF rfl rfl) rfl rfl ?_
 refine aq (ai rfl) rfl rfl ?_
 refine aa ?_
 refine aj ?_
 refine aN ?_
 refine aR (ts := [2]) rfl rfl rfl (fun w hw => ?_)
 refine ⟨?_, hw.base⟩
 show Ending.returned (.bool _) = _
 congr 2
 rw [Bool.eq_iff_iff]
 simp only [eJ, Bool.and_eq_true, decide_eq_true_eq]
 focus first | omega | (simp; omega) | (trace_state; fail)
 refine aq (aH rfl rfl) rfl rfl ?_
 refine aq (am rfl) rfl rfl ?_
 refine ar rfl rfl rfl rfl ?_
 refine ar rfl rfl rfl rfl ?_
 refine ar rfl rfl rfl rfl ?_
 refine ar rfl rfl rfl rfl ?_
 refine aq (aF rfl rfl) rfl rfl ?_
 refine aq (am rfl) rfl rfl ?_
 refine ar rfl rfl rfl rfl ?_
 refine ar rfl rfl rfl rfl ?_
 refine ar rfl rfl rfl rfl ?_
 refine ar rfl rfl rfl rfl ?_
 refine aq (aF rfl rfl) rfl rfl ?_
 refine aq (ai rfl) rfl rfl ?_
 refine aa ?_
 refine aj ?_
 refine aN ?_
 refine aR (ts := [2]) rfl rfl rfl (fun w hw => ?_)
 refine ⟨?_, hw.base⟩
 show Ending.returned (.bool _) = _
 congr 2
 rw [Bool.eq_iff_iff]
 simp only [eJ, Bool.and_eq_true, decide_eq_true_eq]
 focus first | omega | (simp; omega) | (trace_state; fail)
 refine aq (aH rfl rfl) rfl rfl ?_
 refine aq (am rfl) rfl rfl ?_
 refine ar rfl rfl rfl rfl ?_
 refine ar rfl rfl rfl rfl ?_
 refine ar rfl rfl rfl rfl ?_
 refine ar rfl rfl rfl rfl ?_
 refine aq (aF rfl rfl) rfl rfl ?_
 refine aq (am rfl) rfl rfl ?_
 refine ar rfl rfl rfl rfl ?_
 refine ar rfl rfl rfl rfl ?_
 refine ar rfl rfl rfl rfl ?_
 refine ar rfl rfl rfl rfl ?_
 refine aq (aF rfl rfl) rfl rfl ?_
 refine aq (am rfl) rfl rfl ?_
 refine ar rfl rfl rfl rfl ?_
 refine ar rfl rfl rfl rfl ?_
 refine ar rfl rfl rfl rfl ?_
 refine ar rfl rfl rfl rfl ?_
 refine aq (aF rfl rfl) rfl rfl ?_
 refine aq (ai rfl) rfl rfl ?_
 refine aa ?_
 refine aj ?_
 refine aN ?_
 refine aR (ts := [2]) rfl rfl rfl (fun w hw => ?_)
 refine ⟨?_, hw.base⟩
 show Ending.returned (.bool _) = _
 congr 2
 rw [Bool.eq_iff_iff]
 simp only [eJ, Bool.and_eq_true, decide_eq_true_eq]
 focus first | omega | (simp; omega) | (trace_state; fail)
 refine aq (am rfl) rfl rfl ?_
 refine ar rfl rfl rfl rfl ?_
 refine ar rfl rfl rfl rfl ?_
 refine ar rfl rfl rfl rfl ?_
 refine ar rfl rfl rfl rfl ?_
 refine aq (aF rfl rfl) rfl rfl ?_
 refine aq (am rfl) rfl rfl ?_
 refine ar rfl rfl rfl rfl ?_
 refine ar rfl rfl rfl rfl ?_
 refine ar rfl rfl rfl rfl ?_
 refine ar rfl rfl rfl rfl ?_
 refine aq (aF rfl rfl) rfl rfl ?_
 refine aq (am rfl) rfl rfl ?_
 refine ar rfl rfl rfl rfl ?_
 refine ar rfl rfl rfl rfl ?_
 refine ar rfl rfl rfl rfl ?_
 refine ar rfl rfl rfl rfl ?_
 refine aq (aF rfl rfl) rfl rfl ?_
 refine aq (am rfl) rfl rfl ?_
 refine ar rfl rfl rfl rfl ?_
 refine ar rfl rfl rfl rfl ?_
 refine ar rfl rfl rfl rfl ?_
 refine ar rfl rfl rfl rfl ?_
 refine aq (aF rfl rfl) rfl rfl ?_
 refine aq (ai rfl) rfl rfl ?_
 refine aa ?_
 refine aj ?_
 refine aN ?_
 refine aR (ts := [2]) rfl rfl rfl (fun w hw => ?_)
 refine ⟨?_, hw.base⟩
 show Ending.returned (.bool _) = _
 congr 2
 rw [Bool.eq_iff_iff]
 simp only [eJ, Bool.and_eq_true, decide_eq_true_eq]
 focus first | omega | (simp; omega) | (trace_state; fail)

/-- None twice, each may be: so far. -/
theorem ad_step {l : List Ad} {k : Nat} (h : ∀ i, i < k → adOk l i) (hc : gr (l.getD k jZ) = 0) (hn : ∀ j, j < k → l.getD k jZ ≠ l.getD j jZ) : ∀ i, i < k + 1 → adOk l i := fo h ⟨hc, hn⟩
def adsR (l : List Ad) : Bool := decide (∀ i, i < l.length → adOk l i)
theorem adsR_bad {l : List Ad} {k : Nat} (hk : k < l.length) (h : ¬ adOk l k) : adsR l = false := decide_eq_false (fun h2 => h (h2 k hk))

set_option maxRecDepth 100000 in
theorem c_ref16_addrs (l : List Ad) (A : Option Addr) (c : Nat) (hl : l.length ≤ 1000000000000) (hw0 : ∀ a ∈ l, 0 ≤ a.lo) : RC Tryz.prog 195 #[.slice A l.length c] [Ch.rd A 3 gw l] (α := Unit) (fun _ => .bool (adsR l)) (fun _ => []) := by
 refine bK (args := [.slice A l.length c]) 31 Tryz.func195 rfl rfl rfl (fun w0 => ?_)
 refine ap ?_
 refine ae ?_
 refine aq (ai rfl) rfl rfl ?_
 refine aa ?_
 refine aj ?_
 refine ap ?_
 refine ap ?_
 refine ae ?_
 refine aq (ai rfl) rfl rfl ?_
 refine aa ?_
 refine aj ?_
 refine aS ?_
 refine cC (σ := Nat) [2, 3, 4, 5, 6, 7, 8, 9, 10, 11, 12, 13, 14, 15, 16, 17, 18, 19, 20, 21, 22, 23, 24, 25, 26, 27, 28, 29, 30] (fun k => k ≤ l.length ∧ ∀ i, i < k → adOk l i) (fun k => l.length - k) (fun k => [(3, .int .i64 k)]) (0) ?_ ⟨rfl, trivial⟩ (fun k hI => ?_)
 exact ⟨Nat.zero_le _, nofun⟩
 have hK := hI
 refine ap ?_
 refine ap ?_
 refine ae ?_
 refine aq (am rfl) rfl rfl ?_
 refine aq (am rfl) rfl rfl ?_
 refine aq (bg Tryz.underlying30 rfl) rfl rfl ?_
 refine aq (bW rfl rfl) rfl rfl ?_
 refine ay (t := 8) rfl (fun h2_3 => ?_) (fun h2_3 => ?_)
 refine aa ?_
 refine aj ?_
 refine aA rfl ?_
 refine aQ ?_
 refine aj ?_
 refine ap ?_
 refine aS ?_
 refine ap ?_
 refine ap ?_
 refine ae ?_
 refine aq (ai rfl) rfl rfl ?_
 refine aa ?_
 refine aj ?_
 refine aS ?_
 refine cC (σ := Nat) [2, 4, 11, 12, 13, 14, 15, 16, 17, 18, 19, 20, 21, 22, 23, 24] (fun j => j ≤ k ∧ ∀ i, i < j → l.getD k jZ ≠ l.getD i jZ) (fun j => k - j) (fun j => [(4, .int .i64 j)]) (0) ?_ ⟨rfl, trivial⟩ (fun j hI => ?_)
 exact ⟨Nat.zero_le _, nofun⟩
 have hJ := hI
 refine ap ?_
 refine ap ?_
 refine ae ?_
 refine aq (am rfl) rfl rfl ?_
 refine aq (am rfl) rfl rfl ?_
 refine aq (bW rfl rfl) rfl rfl ?_
 refine ay (t := 13) rfl (fun h5_2 => ?_) (fun h5_2 => ?_)
 refine aa ?_
 refine aj ?_
 refine aA rfl ?_
 refine aQ ?_
 refine aj ?_
 refine ap ?_
 refine aS ?_
 refine ap ?_
 refine dQ 9 rfl mixed ?_
 refine aK (i := 0) rfl ak (am rfl) aG aG rfl (ah (ao (ah (av (ao (ah (ao (ah (av (ao (ah aw))))))))))) (by kernel_rfl) rfl ?_
 refine aK (i := 1) rfl ak (am rfl) aG aG rfl (ah (ao (ah (av (ao (ah (ao (ah (av (ao (ah aw))))))))))) (by kernel_rfl) rfl ?_
 refine aK (i := 2) rfl ak (bB  Tryz.underlying30 eh rfl rfl (bF 0 rfl) rfl (by omega)) aG aG rfl (ah (ao (ah (av (ao (ah (ao (ah (av (ao (ah aw))))))))))) (by kernel_rfl) rfl ?_
 refine aK (i := 3) rfl ak (b6 fT jZ eh rfl (bF 0 rfl) (by omega) rfl rfl rfl) aG aG rfl (ah (ao (ah (av (ao (ah (ao (ah (av (ao (ah aw))))))))))) (by kernel_rfl) rfl ?_
 refine aK (i := 4) rfl ak (am rfl) aG aG rfl (ah (ao (ah (av (ao (ah (ao (ah (av (ao (ah aw))))))))))) (by kernel_rfl) rfl ?_
 refine aK (i := 5) rfl ak (am rfl) aG aG rfl (ah (ao (ah (av (ao (ah (ao (ah (av (ao (ah aw))))))))))) (by kernel_rfl) rfl ?_
 refine aK (i := 6) rfl ak (bB  Tryz.underlying30 eh rfl rfl (bF 0 rfl) rfl (by omega)) aG aG rfl (ah (ao (ah (av (ao (ah (ao (ah (av (ao (ah aw))))))))))) (by kernel_rfl) rfl ?_
 refine aK (i := 7) rfl ak (b6 fT jZ eh rfl (bF 0 rfl) (by omega) rfl rfl rfl) aG aG rfl (ah (ao (ah (av (ao (ah (ao (ah (av (ao (ah aw))))))))))) (by kernel_rfl) rfl ?_
 refine aK (i := 8) rfl ak (y_eqst (by kernel_rfl) rfl rfl (eqd_ad _ _) rfl) aG aG rfl (ah (ao (ah (av (ao (ah (ao (ah (av (ao (ah aw))))))))))) (by kernel_rfl) rfl ?_
 refine dN (t := 24) rfl (fun h7_8 => ?_) (fun h7_8 => ?_)
 refine cF (by kernel_rfl) ?_
 refine aj ?_
 refine aA rfl ?_
 refine ap ?_
 refine ae ?_
 refine aq (ai rfl) rfl rfl ?_
 refine aa ?_
 refine aj ?_
 refine aN ?_
 refine aJ ?_
 refine ax ?_
 refine bh ?_
 refine aJ ?_
 refine ax ?_
 refine aJ ?_
 refine ax ?_
 refine bh ?_
 refine aJ ?_
 refine ax ?_
 refine aR (ts := [2]) rfl rfl rfl (fun w hw => ?_)
 have hb : adsR l = false := adsR_bad (k := k) (by omega) (fun h => h.2 j (by omega) h7_8)
 exact ⟨(), by rw [hb]; rfl, hw.base, hw.toNews⟩
 refine cF (by kernel_rfl) ?_
 refine aj ?_
 refine aD rfl ?_
 refine aQ ?_
 refine bj ?_
 refine aj ?_
 refine ae ?_
 refine aq (am rfl) rfl rfl ?_
 refine aq (br rfl rfl (by omega) (by omega)) rfl rfl ?_
 refine aq (ai rfl) rfl rfl ?_
 refine aa ?_
 refine bv (j + 1) ?_ ?_ ⟨rfl, trivial⟩ (by repeat (first | exact trivial | refine ⟨rfl, ?_⟩)) aG
 exact ⟨by omega, fo hJ.2 h7_8⟩
 omega
 refine aa ?_
 refine aj ?_
 refine aD rfl ?_
 refine bJ ?_
 refine aV ?_
 refine aX ?_
 refine a8 ?_
 refine aj ?_
 refine ap ?_
 refine ae ?_
 refine aq (am rfl) rfl rfl ?_
 refine aq (am rfl) rfl rfl ?_
 refine aq (bB  Tryz.underlying30 eh rfl rfl (bF 0 rfl) rfl (by omega)) rfl rfl ?_
 refine aq (b6 fT jZ eh rfl (bF 0 rfl) (by omega) rfl rfl rfl) rfl rfl ?_
 refine bD rfl ent_79 (c_ref04_Check _ (hw0 _ (mem_getA (by omega)))) rfl ?_
 refine aq (cO rfl rfl) rfl rfl ?_
 refine ay (t := 30) rfl (fun h9_5 => ?_) (fun h9_5 => ?_)
 refine aa ?_
 refine aj ?_
 refine aA rfl ?_
 refine ap ?_
 refine ae ?_
 refine aq (ai rfl) rfl rfl ?_
 refine aa ?_
 refine aj ?_
 refine aN ?_
 refine aJ ?_
 refine ax ?_
 refine bh ?_
 refine aJ ?_
 refine ax ?_
 refine aR (ts := [2]) rfl rfl rfl (fun w hw => ?_)
 have hb : adsR l = false := adsR_bad (k := k) (by omega) (fun h => h9_5 h.1)
 exact ⟨(), by rw [hb]; rfl, hw.base, hw.toNews⟩
 refine aa ?_
 refine aj ?_
 refine aD rfl ?_
 refine aQ ?_
 refine bj ?_
 refine aj ?_
 refine ae ?_
 refine aq (am rfl) rfl rfl ?_
 refine aq (br rfl rfl (by omega) (by omega)) rfl rfl ?_
 refine aq (ai rfl) rfl rfl ?_
 refine aa ?_
 refine bv (k + 1) ?_ ?_ ⟨rfl, trivial⟩ (by repeat (first | exact trivial | refine ⟨rfl, ?_⟩)) aG
 exact ⟨by omega, ad_step hK.2 (by omega) (fun j2 hj2 => hJ.2 j2 (by omega))⟩
 omega
 refine aa ?_
 refine aj ?_
 refine aD rfl ?_
 refine bJ ?_
 refine aV ?_
 refine aX ?_
 refine a8 ?_
 refine aj ?_
 refine ap ?_
 refine ae ?_
 refine aq (ai rfl) rfl rfl ?_
 refine aa ?_
 refine aj ?_
 refine aN ?_
 refine aR (ts := [2]) rfl rfl rfl (fun w hw => ?_)
 obtain rfl : k = l.length := by omega
 exact ⟨(), by rw [adsR, decide_eq_true hI.2]; rfl, hw.base, hw.toNews⟩

theorem wild_iff (n : a6) : [1, 42] <+: n ↔ 1 < n.length ∧ bt n 0 = 1 ∧ bt n 1 = 42 := by
  constructor
  · rintro ⟨t, rfl⟩
    exact ⟨by simp, rfl, rfl⟩
  · rintro ⟨h1, h2, h3⟩
    match n, h1, h2, h3 with
    | a :: b :: r, _, h2, h3 =>
      have ha : a = 1 := UInt8.toNat_inj.1 h2
      have hb : b = 42 := UInt8.toNat_inj.1 h3
      exact ⟨r, by rw [ha, hb]; rfl⟩
theorem gB {n : a6} (h : ¬ (bd n = 0 ∧ 1 < n.length ∧ bt n 0 = 1 ∧ bt n 1 = 42)) : iF n = false := by
  rw [iF, Bool.and_eq_false_iff, decide_eq_false_iff_not, decide_eq_false_iff_not, wild_iff]
  exact Decidable.not_and_iff_or_not.1 h
theorem jI {n : a6} (h : bd n = 0 ∧ 1 < n.length ∧ bt n 0 = 1 ∧ bt n 1 = 42) : iF n = true := by
  rw [iF, decide_eq_true h.1, decide_eq_true ((wild_iff n).2 h.2)]; rfl

theorem c_ref02_Wild (n : a6) : eC Tryz.prog 151 #[.string (ba n)] (.bool (iF n)) := by
 intro w0
 refine bT (ok0 := no) (S := []) (args := [.string (ba n)]) 21 Tryz.func151 rfl rfl rfl (by simp) (by simp) ?_
 refine ap ?_
 refine ae ?_
 refine aq (ai rfl) rfl rfl ?_
 refine aa ?_
 refine aj ?_
 refine ap ?_
 refine ae ?_
 refine aq (am rfl) rfl rfl ?_
 refine bD rfl gz (dV _) rfl ?_
 refine aq (cY rfl rfl) rfl rfl ?_
 refine ay (t := 5) rfl (fun h1_2 => ?_) (fun h1_2 => ?_)
 refine aq (am rfl) rfl rfl ?_
 refine au rfl rfl ?_
 refine aq (am rfl) rfl rfl ?_
 refine au rfl rfl ?_
 refine aq (dp Tryz.underlying26 rfl) rfl rfl ?_
 refine au rfl rfl ?_
 refine aq (dB rfl rfl) rfl rfl ?_
 refine ay (t := 9) rfl (fun h1_6 => ?_) (fun h1_6 => ?_)
 refine aq (aH rfl rfl) rfl rfl ?_
 refine aq (am rfl) rfl rfl ?_
 refine au rfl rfl ?_
 refine aq (am rfl) rfl rfl ?_
 refine au rfl rfl ?_
 refine aq (fA (k := 0) Tryz.underlying26 rfl rfl rfl (by omega)) rfl rfl ?_
 refine au rfl rfl ?_
 refine aq (cY rfl rfl) rfl rfl ?_
 refine ay (t := 14) rfl (fun h1_11 => ?_) (fun h1_11 => ?_)
 refine aq (aH rfl rfl) rfl rfl ?_
 refine aq (am rfl) rfl rfl ?_
 refine au rfl rfl ?_
 refine aq (am rfl) rfl rfl ?_
 refine au rfl rfl ?_
 refine aq (fA (k := 1) Tryz.underlying26 rfl rfl rfl (by omega)) rfl rfl ?_
 refine au rfl rfl ?_
 refine aq (cY rfl rfl) rfl rfl ?_
 refine aq (aH rfl rfl) rfl rfl ?_
 refine aq (ai rfl) rfl rfl ?_
 refine aa ?_
 refine aj ?_
 refine aN ?_
 refine aR (ts := [2]) rfl rfl rfl (fun w hw => ?_)
 refine ⟨?_, hw.base⟩
 show Ending.returned (.bool _) = _
 congr 2
 focus first
   | exact (gB (by omega)).symm
   | (by_cases h9 : bt n 1 = 42
      · rw [jI (by omega), decide_eq_true (by omega)]
      · rw [gB (by omega), decide_eq_false (by omega)])
   | (trace_state; fail)
 refine aq (aH rfl rfl) rfl rfl ?_
 refine aq (am rfl) rfl rfl ?_
 refine ar rfl rfl rfl rfl ?_
 refine ar rfl rfl rfl rfl ?_
 refine ar rfl rfl rfl rfl ?_
 refine aq (aF rfl rfl) rfl rfl ?_
 refine aq (ai rfl) rfl rfl ?_
 refine aa ?_
 refine aj ?_
 refine aN ?_
 refine aR (ts := [2]) rfl rfl rfl (fun w hw => ?_)
 refine ⟨?_, hw.base⟩
 show Ending.returned (.bool _) = _
 congr 2
 focus first
   | exact (gB (by omega)).symm
   | (by_cases h9 : bt n 1 = 42
      · rw [jI (by omega), decide_eq_true (by omega)]
      · rw [gB (by omega), decide_eq_false (by omega)])
   | (trace_state; fail)
 refine aq (aH rfl rfl) rfl rfl ?_
 refine aq (am rfl) rfl rfl ?_
 refine ar rfl rfl rfl rfl ?_
 refine ar rfl rfl rfl rfl ?_
 refine ar rfl rfl rfl rfl ?_
 refine aq (aF rfl rfl) rfl rfl ?_
 refine aq (am rfl) rfl rfl ?_
 refine ar rfl rfl rfl rfl ?_
 refine ar rfl rfl rfl rfl ?_
 refine ar rfl rfl rfl rfl ?_
 refine aq (aF rfl rfl) rfl rfl ?_
 refine aq (ai rfl) rfl rfl ?_
 refine aa ?_
 refine aj ?_
 refine aN ?_
 refine aR (ts := [2]) rfl rfl rfl (fun w hw => ?_)
 refine ⟨?_, hw.base⟩
 show Ending.returned (.bool _) = _
 congr 2
 focus first
   | exact (gB (by omega)).symm
   | (by_cases h9 : bt n 1 = 42
      · rw [jI (by omega), decide_eq_true (by omega)]
      · rw [gB (by omega), decide_eq_false (by omega)])
   | (trace_state; fail)
 refine aq (am rfl) rfl rfl ?_
 refine ar rfl rfl rfl rfl ?_
 refine ar rfl rfl rfl rfl ?_
 refine ar rfl rfl rfl rfl ?_
 refine aq (aF rfl rfl) rfl rfl ?_
 refine aq (am rfl) rfl rfl ?_
 refine ar rfl rfl rfl rfl ?_
 refine ar rfl rfl rfl rfl ?_
 refine ar rfl rfl rfl rfl ?_
 refine aq (aF rfl rfl) rfl rfl ?_
 refine aq (am rfl) rfl rfl ?_
 refine ar rfl rfl rfl rfl ?_
 refine ar rfl rfl rfl rfl ?_
 refine ar rfl rfl rfl rfl ?_
 refine aq (aF rfl rfl) rfl rfl ?_
 refine aq (ai rfl) rfl rfl ?_
 refine aa ?_
 refine aj ?_
 refine aN ?_
 refine aR (ts := [2]) rfl rfl rfl (fun w hw => ?_)
 refine ⟨?_, hw.base⟩
 show Ending.returned (.bool _) = _
 congr 2
 focus first
   | exact (gB (by omega)).symm
   | (by_cases h9 : bt n 1 = 42
      · rw [jI (by omega), decide_eq_true (by omega)]
      · rw [gB (by omega), decide_eq_false (by omega)])
   | (trace_state; fail)

theorem cg {e : En} (h1 : ¬ bd e.host ≠ 0) (h : e.host = [] ∨ 2147483647 < e.ttl ∨ cU e.ports = false ∨ aO e = false) : cV e = 2 := by rw [cV, if_neg h1, if_pos h]
theorem ent_good {e : En} (h1 : ¬ bd e.host ≠ 0) (h2 : ¬ e.host = []) (h3 : ¬ 2147483647 < e.ttl) (h4 : cU e.ports = true) (h5 : aO e = true) : cV e = 0 := by
  rw [cV, if_neg h1, if_neg (by rw [h4, h5]; simp [h2, h3])]
theorem di {l : List Int} (h : ∀ i, i < l.length → iH l i) (h8 : l.length ≤ 8) : cU l = true := by rw [gX h, decide_eq_true h8]
theorem fc {l : List Int} (h8 : ¬ l.length ≤ 8) : cU l = false := by rw [cU, decide_eq_false h8, Bool.and_false]
theorem aP (l : List Ad) : jH l = (adsR l && decide (1 ≤ l.length) && decide (l.length ≤ 8)) := rfl

set_option maxRecDepth 100000 in
theorem gI (e : En) (A B : Option Addr) (c d : Nat) (hwa : ∀ a ∈ e.addrs, 0 ≤ a.lo) (hla : e.addrs.length ≤ 1000000000000) (hlp : e.ports.length ≤ 1000000000000) (hk : -9223372036854775808 ≤ e.kind ∧ e.kind ≤ 9223372036854775807) : RC Tryz.prog 133 #[.agg (enC e A B c d).toArray] [Ch.rd A 3 gw e.addrs, Ch.rd B 1 fh e.ports] (α := Unit) (fun _ => .int .i64 (cV e)) (fun _ => []) := by
 refine bK (args := [.agg (enC e A B c d).toArray]) 148 Tryz.func133 rfl rfl rfl (fun w0 => ?_)
 refine ap ?_
 refine ae ?_
 refine cL rfl rfl rfl (fun b1 => ?_)
 refine aq (ai rfl) rfl rfl ?_
 refine aa ?_
 refine aj ?_
 refine ap ?_
 refine ae ?_
 refine aq (aB cM rfl) rfl rfl ?_
 refine aq (aC 0 bE rfl rfl rfl) rfl rfl ?_
 refine bD rfl gz (dV _) rfl ?_
 refine aq (ai rfl) rfl rfl ?_
 refine aa ?_
 refine aj ?_
 refine ap ?_
 refine ap ?_
 refine ae ?_
 refine aq (am rfl) rfl rfl ?_
 refine aq (cO rfl rfl) rfl rfl ?_
 refine ay (t := 10) rfl (fun h2_1 => ?_) (fun h2_1 => ?_)
 refine aa ?_
 refine aj ?_
 refine aA rfl ?_
 refine ap ?_
 refine ae ?_
 refine aq (am rfl) rfl rfl ?_
 refine aq (ai rfl) rfl rfl ?_
 refine aa ?_
 refine aj ?_
 refine aN ?_
 refine ax ?_
 refine aR (ts := [2]) rfl rfl rfl (fun w hw => ?_)
 focus first
   | exact ⟨(), by rw [cV, if_pos h2_1]; rfl, hw.base, (hw.weak (List.nil_sublist _) (fun s hs => hs)).toNews⟩
   | exact ⟨(), by rw [cg h2_1 (.inl h4_2)]; rfl, hw.base, (hw.weak (List.nil_sublist _) (fun s hs => hs)).toNews⟩
   | exact ⟨(), by rw [cg h2_1 (.inr (.inl h4_6))]; rfl, hw.base, (hw.weak (List.nil_sublist _) (fun s hs => hs)).toNews⟩
   | exact ⟨(), by rw [cg h2_1 (.inr (.inr (.inl (fc (by omega)))))]; rfl, hw.base, (hw.weak (List.nil_sublist _) (fun s hs => hs)).toNews⟩
   | exact ⟨(), by rw [cg h2_1 (.inr (.inr (.inl (en (k := k) (by omega) (fun h => by have q1 := h.1; have q2 := h.2.1; have q3 := h.2.2; omega)))))]; rfl, hw.base, (hw.weak (List.nil_sublist _) (fun s hs => hs)).toNews⟩
   | (trace_state; fail)
 refine aa ?_
 refine aj ?_
 refine aD rfl ?_
 refine aQ ?_
 refine aj ?_
 refine ap ?_
 refine ap ?_
 refine ae ?_
 refine aq (aB cM rfl) rfl rfl ?_
 refine aq (aC 0 bE rfl rfl rfl) rfl rfl ?_
 refine aq (eK rfl rfl) rfl rfl ?_
 refine ay (t := 14) rfl (fun h4_2 => ?_) (fun h4_2 => ?_)
 refine aq (am rfl) rfl rfl ?_
 refine ar rfl rfl rfl rfl ?_
 refine ar rfl rfl rfl rfl ?_
 refine ar rfl rfl rfl rfl ?_
 refine aq (aH rfl rfl) rfl rfl ?_
 refine aq (am rfl) rfl rfl ?_
 refine ar rfl rfl rfl rfl ?_
 refine ar rfl rfl rfl rfl ?_
 refine ar rfl rfl rfl rfl ?_
 refine ar rfl rfl rfl rfl ?_
 refine aq (aH rfl rfl) rfl rfl ?_
 refine aa ?_
 refine aj ?_
 refine aA rfl ?_
 refine ap ?_
 refine ae ?_
 refine aq (ai rfl) rfl rfl ?_
 refine aa ?_
 refine aj ?_
 refine aN ?_
 refine ax ?_
 refine aR (ts := [2]) rfl rfl rfl (fun w hw => ?_)
 focus first
   | exact ⟨(), by rw [cV, if_pos h2_1]; rfl, hw.base, (hw.weak (List.nil_sublist _) (fun s hs => hs)).toNews⟩
   | exact ⟨(), by rw [cg h2_1 (.inl h4_2)]; rfl, hw.base, (hw.weak (List.nil_sublist _) (fun s hs => hs)).toNews⟩
   | exact ⟨(), by rw [cg h2_1 (.inr (.inl h4_6))]; rfl, hw.base, (hw.weak (List.nil_sublist _) (fun s hs => hs)).toNews⟩
   | exact ⟨(), by rw [cg h2_1 (.inr (.inr (.inl (fc (by omega)))))]; rfl, hw.base, (hw.weak (List.nil_sublist _) (fun s hs => hs)).toNews⟩
   | exact ⟨(), by rw [cg h2_1 (.inr (.inr (.inl (en (k := k) (by omega) (fun h => by have q1 := h.1; have q2 := h.2.1; have q3 := h.2.2; omega)))))]; rfl, hw.base, (hw.weak (List.nil_sublist _) (fun s hs => hs)).toNews⟩
   | (trace_state; fail)
 refine aq (am rfl) rfl rfl ?_
 refine au rfl rfl ?_
 refine aq (aB iZ rfl) rfl rfl ?_
 refine au rfl rfl ?_
 refine aq (aC 0 ty_32 rfl rfl rfl) rfl rfl ?_
 refine au rfl rfl ?_
 refine aq (dB rfl rfl) rfl rfl ?_
 refine ay (t := 18) rfl (fun h4_6 => ?_) (fun h4_6 => ?_)
 refine aq (aF rfl rfl) rfl rfl ?_
 refine aq (am rfl) rfl rfl ?_
 refine ar rfl rfl rfl rfl ?_
 refine ar rfl rfl rfl rfl ?_
 refine ar rfl rfl rfl rfl ?_
 refine ar rfl rfl rfl rfl ?_
 refine aq (aH rfl rfl) rfl rfl ?_
 refine aa ?_
 refine aj ?_
 refine aA rfl ?_
 refine ap ?_
 refine ae ?_
 refine aq (ai rfl) rfl rfl ?_
 refine aa ?_
 refine aj ?_
 refine aN ?_
 refine ax ?_
 refine aR (ts := [2]) rfl rfl rfl (fun w hw => ?_)
 focus first
   | exact ⟨(), by rw [cV, if_pos h2_1]; rfl, hw.base, (hw.weak (List.nil_sublist _) (fun s hs => hs)).toNews⟩
   | exact ⟨(), by rw [cg h2_1 (.inl h4_2)]; rfl, hw.base, (hw.weak (List.nil_sublist _) (fun s hs => hs)).toNews⟩
   | exact ⟨(), by rw [cg h2_1 (.inr (.inl h4_6))]; rfl, hw.base, (hw.weak (List.nil_sublist _) (fun s hs => hs)).toNews⟩
   | exact ⟨(), by rw [cg h2_1 (.inr (.inr (.inl (fc (by omega)))))]; rfl, hw.base, (hw.weak (List.nil_sublist _) (fun s hs => hs)).toNews⟩
   | exact ⟨(), by rw [cg h2_1 (.inr (.inr (.inl (en (k := k) (by omega) (fun h => by have q1 := h.1; have q2 := h.2.1; have q3 := h.2.2; omega)))))]; rfl, hw.base, (hw.weak (List.nil_sublist _) (fun s hs => hs)).toNews⟩
   | (trace_state; fail)
 refine aq (aF rfl rfl) rfl rfl ?_
 refine aq (am rfl) rfl rfl ?_
 refine au rfl rfl ?_
 refine aq (aB dy rfl) rfl rfl ?_
 refine au rfl rfl ?_
 refine aq (aC 0 eN rfl rfl rfl) rfl rfl ?_
 refine au rfl rfl ?_
 refine aq (bg Tryz.underlying31 rfl) rfl rfl ?_
 refine au rfl rfl ?_
 refine aq (dB rfl rfl) rfl rfl ?_
 refine ay (t := 24) rfl (fun h4_12 => ?_) (fun h4_12 => ?_)
 refine aq (aF rfl rfl) rfl rfl ?_
 refine aa ?_
 refine aj ?_
 refine aA rfl ?_
 refine ap ?_
 refine ae ?_
 refine aq (ai rfl) rfl rfl ?_
 refine aa ?_
 refine aj ?_
 refine aN ?_
 refine ax ?_
 refine aR (ts := [2]) rfl rfl rfl (fun w hw => ?_)
 focus first
   | exact ⟨(), by rw [cV, if_pos h2_1]; rfl, hw.base, (hw.weak (List.nil_sublist _) (fun s hs => hs)).toNews⟩
   | exact ⟨(), by rw [cg h2_1 (.inl h4_2)]; rfl, hw.base, (hw.weak (List.nil_sublist _) (fun s hs => hs)).toNews⟩
   | exact ⟨(), by rw [cg h2_1 (.inr (.inl h4_6))]; rfl, hw.base, (hw.weak (List.nil_sublist _) (fun s hs => hs)).toNews⟩
   | exact ⟨(), by rw [cg h2_1 (.inr (.inr (.inl (fc (by omega)))))]; rfl, hw.base, (hw.weak (List.nil_sublist _) (fun s hs => hs)).toNews⟩
   | exact ⟨(), by rw [cg h2_1 (.inr (.inr (.inl (en (k := k) (by omega) (fun h => by have q1 := h.1; have q2 := h.2.1; have q3 := h.2.2; omega)))))]; rfl, hw.base, (hw.weak (List.nil_sublist _) (fun s hs => hs)).toNews⟩
   | (trace_state; fail)
 refine aq (aF rfl rfl) rfl rfl ?_
 refine aa ?_
 refine aj ?_
 refine aD rfl ?_
 refine aQ ?_
 refine aj ?_
 refine ap ?_
 refine ap ?_
 refine ae ?_
 refine aq (ai rfl) rfl rfl ?_
 refine aa ?_
 refine aj ?_
 refine aS ?_
 refine cC (σ := Nat) [2, 4, 26, 27, 28, 29, 30, 31, 32, 33, 34, 35, 36, 37, 38, 39, 40, 41, 42, 43, 44, 45, 46, 47, 48, 49, 50, 51, 52, 53, 54, 55, 56, 57, 58, 59, 60, 61, 62, 63, 64] (fun k => k ≤ e.ports.length ∧ ∀ i, i < k → iH e.ports i) (fun k => e.ports.length - k) (fun k => [(4, .int .i64 k)]) (0) ?_ ⟨rfl, trivial⟩ (fun k hI => ?_)
 exact ⟨Nat.zero_le _, nofun⟩
 refine ap ?_
 refine ap ?_
 refine ae ?_
 refine aq (am rfl) rfl rfl ?_
 refine aq (aB dy rfl) rfl rfl ?_
 refine aq (aC 0 eN rfl rfl rfl) rfl rfl ?_
 refine aq (bg Tryz.underlying31 rfl) rfl rfl ?_
 refine aq (bW rfl rfl) rfl rfl ?_
 refine ay (t := 30) rfl (fun h7_4 => ?_) (fun h7_4 => ?_)
 refine aa ?_
 refine aj ?_
 refine aA rfl ?_
 refine aQ ?_
 refine aj ?_
 refine ap ?_
 refine aS ?_
 refine ap ?_
 refine dQ 32 rfl mixed ?_
 refine aK (i := 0) rfl ak (aB dy rfl) aG aG rfl (ah (ao (ah (av (ao (ah aw)))))) (by kernel_rfl) rfl ?_
 refine aK (i := 1) rfl ak (aC 0 eN rfl rfl rfl) aG aG rfl (ah (ao (ah (av (ao (ah aw)))))) (by kernel_rfl) rfl ?_
 refine aK (i := 2) rfl ak (am rfl) aG aG rfl (ah (ao (ah (av (ao (ah aw)))))) (by kernel_rfl) rfl ?_
 refine aK (i := 3) rfl ak (bB  Tryz.underlying31 cX rfl rfl (bF 1 rfl) rfl (by omega)) aG aG rfl (ah (ao (ah (av (ao (ah aw)))))) (by kernel_rfl) rfl ?_
 refine aK (i := 4) rfl ak (bZ fL (0 : Int) cX rfl (bF 1 rfl) (by omega) rfl rfl) aG aG rfl (ah (ao (ah (av (ao (ah aw)))))) (by kernel_rfl) rfl ?_
 refine aK (i := 5) rfl ak (bW rfl rfl) aG aG rfl (ah (ao (ah (av (ao (ah aw)))))) (by kernel_rfl) rfl ?_
 refine dN (t := 38) rfl (fun h9_5 => ?_) (fun h9_5 => ?_)
 refine aK (i := 6) rfl ak (am rfl) aG aG rfl (ah (ao (ah (av (ao (ah aw)))))) (by kernel_rfl) rfl ?_
 refine cj (i := 7) rfl (bC rfl rfl rfl) aG rfl (ah (ao (ah (av (ao (ah aw)))))) (by kernel_rfl) rfl ?_
 refine cj (i := 8) rfl (bC rfl rfl rfl) aG rfl (ah (ao (ah (av (ao (ah aw)))))) (by kernel_rfl) rfl ?_
 refine cj (i := 9) rfl (bC rfl rfl rfl) aG rfl (ah (ao (ah (av (ao (ah aw)))))) (by kernel_rfl) rfl ?_
 refine cj (i := 10) rfl (bC rfl rfl rfl) aG rfl (ah (ao (ah (av (ao (ah aw)))))) (by kernel_rfl) rfl ?_
 refine cj (i := 11) rfl (bC rfl rfl rfl) aG rfl (ah (ao (ah (av (ao (ah aw)))))) (by kernel_rfl) rfl ?_
 refine cj (i := 12) rfl (bC rfl rfl rfl) aG rfl (ah (ao (ah (av (ao (ah aw)))))) (by kernel_rfl) rfl ?_
 refine aK (i := 13) rfl ak (aH rfl rfl) aG aG rfl (ah (ao (ah (av (ao (ah aw)))))) (by kernel_rfl) rfl ?_
 refine aK (i := 14) rfl ak (am rfl) aG aG rfl (ah (ao (ah (av (ao (ah aw)))))) (by kernel_rfl) rfl ?_
 refine cj (i := 15) rfl (bC rfl rfl rfl) aG rfl (ah (ao (ah (av (ao (ah aw)))))) (by kernel_rfl) rfl ?_
 refine cj (i := 16) rfl (bC rfl rfl rfl) aG rfl (ah (ao (ah (av (ao (ah aw)))))) (by kernel_rfl) rfl ?_
 refine cj (i := 17) rfl (bC rfl rfl rfl) aG rfl (ah (ao (ah (av (ao (ah aw)))))) (by kernel_rfl) rfl ?_
 refine cj (i := 18) rfl (cn rfl rfl) aG rfl (ah (ao (ah (av (ao (ah aw)))))) (by kernel_rfl) rfl ?_
 refine cj (i := 19) rfl (cn rfl rfl) aG rfl (ah (ao (ah (av (ao (ah aw)))))) (by kernel_rfl) rfl ?_
 refine cj (i := 20) rfl (cn rfl rfl) aG rfl (ah (ao (ah (av (ao (ah aw)))))) (by kernel_rfl) rfl ?_
 refine cj (i := 21) rfl (cn rfl rfl) aG rfl (ah (ao (ah (av (ao (ah aw)))))) (by kernel_rfl) rfl ?_
 refine cj (i := 22) rfl (cn rfl rfl) aG rfl (ah (ao (ah (av (ao (ah aw)))))) (by kernel_rfl) rfl ?_
 refine cj (i := 23) rfl (cn rfl rfl) aG rfl (ah (ao (ah (av (ao (ah aw)))))) (by kernel_rfl) rfl ?_
 refine cj (i := 24) rfl (cn rfl rfl) aG rfl (ah (ao (ah (av (ao (ah aw)))))) (by kernel_rfl) rfl ?_
 refine cj (i := 25) rfl (cn rfl rfl) aG rfl (ah (ao (ah (av (ao (ah aw)))))) (by kernel_rfl) rfl ?_
 refine cj (i := 26) rfl (cn rfl rfl) aG rfl (ah (ao (ah (av (ao (ah aw)))))) (by kernel_rfl) rfl ?_
 refine cj (i := 27) rfl (cn rfl rfl) aG rfl (ah (ao (ah (av (ao (ah aw)))))) (by kernel_rfl) rfl ?_
 refine cj (i := 28) rfl (cn rfl rfl) aG rfl (ah (ao (ah (av (ao (ah aw)))))) (by kernel_rfl) rfl ?_
 refine cj (i := 29) rfl (cn rfl rfl) aG rfl (ah (ao (ah (av (ao (ah aw)))))) (by kernel_rfl) rfl ?_
 refine cj (i := 30) rfl (bC rfl rfl rfl) aG rfl (ah (ao (ah (av (ao (ah aw)))))) (by kernel_rfl) rfl ?_
 refine aK (i := 31) rfl ak (aH rfl rfl) aG aG rfl (ah (ao (ah (av (ao (ah aw)))))) (by kernel_rfl) rfl ?_
 refine cF (by kernel_rfl) ?_
 refine aj ?_
 refine aA rfl ?_
 refine ap ?_
 refine ae ?_
 refine aq (ai rfl) rfl rfl ?_
 refine aa ?_
 refine aj ?_
 refine aN ?_
 refine aJ ?_
 refine ax ?_
 refine bh ?_
 refine aJ ?_
 refine ax ?_
 refine aR (ts := [2]) rfl rfl rfl (fun w hw => ?_)
 focus first
   | exact ⟨(), by rw [cV, if_pos h2_1]; rfl, hw.base, (hw.weak (List.nil_sublist _) (fun s hs => hs)).toNews⟩
   | exact ⟨(), by rw [cg h2_1 (.inl h4_2)]; rfl, hw.base, (hw.weak (List.nil_sublist _) (fun s hs => hs)).toNews⟩
   | exact ⟨(), by rw [cg h2_1 (.inr (.inl h4_6))]; rfl, hw.base, (hw.weak (List.nil_sublist _) (fun s hs => hs)).toNews⟩
   | exact ⟨(), by rw [cg h2_1 (.inr (.inr (.inl (fc (by omega)))))]; rfl, hw.base, (hw.weak (List.nil_sublist _) (fun s hs => hs)).toNews⟩
   | exact ⟨(), by rw [cg h2_1 (.inr (.inr (.inl (en (k := k) (by omega) (fun h => by have q1 := h.1; have q2 := h.2.1; have q3 := h.2.2; omega)))))]; rfl, hw.base, (hw.weak (List.nil_sublist _) (fun s hs => hs)).toNews⟩
   | (trace_state; fail)
 refine aK (i := 6) rfl ak (am rfl) aG aG rfl (ah (ao (ah (av (ao (ah aw)))))) (by kernel_rfl) rfl ?_
 refine aK (i := 7) rfl (aL rfl rfl) (aB dy rfl) aG aG rfl (ah (ao (ah (av (ao (ah aw)))))) (by kernel_rfl) rfl ?_
 refine aK (i := 8) rfl (aL rfl rfl) (aC 0 eN rfl rfl rfl) aG aG rfl (ah (ao (ah (av (ao (ah aw)))))) (by kernel_rfl) rfl ?_
 refine aK (i := 9) rfl (aL rfl rfl) (am rfl) aG aG rfl (ah (ao (ah (av (ao (ah aw)))))) (by kernel_rfl) rfl ?_
 refine aK (i := 10) rfl (aL rfl rfl) (bB  Tryz.underlying31 cX rfl rfl (bF 1 rfl) rfl (by omega)) aG aG rfl (ah (ao (ah (av (ao (ah aw)))))) (by kernel_rfl) rfl ?_
 refine aK (i := 11) rfl (aL rfl rfl) (bZ fL (0 : Int) cX rfl (bF 1 rfl) (by omega) rfl rfl) aG aG rfl (ah (ao (ah (av (ao (ah aw)))))) (by kernel_rfl) rfl ?_
 refine aK (i := 12) rfl (aL rfl rfl) (dB rfl rfl) aG aG rfl (ah (ao (ah (av (ao (ah aw)))))) (by kernel_rfl) rfl ?_
 refine dN (t := 45) rfl (fun h9_12 => ?_) (fun h9_12 => ?_)
 refine aK (i := 13) rfl ak (aF rfl rfl) aG aG rfl (ah (ao (ah (av (ao (ah aw)))))) (by kernel_rfl) rfl ?_
 refine aK (i := 14) rfl ak (am rfl) aG aG rfl (ah (ao (ah (av (ao (ah aw)))))) (by kernel_rfl) rfl ?_
 refine cj (i := 15) rfl (bC rfl rfl rfl) aG rfl (ah (ao (ah (av (ao (ah aw)))))) (by kernel_rfl) rfl ?_
 refine cj (i := 16) rfl (bC rfl rfl rfl) aG rfl (ah (ao (ah (av (ao (ah aw)))))) (by kernel_rfl) rfl ?_
 refine cj (i := 17) rfl (bC rfl rfl rfl) aG rfl (ah (ao (ah (av (ao (ah aw)))))) (by kernel_rfl) rfl ?_
 refine cj (i := 18) rfl (cn rfl rfl) aG rfl (ah (ao (ah (av (ao (ah aw)))))) (by kernel_rfl) rfl ?_
 refine cj (i := 19) rfl (cn rfl rfl) aG rfl (ah (ao (ah (av (ao (ah aw)))))) (by kernel_rfl) rfl ?_
 refine cj (i := 20) rfl (cn rfl rfl) aG rfl (ah (ao (ah (av (ao (ah aw)))))) (by kernel_rfl) rfl ?_
 refine cj (i := 21) rfl (cn rfl rfl) aG rfl (ah (ao (ah (av (ao (ah aw)))))) (by kernel_rfl) rfl ?_
 refine cj (i := 22) rfl (cn rfl rfl) aG rfl (ah (ao (ah (av (ao (ah aw)))))) (by kernel_rfl) rfl ?_
 refine cj (i := 23) rfl (cn rfl rfl) aG rfl (ah (ao (ah (av (ao (ah aw)))))) (by kernel_rfl) rfl ?_
 refine cj (i := 24) rfl (cn rfl rfl) aG rfl (ah (ao (ah (av (ao (ah aw)))))) (by kernel_rfl) rfl ?_
 refine cj (i := 25) rfl (cn rfl rfl) aG rfl (ah (ao (ah (av (ao (ah aw)))))) (by kernel_rfl) rfl ?_
 refine cj (i := 26) rfl (cn rfl rfl) aG rfl (ah (ao (ah (av (ao (ah aw)))))) (by kernel_rfl) rfl ?_
 refine cj (i := 27) rfl (cn rfl rfl) aG rfl (ah (ao (ah (av (ao (ah aw)))))) (by kernel_rfl) rfl ?_
 refine cj (i := 28) rfl (cn rfl rfl) aG rfl (ah (ao (ah (av (ao (ah aw)))))) (by kernel_rfl) rfl ?_
 refine cj (i := 29) rfl (cn rfl rfl) aG rfl (ah (ao (ah (av (ao (ah aw)))))) (by kernel_rfl) rfl ?_
 refine cj (i := 30) rfl (bC rfl rfl rfl) aG rfl (ah (ao (ah (av (ao (ah aw)))))) (by kernel_rfl) rfl ?_
 refine aK (i := 31) rfl ak (aH rfl rfl) aG aG rfl (ah (ao (ah (av (ao (ah aw)))))) (by kernel_rfl) rfl ?_
 refine cF (by kernel_rfl) ?_
 refine aj ?_
 refine aA rfl ?_
 refine ap ?_
 refine ae ?_
 refine aq (ai rfl) rfl rfl ?_
 refine aa ?_
 refine aj ?_
 refine aN ?_
 refine aJ ?_
 refine ax ?_
 refine bh ?_
 refine aJ ?_
 refine ax ?_
 refine aR (ts := [2]) rfl rfl rfl (fun w hw => ?_)
 focus first
   | exact ⟨(), by rw [cV, if_pos h2_1]; rfl, hw.base, (hw.weak (List.nil_sublist _) (fun s hs => hs)).toNews⟩
   | exact ⟨(), by rw [cg h2_1 (.inl h4_2)]; rfl, hw.base, (hw.weak (List.nil_sublist _) (fun s hs => hs)).toNews⟩
   | exact ⟨(), by rw [cg h2_1 (.inr (.inl h4_6))]; rfl, hw.base, (hw.weak (List.nil_sublist _) (fun s hs => hs)).toNews⟩
   | exact ⟨(), by rw [cg h2_1 (.inr (.inr (.inl (fc (by omega)))))]; rfl, hw.base, (hw.weak (List.nil_sublist _) (fun s hs => hs)).toNews⟩
   | exact ⟨(), by rw [cg h2_1 (.inr (.inr (.inl (en (k := k) (by omega) (fun h => by have q1 := h.1; have q2 := h.2.1; have q3 := h.2.2; omega)))))]; rfl, hw.base, (hw.weak (List.nil_sublist _) (fun s hs => hs)).toNews⟩
   | (trace_state; fail)
 refine aK (i := 13) rfl ak (aF rfl rfl) aG aG rfl (ah (ao (ah (av (ao (ah aw)))))) (by kernel_rfl) rfl ?_
 refine aK (i := 14) rfl ak (am rfl) aG aG rfl (ah (ao (ah (av (ao (ah aw)))))) (by kernel_rfl) rfl ?_
 refine aK (i := 15) rfl (aL rfl rfl) (am rfl) aG aG rfl (ah (ao (ah (av (ao (ah aw)))))) (by kernel_rfl) rfl ?_
 refine aK (i := 16) rfl (aL rfl rfl) (dB rfl rfl) aG aG rfl (ah (ao (ah (av (ao (ah aw)))))) (by kernel_rfl) rfl ?_
 refine dN (t := 49) rfl (fun h9_16 => ?_) (fun h9_16 => ?_)
 refine aK (i := 17) rfl (aL rfl rfl) (am rfl) aG aG rfl (ah (ao (ah (av (ao (ah aw)))))) (by kernel_rfl) rfl ?_
 refine aK (i := 18) rfl (aL rfl rfl) (aB dy rfl) aG aG rfl (ah (ao (ah (av (ao (ah aw)))))) (by kernel_rfl) rfl ?_
 refine aK (i := 19) rfl (aL rfl rfl) (aC 0 eN rfl rfl rfl) aG aG rfl (ah (ao (ah (av (ao (ah aw)))))) (by kernel_rfl) rfl ?_
 refine aK (i := 20) rfl (aL rfl rfl) (am rfl) aG aG rfl (ah (ao (ah (av (ao (ah aw)))))) (by kernel_rfl) rfl ?_
 refine aK (i := 21) rfl (aL rfl rfl) (fd rfl rfl (by omega) (by omega)) aG aG rfl (ah (ao (ah (av (ao (ah aw)))))) (by kernel_rfl) rfl ?_
 refine aK (i := 22) rfl (aL rfl rfl) (bB (k := k - 1) Tryz.underlying31 cX rfl rfl (bF 1 rfl) (by omega) (by omega)) aG aG rfl (ah (ao (ah (av (ao (ah aw)))))) (by kernel_rfl) rfl ?_
 refine aK (i := 23) rfl (aL rfl rfl) (bZ fL (0 : Int) cX rfl (bF 1 rfl) (by omega) rfl rfl) aG aG rfl (ah (ao (ah (av (ao (ah aw)))))) (by kernel_rfl) rfl ?_
 refine aK (i := 24) rfl (aL rfl rfl) (aB dy rfl) aG aG rfl (ah (ao (ah (av (ao (ah aw)))))) (by kernel_rfl) rfl ?_
 refine aK (i := 25) rfl (aL rfl rfl) (aC 0 eN rfl rfl rfl) aG aG rfl (ah (ao (ah (av (ao (ah aw)))))) (by kernel_rfl) rfl ?_
 refine aK (i := 26) rfl (aL rfl rfl) (am rfl) aG aG rfl (ah (ao (ah (av (ao (ah aw)))))) (by kernel_rfl) rfl ?_
 refine aK (i := 27) rfl (aL rfl rfl) (bB  Tryz.underlying31 cX rfl rfl (bF 1 rfl) rfl (by omega)) aG aG rfl (ah (ao (ah (av (ao (ah aw)))))) (by kernel_rfl) rfl ?_
 refine aK (i := 28) rfl (aL rfl rfl) (bZ fL (0 : Int) cX rfl (bF 1 rfl) (by omega) rfl rfl) aG aG rfl (ah (ao (ah (av (ao (ah aw)))))) (by kernel_rfl) rfl ?_
 refine aK (i := 29) rfl (aL rfl rfl) (gD rfl rfl) aG aG rfl (ah (ao (ah (av (ao (ah aw)))))) (by kernel_rfl) rfl ?_
 refine dN (t := 62) rfl (fun h9_29 => ?_) (fun h9_29 => ?_)
 refine aK (i := 30) rfl (aL rfl rfl) (aH rfl rfl) aG aG rfl (ah (ao (ah (av (ao (ah aw)))))) (by kernel_rfl) rfl ?_
 refine aK (i := 31) rfl ak (aF rfl rfl) aG aG rfl (ah (ao (ah (av (ao (ah aw)))))) (by kernel_rfl) rfl ?_
 refine cF (by kernel_rfl) ?_
 refine aj ?_
 refine aA rfl ?_
 refine ap ?_
 refine ae ?_
 refine aq (ai rfl) rfl rfl ?_
 refine aa ?_
 refine aj ?_
 refine aN ?_
 refine aJ ?_
 refine ax ?_
 refine bh ?_
 refine aJ ?_
 refine ax ?_
 refine aR (ts := [2]) rfl rfl rfl (fun w hw => ?_)
 focus first
   | exact ⟨(), by rw [cV, if_pos h2_1]; rfl, hw.base, (hw.weak (List.nil_sublist _) (fun s hs => hs)).toNews⟩
   | exact ⟨(), by rw [cg h2_1 (.inl h4_2)]; rfl, hw.base, (hw.weak (List.nil_sublist _) (fun s hs => hs)).toNews⟩
   | exact ⟨(), by rw [cg h2_1 (.inr (.inl h4_6))]; rfl, hw.base, (hw.weak (List.nil_sublist _) (fun s hs => hs)).toNews⟩
   | exact ⟨(), by rw [cg h2_1 (.inr (.inr (.inl (fc (by omega)))))]; rfl, hw.base, (hw.weak (List.nil_sublist _) (fun s hs => hs)).toNews⟩
   | exact ⟨(), by rw [cg h2_1 (.inr (.inr (.inl (en (k := k) (by omega) (fun h => by have q1 := h.1; have q2 := h.2.1; have q3 := h.2.2; omega)))))]; rfl, hw.base, (hw.weak (List.nil_sublist _) (fun s hs => hs)).toNews⟩
   | (trace_state; fail)
 refine aK (i := 30) rfl (aL rfl rfl) (aH rfl rfl) aG aG rfl (ah (ao (ah (av (ao (ah aw)))))) (by kernel_rfl) rfl ?_
 refine aK (i := 31) rfl ak (aF rfl rfl) aG aG rfl (ah (ao (ah (av (ao (ah aw)))))) (by kernel_rfl) rfl ?_
 refine cF (by kernel_rfl) ?_
 refine aj ?_
 refine aD rfl ?_
 refine aQ ?_
 refine bj ?_
 refine aj ?_
 refine ae ?_
 refine aq (am rfl) rfl rfl ?_
 refine aq (br rfl rfl (by omega) (by omega)) rfl rfl ?_
 refine aq (ai rfl) rfl rfl ?_
 refine aa ?_
 refine bv (k + 1) ?_ ?_ ⟨rfl, trivial⟩ (by repeat (first | exact trivial | refine ⟨rfl, ?_⟩)) aG
 exact ⟨by omega, fo hI.2 ⟨by omega, by omega, fun _ => by omega⟩⟩
 omega
 refine aK (i := 17) rfl (aL rfl rfl) (am rfl) aG aG rfl (ah (ao (ah (av (ao (ah aw)))))) (by kernel_rfl) rfl ?_
 refine cj (i := 18) rfl (bC rfl rfl rfl) aG rfl (ah (ao (ah (av (ao (ah aw)))))) (by kernel_rfl) rfl ?_
 refine cj (i := 19) rfl (bC rfl rfl rfl) aG rfl (ah (ao (ah (av (ao (ah aw)))))) (by kernel_rfl) rfl ?_
 refine cj (i := 20) rfl (bC rfl rfl rfl) aG rfl (ah (ao (ah (av (ao (ah aw)))))) (by kernel_rfl) rfl ?_
 refine cj (i := 21) rfl (bC rfl rfl rfl) aG rfl (ah (ao (ah (av (ao (ah aw)))))) (by kernel_rfl) rfl ?_
 refine cj (i := 22) rfl (bC rfl rfl rfl) aG rfl (ah (ao (ah (av (ao (ah aw)))))) (by kernel_rfl) rfl ?_
 refine cj (i := 23) rfl (bC rfl rfl rfl) aG rfl (ah (ao (ah (av (ao (ah aw)))))) (by kernel_rfl) rfl ?_
 refine cj (i := 24) rfl (bC rfl rfl rfl) aG rfl (ah (ao (ah (av (ao (ah aw)))))) (by kernel_rfl) rfl ?_
 refine cj (i := 25) rfl (bC rfl rfl rfl) aG rfl (ah (ao (ah (av (ao (ah aw)))))) (by kernel_rfl) rfl ?_
 refine cj (i := 26) rfl (bC rfl rfl rfl) aG rfl (ah (ao (ah (av (ao (ah aw)))))) (by kernel_rfl) rfl ?_
 refine cj (i := 27) rfl (bC rfl rfl rfl) aG rfl (ah (ao (ah (av (ao (ah aw)))))) (by kernel_rfl) rfl ?_
 refine cj (i := 28) rfl (bC rfl rfl rfl) aG rfl (ah (ao (ah (av (ao (ah aw)))))) (by kernel_rfl) rfl ?_
 refine cj (i := 29) rfl (bC rfl rfl rfl) aG rfl (ah (ao (ah (av (ao (ah aw)))))) (by kernel_rfl) rfl ?_
 refine aK (i := 30) rfl (aL rfl rfl) (aF rfl rfl) aG aG rfl (ah (ao (ah (av (ao (ah aw)))))) (by kernel_rfl) rfl ?_
 refine aK (i := 31) rfl ak (aF rfl rfl) aG aG rfl (ah (ao (ah (av (ao (ah aw)))))) (by kernel_rfl) rfl ?_
 refine cF (by kernel_rfl) ?_
 refine aj ?_
 refine aD rfl ?_
 refine aQ ?_
 refine bj ?_
 refine aj ?_
 refine ae ?_
 refine aq (am rfl) rfl rfl ?_
 refine aq (br rfl rfl (by omega) (by omega)) rfl rfl ?_
 refine aq (ai rfl) rfl rfl ?_
 refine aa ?_
 refine bv (k + 1) ?_ ?_ ⟨rfl, trivial⟩ (by repeat (first | exact trivial | refine ⟨rfl, ?_⟩)) aG
 exact ⟨by omega, fo hI.2 ⟨by omega, by omega, fun _ => by omega⟩⟩
 omega
 refine aa ?_
 refine aj ?_
 refine aD rfl ?_
 refine bJ ?_
 refine aV ?_
 refine aX ?_
 refine a8 ?_
 refine aj ?_
 refine ap ?_
 refine ae ?_
 refine aq (ai rfl) rfl rfl ?_
 refine aa ?_
 refine aj ?_
 refine ap ?_
 refine ap ?_
 refine ae ?_
 refine aq (aB gH rfl) rfl rfl ?_
 refine aq (aC 0 cX rfl rfl rfl) rfl rfl ?_
 refine aa ?_
 refine aj ?_
 refine aS ?_
 refine ap ?_
 refine ae ?_
 refine aq (cY rfl rfl) rfl rfl ?_
 refine ay (t := 68) rfl (fun h13_0 => ?_) (fun h13_0 => ?_)
 refine aq (ai rfl) rfl rfl ?_
 refine aa ?_
 refine aj ?_
 refine aA rfl ?_
 refine ae ?_
 refine aq (aB fx rfl) rfl rfl ?_
 refine aq (aC 0 cI rfl rfl rfl) rfl rfl ?_
 refine bD rfl ent_194 (gJ _) rfl ?_
 refine aq (cY rfl rfl) rfl rfl ?_
 refine ay (t := 72) rfl (fun h14_3 => ?_) (fun h14_3 => ?_)
 refine aq (am rfl) rfl rfl ?_
 refine au rfl rfl ?_
 refine aq (aB du rfl) rfl rfl ?_
 refine au rfl rfl ?_
 refine aq (aC 0 eF rfl rfl rfl) rfl rfl ?_
 refine au rfl rfl ?_
 refine aq (bg Tryz.underlying30 rfl) rfl rfl ?_
 refine au rfl rfl ?_
 refine aq (gD rfl rfl) rfl rfl ?_
 refine ay (t := 77) rfl (fun h14_8 => ?_) (fun h14_8 => ?_)
 refine aq (aH rfl rfl) rfl rfl ?_
 refine aq (am rfl) rfl rfl ?_
 refine au rfl rfl ?_
 refine aq (aB du rfl) rfl rfl ?_
 refine au rfl rfl ?_
 refine aq (aC 0 eF rfl rfl rfl) rfl rfl ?_
 refine au rfl rfl ?_
 refine aq (bg Tryz.underlying30 rfl) rfl rfl ?_
 refine au rfl rfl ?_
 refine aq (ff rfl rfl) rfl rfl ?_
 refine ay (t := 83) rfl (fun h14_14 => ?_) (fun h14_14 => ?_)
 refine aq (aH rfl rfl) rfl rfl ?_
 refine aq (am rfl) rfl rfl ?_
 refine au rfl rfl ?_
 refine aq (aB du rfl) rfl rfl ?_
 refine au rfl rfl ?_
 refine aq (aC 0 eF rfl rfl rfl) rfl rfl ?_
 refine au rfl rfl ?_
 refine bA rfl ent_195 rfl (c_ref16_addrs _ _ _ (by omega) hwa) (fun w hw => (az (bo 0 rfl hw) aY)) ?_
 refine bN (t := 88) rfl (fun h14_19 => ?_) (fun h14_19 => ?_)
 refine aq (aH rfl rfl) rfl rfl ?_
 refine aq (am rfl) rfl rfl ?_
 refine au rfl rfl ?_
 refine aq (aB ez rfl) rfl rfl ?_
 refine au rfl rfl ?_
 refine aq (aC 0 bE rfl rfl rfl) rfl rfl ?_
 refine au rfl rfl ?_
 refine aq (eK rfl rfl) rfl rfl ?_
 refine ay (t := 93) rfl (fun h14_24 => ?_) (fun h14_24 => ?_)
 refine aq (aH rfl rfl) rfl rfl ?_
 refine aq (ai rfl) rfl rfl ?_
 refine aa ?_
 refine bj ?_
 refine aj ?_
 refine ap ?_
 refine ap ?_
 refine ae ?_
 refine aq (am rfl) rfl rfl ?_
 refine aq (bS rfl) rfl rfl ?_
 refine aa ?_
 refine aj ?_
 refine aD rfl ?_
 refine aQ ?_
 refine aj ?_
 refine ap ?_
 refine ae ?_
 refine aq (ai rfl) rfl rfl ?_
 refine aa ?_
 refine aj ?_
 refine aN ?_
 refine aR (ts := [2]) rfl rfl rfl (fun w hw => ?_)
 have hpo : cU e.ports = true := di (fun i hi => hI.2 i (by omega)) (by omega)
 have hm : aO e = true := by
   focus first
     | (exfalso; omega)
     | (simp [aO, aP, *]
        done)
     | (have r1 : 1 ≤ e.addrs.length := by omega
        have r2 : e.addrs.length ≤ 8 := by omega
        have r3 : ¬ e.addrs = [] := by
          intro h; rw [h] at r1; simp at r1
        simp [aO, aP, *]
        done)
     | (have r1 : ¬ 1 ≤ e.addrs.length := by omega
        have r3 : e.addrs = [] := List.length_eq_zero_iff.1 (by omega)
        simp [aO, aP, *]
        done)
     | (have r1 : 1 ≤ e.addrs.length := by omega
        have r2 : ¬ e.addrs.length ≤ 8 := by omega
        simp [aO, aP, *]
        done)
     | (have q0 : e.addrs = [] := List.length_eq_zero_iff.1 (by omega)
        simp [aO, aP, *]
        done)
     | (have q0 : ¬ e.addrs = [] := by
          intro h; have h9 := congrArg List.length h; rw [List.length_nil] at h9; omega
        simp [aO, aP, *]
        done)
     | (have q0 : e.addrs = [] := List.length_eq_zero_iff.1 (by omega)
        have q1 : e.ports = [] := List.length_eq_zero_iff.1 (by omega)
        simp [aO, aP, *]
        done)
     | (have q0 : e.addrs = [] := List.length_eq_zero_iff.1 (by omega)
        have q1 : ¬ e.ports = [] := by
          intro h; have h9 := congrArg List.length h; rw [List.length_nil] at h9; omega
        simp [aO, aP, *]
        done)
     | (trace_state; fail)
 exact ⟨(), by rw [ent_good h2_1 h4_2 h4_6 hpo hm]; rfl, hw.base, (hw.weak (List.nil_sublist _) (fun s hs => hs)).toNews⟩
 refine aq (aH rfl rfl) rfl rfl ?_
 refine aq (ai rfl) rfl rfl ?_
 refine aa ?_
 refine bj ?_
 refine aj ?_
 refine ap ?_
 refine ap ?_
 refine ae ?_
 refine aq (am rfl) rfl rfl ?_
 refine aq (bS rfl) rfl rfl ?_
 refine aa ?_
 refine aj ?_
 refine aA rfl ?_
 refine ap ?_
 refine ae ?_
 refine aq (ai rfl) rfl rfl ?_
 refine aa ?_
 refine aj ?_
 refine aN ?_
 refine ax ?_
 refine aR (ts := [2]) rfl rfl rfl (fun w hw => ?_)
 have hpo : cU e.ports = true := di (fun i hi => hI.2 i (by omega)) (by omega)
 have hm : aO e = false := by
   focus first
     | (exfalso; omega)
     | (simp [aO, aP, *]
        done)
     | (have r1 : 1 ≤ e.addrs.length := by omega
        have r2 : e.addrs.length ≤ 8 := by omega
        have r3 : ¬ e.addrs = [] := by
          intro h; rw [h] at r1; simp at r1
        simp [aO, aP, *]
        done)
     | (have r1 : ¬ 1 ≤ e.addrs.length := by omega
        have r3 : e.addrs = [] := List.length_eq_zero_iff.1 (by omega)
        simp [aO, aP, *]
        done)
     | (have r1 : 1 ≤ e.addrs.length := by omega
        have r2 : ¬ e.addrs.length ≤ 8 := by omega
        simp [aO, aP, *]
        done)
     | (have q0 : e.addrs = [] := List.length_eq_zero_iff.1 (by omega)
        simp [aO, aP, *]
        done)
     | (have q0 : ¬ e.addrs = [] := by
          intro h; have h9 := congrArg List.length h; rw [List.length_nil] at h9; omega
        simp [aO, aP, *]
        done)
     | (have q0 : e.addrs = [] := List.length_eq_zero_iff.1 (by omega)
        have q1 : e.ports = [] := List.length_eq_zero_iff.1 (by omega)
        simp [aO, aP, *]
        done)
     | (have q0 : e.addrs = [] := List.length_eq_zero_iff.1 (by omega)
        have q1 : ¬ e.ports = [] := by
          intro h; have h9 := congrArg List.length h; rw [List.length_nil] at h9; omega
        simp [aO, aP, *]
        done)
     | (trace_state; fail)
 exact ⟨(), by rw [cg h2_1 (.inr (.inr (.inr hm)))]; rfl, hw.base, (hw.weak (List.nil_sublist _) (fun s hs => hs)).toNews⟩
 refine aq (aH rfl rfl) rfl rfl ?_
 refine aq (am rfl) rfl rfl ?_
 refine ar rfl rfl rfl rfl ?_
 refine ar rfl rfl rfl rfl ?_
 refine ar rfl rfl rfl rfl ?_
 refine aq (aF rfl rfl) rfl rfl ?_
 refine aq (ai rfl) rfl rfl ?_
 refine aa ?_
 refine bj ?_
 refine aj ?_
 refine ap ?_
 refine ap ?_
 refine ae ?_
 refine aq (am rfl) rfl rfl ?_
 refine aq (bS rfl) rfl rfl ?_
 refine aa ?_
 refine aj ?_
 refine aA rfl ?_
 refine ap ?_
 refine ae ?_
 refine aq (ai rfl) rfl rfl ?_
 refine aa ?_
 refine aj ?_
 refine aN ?_
 refine ax ?_
 refine aR (ts := [2]) rfl rfl rfl (fun w hw => ?_)
 have hpo : cU e.ports = true := di (fun i hi => hI.2 i (by omega)) (by omega)
 have hm : aO e = false := by
   focus first
     | (exfalso; omega)
     | (simp [aO, aP, *]
        done)
     | (have r1 : 1 ≤ e.addrs.length := by omega
        have r2 : e.addrs.length ≤ 8 := by omega
        have r3 : ¬ e.addrs = [] := by
          intro h; rw [h] at r1; simp at r1
        simp [aO, aP, *]
        done)
     | (have r1 : ¬ 1 ≤ e.addrs.length := by omega
        have r3 : e.addrs = [] := List.length_eq_zero_iff.1 (by omega)
        simp [aO, aP, *]
        done)
     | (have r1 : 1 ≤ e.addrs.length := by omega
        have r2 : ¬ e.addrs.length ≤ 8 := by omega
        simp [aO, aP, *]
        done)
     | (have q0 : e.addrs = [] := List.length_eq_zero_iff.1 (by omega)
        simp [aO, aP, *]
        done)
     | (have q0 : ¬ e.addrs = [] := by
          intro h; have h9 := congrArg List.length h; rw [List.length_nil] at h9; omega
        simp [aO, aP, *]
        done)
     | (have q0 : e.addrs = [] := List.length_eq_zero_iff.1 (by omega)
        have q1 : e.ports = [] := List.length_eq_zero_iff.1 (by omega)
        simp [aO, aP, *]
        done)
     | (have q0 : e.addrs = [] := List.length_eq_zero_iff.1 (by omega)
        have q1 : ¬ e.ports = [] := by
          intro h; have h9 := congrArg List.length h; rw [List.length_nil] at h9; omega
        simp [aO, aP, *]
        done)
     | (trace_state; fail)
 exact ⟨(), by rw [cg h2_1 (.inr (.inr (.inr hm)))]; rfl, hw.base, (hw.weak (List.nil_sublist _) (fun s hs => hs)).toNews⟩
 refine aq (aH rfl rfl) rfl rfl ?_
 refine aq (am rfl) rfl rfl ?_
 refine ar rfl rfl rfl rfl ?_
 refine ar rfl rfl rfl rfl ?_
 refine ar rfl rfl rfl rfl ?_
 refine aq (aF rfl rfl) rfl rfl ?_
 refine aq (am rfl) rfl rfl ?_
 refine ar rfl rfl rfl rfl ?_
 refine ar rfl rfl rfl rfl ?_
 refine ar rfl rfl rfl rfl ?_
 refine aq (aF rfl rfl) rfl rfl ?_
 refine aq (ai rfl) rfl rfl ?_
 refine aa ?_
 refine bj ?_
 refine aj ?_
 refine ap ?_
 refine ap ?_
 refine ae ?_
 refine aq (am rfl) rfl rfl ?_
 refine aq (bS rfl) rfl rfl ?_
 refine aa ?_
 refine aj ?_
 refine aA rfl ?_
 refine ap ?_
 refine ae ?_
 refine aq (ai rfl) rfl rfl ?_
 refine aa ?_
 refine aj ?_
 refine aN ?_
 refine ax ?_
 refine aR (ts := [2]) rfl rfl rfl (fun w hw => ?_)
 have hpo : cU e.ports = true := di (fun i hi => hI.2 i (by omega)) (by omega)
 have hm : aO e = false := by
   focus first
     | (exfalso; omega)
     | (simp [aO, aP, *]
        done)
     | (have r1 : 1 ≤ e.addrs.length := by omega
        have r2 : e.addrs.length ≤ 8 := by omega
        have r3 : ¬ e.addrs = [] := by
          intro h; rw [h] at r1; simp at r1
        simp [aO, aP, *]
        done)
     | (have r1 : ¬ 1 ≤ e.addrs.length := by omega
        have r3 : e.addrs = [] := List.length_eq_zero_iff.1 (by omega)
        simp [aO, aP, *]
        done)
     | (have r1 : 1 ≤ e.addrs.length := by omega
        have r2 : ¬ e.addrs.length ≤ 8 := by omega
        simp [aO, aP, *]
        done)
     | (have q0 : e.addrs = [] := List.length_eq_zero_iff.1 (by omega)
        simp [aO, aP, *]
        done)
     | (have q0 : ¬ e.addrs = [] := by
          intro h; have h9 := congrArg List.length h; rw [List.length_nil] at h9; omega
        simp [aO, aP, *]
        done)
     | (have q0 : e.addrs = [] := List.length_eq_zero_iff.1 (by omega)
        have q1 : e.ports = [] := List.length_eq_zero_iff.1 (by omega)
        simp [aO, aP, *]
        done)
     | (have q0 : e.addrs = [] := List.length_eq_zero_iff.1 (by omega)
        have q1 : ¬ e.ports = [] := by
          intro h; have h9 := congrArg List.length h; rw [List.length_nil] at h9; omega
        simp [aO, aP, *]
        done)
     | (trace_state; fail)
 exact ⟨(), by rw [cg h2_1 (.inr (.inr (.inr hm)))]; rfl, hw.base, (hw.weak (List.nil_sublist _) (fun s hs => hs)).toNews⟩
 refine aq (aH rfl rfl) rfl rfl ?_
 refine aq (am rfl) rfl rfl ?_
 refine ar rfl rfl rfl rfl ?_
 refine ar rfl rfl rfl rfl ?_
 refine ar rfl rfl rfl rfl ?_
 refine ar rfl rfl rfl rfl ?_
 refine aq (aF rfl rfl) rfl rfl ?_
 refine aq (am rfl) rfl rfl ?_
 refine ar rfl rfl rfl rfl ?_
 refine ar rfl rfl rfl rfl ?_
 refine ar rfl rfl rfl rfl ?_
 refine aq (aF rfl rfl) rfl rfl ?_
 refine aq (am rfl) rfl rfl ?_
 refine ar rfl rfl rfl rfl ?_
 refine ar rfl rfl rfl rfl ?_
 refine ar rfl rfl rfl rfl ?_
 refine aq (aF rfl rfl) rfl rfl ?_
 refine aq (ai rfl) rfl rfl ?_
 refine aa ?_
 refine bj ?_
 refine aj ?_
 refine ap ?_
 refine ap ?_
 refine ae ?_
 refine aq (am rfl) rfl rfl ?_
 refine aq (bS rfl) rfl rfl ?_
 refine aa ?_
 refine aj ?_
 refine aA rfl ?_
 refine ap ?_
 refine ae ?_
 refine aq (ai rfl) rfl rfl ?_
 refine aa ?_
 refine aj ?_
 refine aN ?_
 refine ax ?_
 refine aR (ts := [2]) rfl rfl rfl (fun w hw => ?_)
 have hpo : cU e.ports = true := di (fun i hi => hI.2 i (by omega)) (by omega)
 have hm : aO e = false := by
   focus first
     | (exfalso; omega)
     | (simp [aO, aP, *]
        done)
     | (have r1 : 1 ≤ e.addrs.length := by omega
        have r2 : e.addrs.length ≤ 8 := by omega
        have r3 : ¬ e.addrs = [] := by
          intro h; rw [h] at r1; simp at r1
        simp [aO, aP, *]
        done)
     | (have r1 : ¬ 1 ≤ e.addrs.length := by omega
        have r3 : e.addrs = [] := List.length_eq_zero_iff.1 (by omega)
        simp [aO, aP, *]
        done)
     | (have r1 : 1 ≤ e.addrs.length := by omega
        have r2 : ¬ e.addrs.length ≤ 8 := by omega
        simp [aO, aP, *]
        done)
     | (have q0 : e.addrs = [] := List.length_eq_zero_iff.1 (by omega)
        simp [aO, aP, *]
        done)
     | (have q0 : ¬ e.addrs = [] := by
          intro h; have h9 := congrArg List.length h; rw [List.length_nil] at h9; omega
        simp [aO, aP, *]
        done)
     | (have q0 : e.addrs = [] := List.length_eq_zero_iff.1 (by omega)
        have q1 : e.ports = [] := List.length_eq_zero_iff.1 (by omega)
        simp [aO, aP, *]
        done)
     | (have q0 : e.addrs = [] := List.length_eq_zero_iff.1 (by omega)
        have q1 : ¬ e.ports = [] := by
          intro h; have h9 := congrArg List.length h; rw [List.length_nil] at h9; omega
        simp [aO, aP, *]
        done)
     | (trace_state; fail)
 exact ⟨(), by rw [cg h2_1 (.inr (.inr (.inr hm)))]; rfl, hw.base, (hw.weak (List.nil_sublist _) (fun s hs => hs)).toNews⟩
 refine aq (am rfl) rfl rfl ?_
 refine ar rfl rfl rfl rfl ?_
 refine ar rfl rfl rfl rfl ?_
 refine ar rfl rfl rfl rfl ?_
 refine ar rfl rfl rfl rfl ?_
 refine aq (aF rfl rfl) rfl rfl ?_
 refine aq (am rfl) rfl rfl ?_
 refine ar rfl rfl rfl rfl ?_
 refine ar rfl rfl rfl rfl ?_
 refine ar rfl rfl rfl rfl ?_
 refine ar rfl rfl rfl rfl ?_
 refine aq (aF rfl rfl) rfl rfl ?_
 refine aq (am rfl) rfl rfl ?_
 refine ar rfl rfl rfl rfl ?_
 refine ar rfl rfl rfl rfl ?_
 refine ar rfl rfl rfl rfl ?_
 refine aq (aF rfl rfl) rfl rfl ?_
 refine aq (am rfl) rfl rfl ?_
 refine ar rfl rfl rfl rfl ?_
 refine ar rfl rfl rfl rfl ?_
 refine ar rfl rfl rfl rfl ?_
 refine aq (aF rfl rfl) rfl rfl ?_
 refine aq (ai rfl) rfl rfl ?_
 refine aa ?_
 refine bj ?_
 refine aj ?_
 refine ap ?_
 refine ap ?_
 refine ae ?_
 refine aq (am rfl) rfl rfl ?_
 refine aq (bS rfl) rfl rfl ?_
 refine aa ?_
 refine aj ?_
 refine aA rfl ?_
 refine ap ?_
 refine ae ?_
 refine aq (ai rfl) rfl rfl ?_
 refine aa ?_
 refine aj ?_
 refine aN ?_
 refine ax ?_
 refine aR (ts := [2]) rfl rfl rfl (fun w hw => ?_)
 have hpo : cU e.ports = true := di (fun i hi => hI.2 i (by omega)) (by omega)
 have hm : aO e = false := by
   focus first
     | (exfalso; omega)
     | (simp [aO, aP, *]
        done)
     | (have r1 : 1 ≤ e.addrs.length := by omega
        have r2 : e.addrs.length ≤ 8 := by omega
        have r3 : ¬ e.addrs = [] := by
          intro h; rw [h] at r1; simp at r1
        simp [aO, aP, *]
        done)
     | (have r1 : ¬ 1 ≤ e.addrs.length := by omega
        have r3 : e.addrs = [] := List.length_eq_zero_iff.1 (by omega)
        simp [aO, aP, *]
        done)
     | (have r1 : 1 ≤ e.addrs.length := by omega
        have r2 : ¬ e.addrs.length ≤ 8 := by omega
        simp [aO, aP, *]
        done)
     | (have q0 : e.addrs = [] := List.length_eq_zero_iff.1 (by omega)
        simp [aO, aP, *]
        done)
     | (have q0 : ¬ e.addrs = [] := by
          intro h; have h9 := congrArg List.length h; rw [List.length_nil] at h9; omega
        simp [aO, aP, *]
        done)
     | (have q0 : e.addrs = [] := List.length_eq_zero_iff.1 (by omega)
        have q1 : e.ports = [] := List.length_eq_zero_iff.1 (by omega)
        simp [aO, aP, *]
        done)
     | (have q0 : e.addrs = [] := List.length_eq_zero_iff.1 (by omega)
        have q1 : ¬ e.ports = [] := by
          intro h; have h9 := congrArg List.length h; rw [List.length_nil] at h9; omega
        simp [aO, aP, *]
        done)
     | (trace_state; fail)
 exact ⟨(), by rw [cg h2_1 (.inr (.inr (.inr hm)))]; rfl, hw.base, (hw.weak (List.nil_sublist _) (fun s hs => hs)).toNews⟩
 refine aq (ai rfl) rfl rfl ?_
 refine aa ?_
 refine aj ?_
 refine aD rfl ?_
 refine ap ?_
 refine ae ?_
 refine aq (cY rfl rfl) rfl rfl ?_
 refine ay (t := 96) rfl (fun h15_0 => ?_) (fun h15_0 => ?_)
 refine aq (ai rfl) rfl rfl ?_
 refine aa ?_
 refine aj ?_
 refine aA rfl ?_
 refine ae ?_
 refine aq (aB fx rfl) rfl rfl ?_
 refine aq (aC 0 cI rfl rfl rfl) rfl rfl ?_
 refine bD rfl ent_194 (gJ _) rfl ?_
 refine aq (cY rfl rfl) rfl rfl ?_
 refine ay (t := 100) rfl (fun h16_3 => ?_) (fun h16_3 => ?_)
 refine aq (am rfl) rfl rfl ?_
 refine au rfl rfl ?_
 refine aq (aB du rfl) rfl rfl ?_
 refine au rfl rfl ?_
 refine aq (aC 0 eF rfl rfl rfl) rfl rfl ?_
 refine au rfl rfl ?_
 refine aq (bg Tryz.underlying30 rfl) rfl rfl ?_
 refine au rfl rfl ?_
 refine aq (cY rfl rfl) rfl rfl ?_
 refine ay (t := 105) rfl (fun h16_8 => ?_) (fun h16_8 => ?_)
 refine aq (aH rfl rfl) rfl rfl ?_
 refine aq (am rfl) rfl rfl ?_
 refine au rfl rfl ?_
 refine aq (aB ez rfl) rfl rfl ?_
 refine au rfl rfl ?_
 refine aq (aC 0 bE rfl rfl rfl) rfl rfl ?_
 refine au rfl rfl ?_
 refine aq (eK rfl rfl) rfl rfl ?_
 refine ay (t := 110) rfl (fun h16_13 => ?_) (fun h16_13 => ?_)
 refine aq (aH rfl rfl) rfl rfl ?_
 refine aq (ai rfl) rfl rfl ?_
 refine aa ?_
 refine bj ?_
 refine aj ?_
 refine ap ?_
 refine ap ?_
 refine ae ?_
 refine aq (am rfl) rfl rfl ?_
 refine aq (bS rfl) rfl rfl ?_
 refine aa ?_
 refine aj ?_
 refine aD rfl ?_
 refine aQ ?_
 refine aj ?_
 refine ap ?_
 refine ae ?_
 refine aq (ai rfl) rfl rfl ?_
 refine aa ?_
 refine aj ?_
 refine aN ?_
 refine aR (ts := [2]) rfl rfl rfl (fun w hw => ?_)
 have hpo : cU e.ports = true := di (fun i hi => hI.2 i (by omega)) (by omega)
 have hm : aO e = true := by
   focus first
     | (exfalso; omega)
     | (simp [aO, aP, *]
        done)
     | (have r1 : 1 ≤ e.addrs.length := by omega
        have r2 : e.addrs.length ≤ 8 := by omega
        have r3 : ¬ e.addrs = [] := by
          intro h; rw [h] at r1; simp at r1
        simp [aO, aP, *]
        done)
     | (have r1 : ¬ 1 ≤ e.addrs.length := by omega
        have r3 : e.addrs = [] := List.length_eq_zero_iff.1 (by omega)
        simp [aO, aP, *]
        done)
     | (have r1 : 1 ≤ e.addrs.length := by omega
        have r2 : ¬ e.addrs.length ≤ 8 := by omega
        simp [aO, aP, *]
        done)
     | (have q0 : e.addrs = [] := List.length_eq_zero_iff.1 (by omega)
        simp [aO, aP, *]
        done)
     | (have q0 : ¬ e.addrs = [] := by
          intro h; have h9 := congrArg List.length h; rw [List.length_nil] at h9; omega
        simp [aO, aP, *]
        done)
     | (have q0 : e.addrs = [] := List.length_eq_zero_iff.1 (by omega)
        have q1 : e.ports = [] := List.length_eq_zero_iff.1 (by omega)
        simp [aO, aP, *]
        done)
     | (have q0 : e.addrs = [] := List.length_eq_zero_iff.1 (by omega)
        have q1 : ¬ e.ports = [] := by
          intro h; have h9 := congrArg List.length h; rw [List.length_nil] at h9; omega
        simp [aO, aP, *]
        done)
     | (trace_state; fail)
 exact ⟨(), by rw [ent_good h2_1 h4_2 h4_6 hpo hm]; rfl, hw.base, (hw.weak (List.nil_sublist _) (fun s hs => hs)).toNews⟩
 refine aq (aH rfl rfl) rfl rfl ?_
 refine aq (ai rfl) rfl rfl ?_
 refine aa ?_
 refine bj ?_
 refine aj ?_
 refine ap ?_
 refine ap ?_
 refine ae ?_
 refine aq (am rfl) rfl rfl ?_
 refine aq (bS rfl) rfl rfl ?_
 refine aa ?_
 refine aj ?_
 refine aA rfl ?_
 refine ap ?_
 refine ae ?_
 refine aq (ai rfl) rfl rfl ?_
 refine aa ?_
 refine aj ?_
 refine aN ?_
 refine ax ?_
 refine aR (ts := [2]) rfl rfl rfl (fun w hw => ?_)
 have hpo : cU e.ports = true := di (fun i hi => hI.2 i (by omega)) (by omega)
 have hm : aO e = false := by
   focus first
     | (exfalso; omega)
     | (simp [aO, aP, *]
        done)
     | (have r1 : 1 ≤ e.addrs.length := by omega
        have r2 : e.addrs.length ≤ 8 := by omega
        have r3 : ¬ e.addrs = [] := by
          intro h; rw [h] at r1; simp at r1
        simp [aO, aP, *]
        done)
     | (have r1 : ¬ 1 ≤ e.addrs.length := by omega
        have r3 : e.addrs = [] := List.length_eq_zero_iff.1 (by omega)
        simp [aO, aP, *]
        done)
     | (have r1 : 1 ≤ e.addrs.length := by omega
        have r2 : ¬ e.addrs.length ≤ 8 := by omega
        simp [aO, aP, *]
        done)
     | (have q0 : e.addrs = [] := List.length_eq_zero_iff.1 (by omega)
        simp [aO, aP, *]
        done)
     | (have q0 : ¬ e.addrs = [] := by
          intro h; have h9 := congrArg List.length h; rw [List.length_nil] at h9; omega
        simp [aO, aP, *]
        done)
     | (have q0 : e.addrs = [] := List.length_eq_zero_iff.1 (by omega)
        have q1 : e.ports = [] := List.length_eq_zero_iff.1 (by omega)
        simp [aO, aP, *]
        done)
     | (have q0 : e.addrs = [] := List.length_eq_zero_iff.1 (by omega)
        have q1 : ¬ e.ports = [] := by
          intro h; have h9 := congrArg List.length h; rw [List.length_nil] at h9; omega
        simp [aO, aP, *]
        done)
     | (trace_state; fail)
 exact ⟨(), by rw [cg h2_1 (.inr (.inr (.inr hm)))]; rfl, hw.base, (hw.weak (List.nil_sublist _) (fun s hs => hs)).toNews⟩
 refine aq (aH rfl rfl) rfl rfl ?_
 refine aq (am rfl) rfl rfl ?_
 refine ar rfl rfl rfl rfl ?_
 refine ar rfl rfl rfl rfl ?_
 refine ar rfl rfl rfl rfl ?_
 refine aq (aF rfl rfl) rfl rfl ?_
 refine aq (ai rfl) rfl rfl ?_
 refine aa ?_
 refine bj ?_
 refine aj ?_
 refine ap ?_
 refine ap ?_
 refine ae ?_
 refine aq (am rfl) rfl rfl ?_
 refine aq (bS rfl) rfl rfl ?_
 refine aa ?_
 refine aj ?_
 refine aA rfl ?_
 refine ap ?_
 refine ae ?_
 refine aq (ai rfl) rfl rfl ?_
 refine aa ?_
 refine aj ?_
 refine aN ?_
 refine ax ?_
 refine aR (ts := [2]) rfl rfl rfl (fun w hw => ?_)
 have hpo : cU e.ports = true := di (fun i hi => hI.2 i (by omega)) (by omega)
 have hm : aO e = false := by
   focus first
     | (exfalso; omega)
     | (simp [aO, aP, *]
        done)
     | (have r1 : 1 ≤ e.addrs.length := by omega
        have r2 : e.addrs.length ≤ 8 := by omega
        have r3 : ¬ e.addrs = [] := by
          intro h; rw [h] at r1; simp at r1
        simp [aO, aP, *]
        done)
     | (have r1 : ¬ 1 ≤ e.addrs.length := by omega
        have r3 : e.addrs = [] := List.length_eq_zero_iff.1 (by omega)
        simp [aO, aP, *]
        done)
     | (have r1 : 1 ≤ e.addrs.length := by omega
        have r2 : ¬ e.addrs.length ≤ 8 := by omega
        simp [aO, aP, *]
        done)
     | (have q0 : e.addrs = [] := List.length_eq_zero_iff.1 (by omega)
        simp [aO, aP, *]
        done)
     | (have q0 : ¬ e.addrs = [] := by
          intro h; have h9 := congrArg List.length h; rw [List.length_nil] at h9; omega
        simp [aO, aP, *]
        done)
     | (have q0 : e.addrs = [] := List.length_eq_zero_iff.1 (by omega)
        have q1 : e.ports = [] := List.length_eq_zero_iff.1 (by omega)
        simp [aO, aP, *]
        done)
     | (have q0 : e.addrs = [] := List.length_eq_zero_iff.1 (by omega)
        have q1 : ¬ e.ports = [] := by
          intro h; have h9 := congrArg List.length h; rw [List.length_nil] at h9; omega
        simp [aO, aP, *]
        done)
     | (trace_state; fail)
 exact ⟨(), by rw [cg h2_1 (.inr (.inr (.inr hm)))]; rfl, hw.base, (hw.weak (List.nil_sublist _) (fun s hs => hs)).toNews⟩
 refine aq (am rfl) rfl rfl ?_
 refine ar rfl rfl rfl rfl ?_
 refine ar rfl rfl rfl rfl ?_
 refine ar rfl rfl rfl rfl ?_
 refine ar rfl rfl rfl rfl ?_
 refine aq (aF rfl rfl) rfl rfl ?_
 refine aq (am rfl) rfl rfl ?_
 refine ar rfl rfl rfl rfl ?_
 refine ar rfl rfl rfl rfl ?_
 refine ar rfl rfl rfl rfl ?_
 refine aq (aF rfl rfl) rfl rfl ?_
 refine aq (ai rfl) rfl rfl ?_
 refine aa ?_
 refine bj ?_
 refine aj ?_
 refine ap ?_
 refine ap ?_
 refine ae ?_
 refine aq (am rfl) rfl rfl ?_
 refine aq (bS rfl) rfl rfl ?_
 refine aa ?_
 refine aj ?_
 refine aA rfl ?_
 refine ap ?_
 refine ae ?_
 refine aq (ai rfl) rfl rfl ?_
 refine aa ?_
 refine aj ?_
 refine aN ?_
 refine ax ?_
 refine aR (ts := [2]) rfl rfl rfl (fun w hw => ?_)
 have hpo : cU e.ports = true := di (fun i hi => hI.2 i (by omega)) (by omega)
 have hm : aO e = false := by
   focus first
     | (exfalso; omega)
     | (simp [aO, aP, *]
        done)
     | (have r1 : 1 ≤ e.addrs.length := by omega
        have r2 : e.addrs.length ≤ 8 := by omega
        have r3 : ¬ e.addrs = [] := by
          intro h; rw [h] at r1; simp at r1
        simp [aO, aP, *]
        done)
     | (have r1 : ¬ 1 ≤ e.addrs.length := by omega
        have r3 : e.addrs = [] := List.length_eq_zero_iff.1 (by omega)
        simp [aO, aP, *]
        done)
     | (have r1 : 1 ≤ e.addrs.length := by omega
        have r2 : ¬ e.addrs.length ≤ 8 := by omega
        simp [aO, aP, *]
        done)
     | (have q0 : e.addrs = [] := List.length_eq_zero_iff.1 (by omega)
        simp [aO, aP, *]
        done)
     | (have q0 : ¬ e.addrs = [] := by
          intro h; have h9 := congrArg List.length h; rw [List.length_nil] at h9; omega
        simp [aO, aP, *]
        done)
     | (have q0 : e.addrs = [] := List.length_eq_zero_iff.1 (by omega)
        have q1 : e.ports = [] := List.length_eq_zero_iff.1 (by omega)
        simp [aO, aP, *]
        done)
     | (have q0 : e.addrs = [] := List.length_eq_zero_iff.1 (by omega)
        have q1 : ¬ e.ports = [] := by
          intro h; have h9 := congrArg List.length h; rw [List.length_nil] at h9; omega
        simp [aO, aP, *]
        done)
     | (trace_state; fail)
 exact ⟨(), by rw [cg h2_1 (.inr (.inr (.inr hm)))]; rfl, hw.base, (hw.weak (List.nil_sublist _) (fun s hs => hs)).toNews⟩
 refine aq (ai rfl) rfl rfl ?_
 refine aa ?_
 refine aj ?_
 refine aD rfl ?_
 refine ap ?_
 refine ae ?_
 refine aq (cY rfl rfl) rfl rfl ?_
 refine ay (t := 113) rfl (fun h17_0 => ?_) (fun h17_0 => ?_)
 refine aq (ai rfl) rfl rfl ?_
 refine aa ?_
 refine aj ?_
 refine aA rfl ?_
 refine ae ?_
 refine aq (aB fx rfl) rfl rfl ?_
 refine aq (aC 0 cI rfl rfl rfl) rfl rfl ?_
 refine aq (eK rfl rfl) rfl rfl ?_
 refine ay (t := 116) rfl (fun h18_2 => ?_) (fun h18_2 => ?_)
 refine aq (am rfl) rfl rfl ?_
 refine au rfl rfl ?_
 refine aq (aB du rfl) rfl rfl ?_
 refine au rfl rfl ?_
 refine aq (aC 0 eF rfl rfl rfl) rfl rfl ?_
 refine au rfl rfl ?_
 refine aq (bg Tryz.underlying30 rfl) rfl rfl ?_
 refine au rfl rfl ?_
 refine aq (cY rfl rfl) rfl rfl ?_
 refine ay (t := 121) rfl (fun h18_7 => ?_) (fun h18_7 => ?_)
 refine aq (aH rfl rfl) rfl rfl ?_
 refine aq (am rfl) rfl rfl ?_
 refine au rfl rfl ?_
 refine aq (aB ez rfl) rfl rfl ?_
 refine au rfl rfl ?_
 refine aq (aC 0 bE rfl rfl rfl) rfl rfl ?_
 refine au rfl rfl ?_
 refine bD rfl gz (dV _) rfl ?_
 refine au rfl rfl ?_
 refine aq (cY rfl rfl) rfl rfl ?_
 refine ay (t := 127) rfl (fun h18_13 => ?_) (fun h18_13 => ?_)
 refine aq (aH rfl rfl) rfl rfl ?_
 refine aq (am rfl) rfl rfl ?_
 refine au rfl rfl ?_
 refine aq (aB ez rfl) rfl rfl ?_
 refine au rfl rfl ?_
 refine aq (aC 0 bE rfl rfl rfl) rfl rfl ?_
 refine au rfl rfl ?_
 refine aq (ju rfl rfl) rfl rfl ?_
 refine ay (t := 132) rfl (fun h18_18 => ?_) (fun h18_18 => ?_)
 refine aq (aH rfl rfl) rfl rfl ?_
 refine aq (am rfl) rfl rfl ?_
 refine au rfl rfl ?_
 refine aq (aB ez rfl) rfl rfl ?_
 refine au rfl rfl ?_
 refine aq (aC 0 bE rfl rfl rfl) rfl rfl ?_
 refine au rfl rfl ?_
 refine bD rfl ent_151 (c_ref02_Wild _) rfl ?_
 refine bN (t := 137) rfl (fun h18_23 => ?_) (fun h18_23 => ?_)
 refine au rfl rfl ?_
 refine aq (bS rfl) rfl rfl ?_
 refine aq (aH rfl rfl) rfl rfl ?_
 refine aq (am rfl) rfl rfl ?_
 refine ar rfl rfl rfl rfl ?_
 refine ar rfl rfl rfl rfl ?_
 refine ar rfl rfl rfl rfl ?_
 refine ar rfl rfl rfl rfl ?_
 refine aq (aF rfl rfl) rfl rfl ?_
 refine aq (ai rfl) rfl rfl ?_
 refine aa ?_
 refine bj ?_
 refine aj ?_
 refine ap ?_
 refine ap ?_
 refine ae ?_
 refine aq (am rfl) rfl rfl ?_
 refine aq (bS rfl) rfl rfl ?_
 refine aa ?_
 refine aj ?_
 refine aA rfl ?_
 refine ap ?_
 refine ae ?_
 refine aq (ai rfl) rfl rfl ?_
 refine aa ?_
 refine aj ?_
 refine aN ?_
 refine ax ?_
 refine aR (ts := [2]) rfl rfl rfl (fun w hw => ?_)
 have hpo : cU e.ports = true := di (fun i hi => hI.2 i (by omega)) (by omega)
 have hm : aO e = false := by
   focus first
     | (exfalso; omega)
     | (simp [aO, aP, *]
        done)
     | (have r1 : 1 ≤ e.addrs.length := by omega
        have r2 : e.addrs.length ≤ 8 := by omega
        have r3 : ¬ e.addrs = [] := by
          intro h; rw [h] at r1; simp at r1
        simp [aO, aP, *]
        done)
     | (have r1 : ¬ 1 ≤ e.addrs.length := by omega
        have r3 : e.addrs = [] := List.length_eq_zero_iff.1 (by omega)
        simp [aO, aP, *]
        done)
     | (have r1 : 1 ≤ e.addrs.length := by omega
        have r2 : ¬ e.addrs.length ≤ 8 := by omega
        simp [aO, aP, *]
        done)
     | (have q0 : e.addrs = [] := List.length_eq_zero_iff.1 (by omega)
        simp [aO, aP, *]
        done)
     | (have q0 : ¬ e.addrs = [] := by
          intro h; have h9 := congrArg List.length h; rw [List.length_nil] at h9; omega
        simp [aO, aP, *]
        done)
     | (have q0 : e.addrs = [] := List.length_eq_zero_iff.1 (by omega)
        have q1 : e.ports = [] := List.length_eq_zero_iff.1 (by omega)
        simp [aO, aP, *]
        done)
     | (have q0 : e.addrs = [] := List.length_eq_zero_iff.1 (by omega)
        have q1 : ¬ e.ports = [] := by
          intro h; have h9 := congrArg List.length h; rw [List.length_nil] at h9; omega
        simp [aO, aP, *]
        done)
     | (trace_state; fail)
 exact ⟨(), by rw [cg h2_1 (.inr (.inr (.inr hm)))]; rfl, hw.base, (hw.weak (List.nil_sublist _) (fun s hs => hs)).toNews⟩
 refine au rfl rfl ?_
 refine aq (bS rfl) rfl rfl ?_
 refine aq (aH rfl rfl) rfl rfl ?_
 refine aq (am rfl) rfl rfl ?_
 refine au rfl rfl ?_
 refine aq (aB dy rfl) rfl rfl ?_
 refine au rfl rfl ?_
 refine aq (aC 0 eN rfl rfl rfl) rfl rfl ?_
 refine au rfl rfl ?_
 refine aq (bg Tryz.underlying31 rfl) rfl rfl ?_
 refine au rfl rfl ?_
 refine aq (cY rfl rfl) rfl rfl ?_
 refine ay (t := 144) rfl (fun h18_30 => ?_) (fun h18_30 => ?_)
 refine aq (aH rfl rfl) rfl rfl ?_
 refine aq (ai rfl) rfl rfl ?_
 refine aa ?_
 refine bj ?_
 refine aj ?_
 refine ap ?_
 refine ap ?_
 refine ae ?_
 refine aq (am rfl) rfl rfl ?_
 refine aq (bS rfl) rfl rfl ?_
 refine aa ?_
 refine aj ?_
 refine aD rfl ?_
 refine aQ ?_
 refine aj ?_
 refine ap ?_
 refine ae ?_
 refine aq (ai rfl) rfl rfl ?_
 refine aa ?_
 refine aj ?_
 refine aN ?_
 refine aR (ts := [2]) rfl rfl rfl (fun w hw => ?_)
 have hpo : cU e.ports = true := di (fun i hi => hI.2 i (by omega)) (by omega)
 have hm : aO e = true := by
   focus first
     | (exfalso; omega)
     | (simp [aO, aP, *]
        done)
     | (have r1 : 1 ≤ e.addrs.length := by omega
        have r2 : e.addrs.length ≤ 8 := by omega
        have r3 : ¬ e.addrs = [] := by
          intro h; rw [h] at r1; simp at r1
        simp [aO, aP, *]
        done)
     | (have r1 : ¬ 1 ≤ e.addrs.length := by omega
        have r3 : e.addrs = [] := List.length_eq_zero_iff.1 (by omega)
        simp [aO, aP, *]
        done)
     | (have r1 : 1 ≤ e.addrs.length := by omega
        have r2 : ¬ e.addrs.length ≤ 8 := by omega
        simp [aO, aP, *]
        done)
     | (have q0 : e.addrs = [] := List.length_eq_zero_iff.1 (by omega)
        simp [aO, aP, *]
        done)
     | (have q0 : ¬ e.addrs = [] := by
          intro h; have h9 := congrArg List.length h; rw [List.length_nil] at h9; omega
        simp [aO, aP, *]
        done)
     | (have q0 : e.addrs = [] := List.length_eq_zero_iff.1 (by omega)
        have q1 : e.ports = [] := List.length_eq_zero_iff.1 (by omega)
        simp [aO, aP, *]
        done)
     | (have q0 : e.addrs = [] := List.length_eq_zero_iff.1 (by omega)
        have q1 : ¬ e.ports = [] := by
          intro h; have h9 := congrArg List.length h; rw [List.length_nil] at h9; omega
        simp [aO, aP, *]
        done)
     | (trace_state; fail)
 exact ⟨(), by rw [ent_good h2_1 h4_2 h4_6 hpo hm]; rfl, hw.base, (hw.weak (List.nil_sublist _) (fun s hs => hs)).toNews⟩
 refine aq (aH rfl rfl) rfl rfl ?_
 refine aq (ai rfl) rfl rfl ?_
 refine aa ?_
 refine bj ?_
 refine aj ?_
 refine ap ?_
 refine ap ?_
 refine ae ?_
 refine aq (am rfl) rfl rfl ?_
 refine aq (bS rfl) rfl rfl ?_
 refine aa ?_
 refine aj ?_
 refine aA rfl ?_
 refine ap ?_
 refine ae ?_
 refine aq (ai rfl) rfl rfl ?_
 refine aa ?_
 refine aj ?_
 refine aN ?_
 refine ax ?_
 refine aR (ts := [2]) rfl rfl rfl (fun w hw => ?_)
 have hpo : cU e.ports = true := di (fun i hi => hI.2 i (by omega)) (by omega)
 have hm : aO e = false := by
   focus first
     | (exfalso; omega)
     | (simp [aO, aP, *]
        done)
     | (have r1 : 1 ≤ e.addrs.length := by omega
        have r2 : e.addrs.length ≤ 8 := by omega
        have r3 : ¬ e.addrs = [] := by
          intro h; rw [h] at r1; simp at r1
        simp [aO, aP, *]
        done)
     | (have r1 : ¬ 1 ≤ e.addrs.length := by omega
        have r3 : e.addrs = [] := List.length_eq_zero_iff.1 (by omega)
        simp [aO, aP, *]
        done)
     | (have r1 : 1 ≤ e.addrs.length := by omega
        have r2 : ¬ e.addrs.length ≤ 8 := by omega
        simp [aO, aP, *]
        done)
     | (have q0 : e.addrs = [] := List.length_eq_zero_iff.1 (by omega)
        simp [aO, aP, *]
        done)
     | (have q0 : ¬ e.addrs = [] := by
          intro h; have h9 := congrArg List.length h; rw [List.length_nil] at h9; omega
        simp [aO, aP, *]
        done)
     | (have q0 : e.addrs = [] := List.length_eq_zero_iff.1 (by omega)
        have q1 : e.ports = [] := List.length_eq_zero_iff.1 (by omega)
        simp [aO, aP, *]
        done)
     | (have q0 : e.addrs = [] := List.length_eq_zero_iff.1 (by omega)
        have q1 : ¬ e.ports = [] := by
          intro h; have h9 := congrArg List.length h; rw [List.length_nil] at h9; omega
        simp [aO, aP, *]
        done)
     | (trace_state; fail)
 exact ⟨(), by rw [cg h2_1 (.inr (.inr (.inr hm)))]; rfl, hw.base, (hw.weak (List.nil_sublist _) (fun s hs => hs)).toNews⟩
 refine aq (aH rfl rfl) rfl rfl ?_
 refine aq (am rfl) rfl rfl ?_
 refine ar rfl rfl rfl rfl ?_
 refine ar rfl rfl rfl rfl ?_
 refine ar rfl rfl rfl rfl ?_
 refine ar rfl rfl rfl rfl ?_
 refine aq (aF rfl rfl) rfl rfl ?_
 refine aq (am rfl) rfl rfl ?_
 refine ar rfl rfl rfl rfl ?_
 refine ar rfl rfl rfl rfl ?_
 refine ar rfl rfl rfl rfl ?_
 refine ar rfl rfl rfl rfl ?_
 refine aq (aF rfl rfl) rfl rfl ?_
 refine aq (ai rfl) rfl rfl ?_
 refine aa ?_
 refine bj ?_
 refine aj ?_
 refine ap ?_
 refine ap ?_
 refine ae ?_
 refine aq (am rfl) rfl rfl ?_
 refine aq (bS rfl) rfl rfl ?_
 refine aa ?_
 refine aj ?_
 refine aA rfl ?_
 refine ap ?_
 refine ae ?_
 refine aq (ai rfl) rfl rfl ?_
 refine aa ?_
 refine aj ?_
 refine aN ?_
 refine ax ?_
 refine aR (ts := [2]) rfl rfl rfl (fun w hw => ?_)
 have hpo : cU e.ports = true := di (fun i hi => hI.2 i (by omega)) (by omega)
 have hm : aO e = false := by
   focus first
     | (exfalso; omega)
     | (simp [aO, aP, *]
        done)
     | (have r1 : 1 ≤ e.addrs.length := by omega
        have r2 : e.addrs.length ≤ 8 := by omega
        have r3 : ¬ e.addrs = [] := by
          intro h; rw [h] at r1; simp at r1
        simp [aO, aP, *]
        done)
     | (have r1 : ¬ 1 ≤ e.addrs.length := by omega
        have r3 : e.addrs = [] := List.length_eq_zero_iff.1 (by omega)
        simp [aO, aP, *]
        done)
     | (have r1 : 1 ≤ e.addrs.length := by omega
        have r2 : ¬ e.addrs.length ≤ 8 := by omega
        simp [aO, aP, *]
        done)
     | (have q0 : e.addrs = [] := List.length_eq_zero_iff.1 (by omega)
        simp [aO, aP, *]
        done)
     | (have q0 : ¬ e.addrs = [] := by
          intro h; have h9 := congrArg List.length h; rw [List.length_nil] at h9; omega
        simp [aO, aP, *]
        done)
     | (have q0 : e.addrs = [] := List.length_eq_zero_iff.1 (by omega)
        have q1 : e.ports = [] := List.length_eq_zero_iff.1 (by omega)
        simp [aO, aP, *]
        done)
     | (have q0 : e.addrs = [] := List.length_eq_zero_iff.1 (by omega)
        have q1 : ¬ e.ports = [] := by
          intro h; have h9 := congrArg List.length h; rw [List.length_nil] at h9; omega
        simp [aO, aP, *]
        done)
     | (trace_state; fail)
 exact ⟨(), by rw [cg h2_1 (.inr (.inr (.inr hm)))]; rfl, hw.base, (hw.weak (List.nil_sublist _) (fun s hs => hs)).toNews⟩
 refine aq (aH rfl rfl) rfl rfl ?_
 refine aq (am rfl) rfl rfl ?_
 refine ar rfl rfl rfl rfl ?_
 refine ar rfl rfl rfl rfl ?_
 refine ar rfl rfl rfl rfl ?_
 refine aq (aF rfl rfl) rfl rfl ?_
 refine aq (am rfl) rfl rfl ?_
 refine ar rfl rfl rfl rfl ?_
 refine ar rfl rfl rfl rfl ?_
 refine ar rfl rfl rfl rfl ?_
 refine ar rfl rfl rfl rfl ?_
 refine aq (aF rfl rfl) rfl rfl ?_
 refine aq (am rfl) rfl rfl ?_
 refine ar rfl rfl rfl rfl ?_
 refine ar rfl rfl rfl rfl ?_
 refine ar rfl rfl rfl rfl ?_
 refine ar rfl rfl rfl rfl ?_
 refine aq (aF rfl rfl) rfl rfl ?_
 refine aq (ai rfl) rfl rfl ?_
 refine aa ?_
 refine bj ?_
 refine aj ?_
 refine ap ?_
 refine ap ?_
 refine ae ?_
 refine aq (am rfl) rfl rfl ?_
 refine aq (bS rfl) rfl rfl ?_
 refine aa ?_
 refine aj ?_
 refine aA rfl ?_
 refine ap ?_
 refine ae ?_
 refine aq (ai rfl) rfl rfl ?_
 refine aa ?_
 refine aj ?_
 refine aN ?_
 refine ax ?_
 refine aR (ts := [2]) rfl rfl rfl (fun w hw => ?_)
 have hpo : cU e.ports = true := di (fun i hi => hI.2 i (by omega)) (by omega)
 have hm : aO e = false := by
   focus first
     | (exfalso; omega)
     | (simp [aO, aP, *]
        done)
     | (have r1 : 1 ≤ e.addrs.length := by omega
        have r2 : e.addrs.length ≤ 8 := by omega
        have r3 : ¬ e.addrs = [] := by
          intro h; rw [h] at r1; simp at r1
        simp [aO, aP, *]
        done)
     | (have r1 : ¬ 1 ≤ e.addrs.length := by omega
        have r3 : e.addrs = [] := List.length_eq_zero_iff.1 (by omega)
        simp [aO, aP, *]
        done)
     | (have r1 : 1 ≤ e.addrs.length := by omega
        have r2 : ¬ e.addrs.length ≤ 8 := by omega
        simp [aO, aP, *]
        done)
     | (have q0 : e.addrs = [] := List.length_eq_zero_iff.1 (by omega)
        simp [aO, aP, *]
        done)
     | (have q0 : ¬ e.addrs = [] := by
          intro h; have h9 := congrArg List.length h; rw [List.length_nil] at h9; omega
        simp [aO, aP, *]
        done)
     | (have q0 : e.addrs = [] := List.length_eq_zero_iff.1 (by omega)
        have q1 : e.ports = [] := List.length_eq_zero_iff.1 (by omega)
        simp [aO, aP, *]
        done)
     | (have q0 : e.addrs = [] := List.length_eq_zero_iff.1 (by omega)
        have q1 : ¬ e.ports = [] := by
          intro h; have h9 := congrArg List.length h; rw [List.length_nil] at h9; omega
        simp [aO, aP, *]
        done)
     | (trace_state; fail)
 exact ⟨(), by rw [cg h2_1 (.inr (.inr (.inr hm)))]; rfl, hw.base, (hw.weak (List.nil_sublist _) (fun s hs => hs)).toNews⟩
 refine aq (aH rfl rfl) rfl rfl ?_
 refine aq (am rfl) rfl rfl ?_
 refine ar rfl rfl rfl rfl ?_
 refine ar rfl rfl rfl rfl ?_
 refine ar rfl rfl rfl rfl ?_
 refine ar rfl rfl rfl rfl ?_
 refine aq (aF rfl rfl) rfl rfl ?_
 refine aq (am rfl) rfl rfl ?_
 refine ar rfl rfl rfl rfl ?_
 refine ar rfl rfl rfl rfl ?_
 refine ar rfl rfl rfl rfl ?_
 refine aq (aF rfl rfl) rfl rfl ?_
 refine aq (am rfl) rfl rfl ?_
 refine ar rfl rfl rfl rfl ?_
 refine ar rfl rfl rfl rfl ?_
 refine ar rfl rfl rfl rfl ?_
 refine ar rfl rfl rfl rfl ?_
 refine aq (aF rfl rfl) rfl rfl ?_
 refine aq (am rfl) rfl rfl ?_
 refine ar rfl rfl rfl rfl ?_
 refine ar rfl rfl rfl rfl ?_
 refine ar rfl rfl rfl rfl ?_
 refine ar rfl rfl rfl rfl ?_
 refine aq (aF rfl rfl) rfl rfl ?_
 refine aq (ai rfl) rfl rfl ?_
 refine aa ?_
 refine bj ?_
 refine aj ?_
 refine ap ?_
 refine ap ?_
 refine ae ?_
 refine aq (am rfl) rfl rfl ?_
 refine aq (bS rfl) rfl rfl ?_
 refine aa ?_
 refine aj ?_
 refine aA rfl ?_
 refine ap ?_
 refine ae ?_
 refine aq (ai rfl) rfl rfl ?_
 refine aa ?_
 refine aj ?_
 refine aN ?_
 refine ax ?_
 refine aR (ts := [2]) rfl rfl rfl (fun w hw => ?_)
 have hpo : cU e.ports = true := di (fun i hi => hI.2 i (by omega)) (by omega)
 have hm : aO e = false := by
   focus first
     | (exfalso; omega)
     | (simp [aO, aP, *]
        done)
     | (have r1 : 1 ≤ e.addrs.length := by omega
        have r2 : e.addrs.length ≤ 8 := by omega
        have r3 : ¬ e.addrs = [] := by
          intro h; rw [h] at r1; simp at r1
        simp [aO, aP, *]
        done)
     | (have r1 : ¬ 1 ≤ e.addrs.length := by omega
        have r3 : e.addrs = [] := List.length_eq_zero_iff.1 (by omega)
        simp [aO, aP, *]
        done)
     | (have r1 : 1 ≤ e.addrs.length := by omega
        have r2 : ¬ e.addrs.length ≤ 8 := by omega
        simp [aO, aP, *]
        done)
     | (have q0 : e.addrs = [] := List.length_eq_zero_iff.1 (by omega)
        simp [aO, aP, *]
        done)
     | (have q0 : ¬ e.addrs = [] := by
          intro h; have h9 := congrArg List.length h; rw [List.length_nil] at h9; omega
        simp [aO, aP, *]
        done)
     | (have q0 : e.addrs = [] := List.length_eq_zero_iff.1 (by omega)
        have q1 : e.ports = [] := List.length_eq_zero_iff.1 (by omega)
        simp [aO, aP, *]
        done)
     | (have q0 : e.addrs = [] := List.length_eq_zero_iff.1 (by omega)
        have q1 : ¬ e.ports = [] := by
          intro h; have h9 := congrArg List.length h; rw [List.length_nil] at h9; omega
        simp [aO, aP, *]
        done)
     | (trace_state; fail)
 exact ⟨(), by rw [cg h2_1 (.inr (.inr (.inr hm)))]; rfl, hw.base, (hw.weak (List.nil_sublist _) (fun s hs => hs)).toNews⟩
 refine aq (am rfl) rfl rfl ?_
 refine ar rfl rfl rfl rfl ?_
 refine ar rfl rfl rfl rfl ?_
 refine ar rfl rfl rfl rfl ?_
 refine ar rfl rfl rfl rfl ?_
 refine aq (aF rfl rfl) rfl rfl ?_
 refine aq (am rfl) rfl rfl ?_
 refine ar rfl rfl rfl rfl ?_
 refine ar rfl rfl rfl rfl ?_
 refine ar rfl rfl rfl rfl ?_
 refine ar rfl rfl rfl rfl ?_
 refine aq (aF rfl rfl) rfl rfl ?_
 refine aq (am rfl) rfl rfl ?_
 refine ar rfl rfl rfl rfl ?_
 refine ar rfl rfl rfl rfl ?_
 refine ar rfl rfl rfl rfl ?_
 refine aq (aF rfl rfl) rfl rfl ?_
 refine aq (am rfl) rfl rfl ?_
 refine ar rfl rfl rfl rfl ?_
 refine ar rfl rfl rfl rfl ?_
 refine ar rfl rfl rfl rfl ?_
 refine ar rfl rfl rfl rfl ?_
 refine aq (aF rfl rfl) rfl rfl ?_
 refine aq (am rfl) rfl rfl ?_
 refine ar rfl rfl rfl rfl ?_
 refine ar rfl rfl rfl rfl ?_
 refine ar rfl rfl rfl rfl ?_
 refine ar rfl rfl rfl rfl ?_
 refine aq (aF rfl rfl) rfl rfl ?_
 refine aq (ai rfl) rfl rfl ?_
 refine aa ?_
 refine bj ?_
 refine aj ?_
 refine ap ?_
 refine ap ?_
 refine ae ?_
 refine aq (am rfl) rfl rfl ?_
 refine aq (bS rfl) rfl rfl ?_
 refine aa ?_
 refine aj ?_
 refine aA rfl ?_
 refine ap ?_
 refine ae ?_
 refine aq (ai rfl) rfl rfl ?_
 refine aa ?_
 refine aj ?_
 refine aN ?_
 refine ax ?_
 refine aR (ts := [2]) rfl rfl rfl (fun w hw => ?_)
 have hpo : cU e.ports = true := di (fun i hi => hI.2 i (by omega)) (by omega)
 have hm : aO e = false := by
   focus first
     | (exfalso; omega)
     | (simp [aO, aP, *]
        done)
     | (have r1 : 1 ≤ e.addrs.length := by omega
        have r2 : e.addrs.length ≤ 8 := by omega
        have r3 : ¬ e.addrs = [] := by
          intro h; rw [h] at r1; simp at r1
        simp [aO, aP, *]
        done)
     | (have r1 : ¬ 1 ≤ e.addrs.length := by omega
        have r3 : e.addrs = [] := List.length_eq_zero_iff.1 (by omega)
        simp [aO, aP, *]
        done)
     | (have r1 : 1 ≤ e.addrs.length := by omega
        have r2 : ¬ e.addrs.length ≤ 8 := by omega
        simp [aO, aP, *]
        done)
     | (have q0 : e.addrs = [] := List.length_eq_zero_iff.1 (by omega)
        simp [aO, aP, *]
        done)
     | (have q0 : ¬ e.addrs = [] := by
          intro h; have h9 := congrArg List.length h; rw [List.length_nil] at h9; omega
        simp [aO, aP, *]
        done)
     | (have q0 : e.addrs = [] := List.length_eq_zero_iff.1 (by omega)
        have q1 : e.ports = [] := List.length_eq_zero_iff.1 (by omega)
        simp [aO, aP, *]
        done)
     | (have q0 : e.addrs = [] := List.length_eq_zero_iff.1 (by omega)
        have q1 : ¬ e.ports = [] := by
          intro h; have h9 := congrArg List.length h; rw [List.length_nil] at h9; omega
        simp [aO, aP, *]
        done)
     | (trace_state; fail)
 exact ⟨(), by rw [cg h2_1 (.inr (.inr (.inr hm)))]; rfl, hw.base, (hw.weak (List.nil_sublist _) (fun s hs => hs)).toNews⟩
 refine aq (ai rfl) rfl rfl ?_
 refine aa ?_
 refine aj ?_
 refine aD rfl ?_
 refine aQ ?_
 refine bj ?_
 refine aj ?_
 refine ap ?_
 refine ap ?_
 refine ae ?_
 refine aq (am rfl) rfl rfl ?_
 refine aq (bS rfl) rfl rfl ?_
 refine aa ?_
 refine aj ?_
 refine aA rfl ?_
 refine ap ?_
 refine ae ?_
 refine aq (ai rfl) rfl rfl ?_
 refine aa ?_
 refine aj ?_
 refine aN ?_
 refine ax ?_
 refine aR (ts := [2]) rfl rfl rfl (fun w hw => ?_)
 have hpo : cU e.ports = true := di (fun i hi => hI.2 i (by omega)) (by omega)
 have hm : aO e = false := by
   focus first
     | (exfalso; omega)
     | (simp [aO, aP, *]
        done)
     | (have r1 : 1 ≤ e.addrs.length := by omega
        have r2 : e.addrs.length ≤ 8 := by omega
        have r3 : ¬ e.addrs = [] := by
          intro h; rw [h] at r1; simp at r1
        simp [aO, aP, *]
        done)
     | (have r1 : ¬ 1 ≤ e.addrs.length := by omega
        have r3 : e.addrs = [] := List.length_eq_zero_iff.1 (by omega)
        simp [aO, aP, *]
        done)
     | (have r1 : 1 ≤ e.addrs.length := by omega
        have r2 : ¬ e.addrs.length ≤ 8 := by omega
        simp [aO, aP, *]
        done)
     | (have q0 : e.addrs = [] := List.length_eq_zero_iff.1 (by omega)
        simp [aO, aP, *]
        done)
     | (have q0 : ¬ e.addrs = [] := by
          intro h; have h9 := congrArg List.length h; rw [List.length_nil] at h9; omega
        simp [aO, aP, *]
        done)
     | (have q0 : e.addrs = [] := List.length_eq_zero_iff.1 (by omega)
        have q1 : e.ports = [] := List.length_eq_zero_iff.1 (by omega)
        simp [aO, aP, *]
        done)
     | (have q0 : e.addrs = [] := List.length_eq_zero_iff.1 (by omega)
        have q1 : ¬ e.ports = [] := by
          intro h; have h9 := congrArg List.length h; rw [List.length_nil] at h9; omega
        simp [aO, aP, *]
        done)
     | (trace_state; fail)
 exact ⟨(), by rw [cg h2_1 (.inr (.inr (.inr hm)))]; rfl, hw.base, (hw.weak (List.nil_sublist _) (fun s hs => hs)).toNews⟩
end Go.Proofs.YtnpdgmoeoidppaaGreat
