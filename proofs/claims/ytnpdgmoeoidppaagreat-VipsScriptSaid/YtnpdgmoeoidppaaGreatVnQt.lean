import Derived.Test.YtnpdgmoeoidppaaGreatVkQt
import Derived.Test.YtnpdgmoeoidppaaGreatVjQt
/- ranges: the document's answer -/
namespace Go.Proofs.YtnpdgmoeoidppaaGreat
open Go.RowKit Go.Shelf
set_option linter.unusedVariables false
set_option linter.unusedSimpArgs false

theorem ent_160 : Enters Tryz.prog 160 := enters_of Tryz.func160 (by kernel_rfl) rfl
theorem ent_161 : Enters Tryz.prog 161 := enters_of Tryz.func161 (by kernel_rfl) rfl
theorem iz : Enters Tryz.prog 163 := enters_of Tryz.func163 (by kernel_rfl) rfl

theorem e8 {x k : Int} {K : Nat} (hx : 0 ≤ x ∧ x ≤ 18446744073709551615) (hk : k = K) (hK : K < 64) : bits .and .u64 (x.fdiv (2 ^ min k.toNat IntKind.u64.bits)) 1 = ((x.toNat / 2 ^ K % 2 : Nat) : Int) := by
  subst hk
  obtain ⟨X, rfl⟩ := Int.eq_ofNat_of_zero_le hx.1
  rw [Int.toNat_natCast, show min K IntKind.u64.bits = K from Nat.min_eq_left (by show K ≤ 64; omega)]
  rw [Int.fdiv_eq_ediv_of_nonneg _ (by exact_mod_cast Nat.zero_le (2 ^ K))]
  have e : ((X : Int) / 2 ^ K) = ((X / 2 ^ K : Nat) : Int) := by rw [Int.natCast_ediv, Int.natCast_pow]; rfl
  rw [e]
  have h1 := andI_nat (a := X / 2 ^ K) (b := 1) (Nat.lt_of_le_of_lt (Nat.div_le_self _ _) (by omega)) (by decide)
  rw [Nat.and_one_is_mod] at h1
  exact h1
theorem head_iff {a : Ad} {m : Nat} (hc : cn a = 0) (ha : gO a) (hm : (m : Int) ≤ cr a) : gc a m = a ↔ ∀ i : Nat, m ≤ i → (i : Int) < cr a → ec a i = 0 := by
  obtain ⟨h1, h2, h3, h4⟩ := ha
  have h64 : (2 : Nat) ^ 64 = 18446744073709551616 := by decide
  have h32 : (2 : Nat) ^ 32 = 4294967296 := by decide
  by_cases h6 : a.six = true
  · rw [cr, if_pos h6] at hm ⊢
    rw [gG h6 (by omega) ⟨h1, h2⟩ ⟨h3, h4⟩]
    have c1 := cut_self (n := 64) (m := min m 64) (x := a.hi.toNat) (Nat.min_le_right _ _)
    have c2 := cut_self (n := 64) (m := m - 64) (x := a.lo.toNat) (by omega)
    have e : (⟨a.six, (eV 64 (min m 64) a.hi.toNat : Nat), (eV 64 (m - 64) a.lo.toNat : Nat)⟩ : Ad) = a ↔ eV 64 (min m 64) a.hi.toNat = a.hi.toNat ∧ eV 64 (m - 64) a.lo.toNat = a.lo.toNat := by
      constructor
      · intro h
        have g1 := congrArg Ad.hi h; have g2 := congrArg Ad.lo h
        simp only at g1 g2
        omega
      · intro h
        obtain ⟨s, hi, lo⟩ := a
        simp only [Ad.mk.injEq, true_and]
        simp only at h h1 h3
        omega
    rw [e, c1, c2]
    constructor
    · intro h i hi1 hi2
      rw [ec, if_pos h6]
      split
      · exact h.1 i (by omega) (by omega)
      · exact h.2 (i - 64) (by omega) (by omega)
    · intro h
      refine ⟨fun i i1 i2 => ?_, fun i i1 i2 => ?_⟩
      · have := h i (by omega) (by omega)
        rw [ec, if_pos h6, if_pos (by omega)] at this; exact this
      · have := h (i + 64) (by omega) (by omega)
        rw [ec, if_pos h6, if_neg (by omega), Nat.add_sub_cancel] at this; exact this
  · have h6 : a.six = false := by simpa using h6
    have hlo : a.lo < 4294967296 ∧ a.hi = 0 := by
      unfold cn at hc
      split at hc
      · exact absurd hc (by decide)
      · rename_i q; have q2 : ¬ (a.hi ≠ 0 ∨ 4294967296 ≤ a.lo) := fun x => q ⟨h6, x⟩; omega
    rw [cr, if_neg (by rw [h6]; decide)] at hm ⊢
    rw [f5 h6 (by omega) ⟨h3, hlo.1⟩]
    have c2 := cut_self (n := 32) (m := m) (x := a.lo.toNat) (by omega)
    have e : (⟨a.six, a.hi, (eV 32 m a.lo.toNat : Nat)⟩ : Ad) = a ↔ eV 32 m a.lo.toNat = a.lo.toNat := by
      constructor
      · intro h
        have g2 := congrArg Ad.lo h
        simp only at g2
        omega
      · intro h
        obtain ⟨s, hi, lo⟩ := a
        simp only [Ad.mk.injEq, true_and]
        simp only at h h3
        omega
    rw [e, c2]
    constructor
    · intro h i hi1 hi2
      rw [ec, if_neg (by rw [h6]; decide)]; exact h i hi1 (by omega)
    · intro h i i1 i2
      have := h i i1 (by omega)
      rw [ec, if_neg (by rw [h6]; decide)] at this; exact this

theorem c_wide5 (a : Ad) : cO Tryz.prog 161 #[.agg (dN a).toArray] (.int .i64 (cr a)) := by
 intro w0
 refine bd (ok0 := no) (S := []) (args := [.agg (dN a).toArray]) 5 Tryz.func161 rfl rfl rfl (by simp) (by simp) ?_
 refine ao ?_
 refine ab ?_
 refine bE rfl rfl rfl (fun b1 => ?_)
 refine ap (ai rfl) rfl rfl ?_
 refine ae ?_
 refine aj ?_
 refine ao ?_
 refine ao ?_
 refine ab ?_
 refine ap (aB dc rfl) rfl rfl ?_
 refine ap (aM 0 gk rfl rfl rfl) rfl rfl ?_
 refine bk (t := 4) rfl (fun h1_1 => ?_) (fun h1_1 => ?_)
 refine ae ?_
 refine aj ?_
 refine ay rfl ?_
 refine ao ?_
 refine ab ?_
 refine ap (ai rfl) rfl rfl ?_
 refine ae ?_
 refine aj ?_
 refine aF ?_
 refine aA ?_
 refine aJ (ts := [2]) rfl rfl rfl (fun w hw => ?_)
 exact ⟨by rw [cr, if_pos h1_1]; rfl, hw.base⟩
 refine ae ?_
 refine aj ?_
 refine au rfl ?_
 refine aH ?_
 refine aj ?_
 refine ao ?_
 refine ab ?_
 refine ap (ai rfl) rfl rfl ?_
 refine ae ?_
 refine aj ?_
 refine aF ?_
 refine aJ (ts := [2]) rfl rfl rfl (fun w hw => ?_)
 exact ⟨by rw [cr, if_neg (by rw [h1_1]; decide)]; rfl, hw.base⟩

theorem c_bit5 (a : Ad) (i : Nat) (h : gO a) (hi : (i : Int) < cr a) : cO Tryz.prog 163 #[.agg (dN a).toArray, .int .i64 i] (.int .u64 (ec a i)) := by
 intro w0
 refine bd (ok0 := no) (S := []) (args := [.agg (dN a).toArray, .int .i64 i]) 31 Tryz.func163 rfl rfl rfl (by simp) (by simp) ?_
 refine ao ?_
 refine ab ?_
 refine bE rfl rfl rfl (fun b1 => ?_)
 refine ap (ai rfl) rfl rfl ?_
 refine ae ?_
 refine aj ?_
 refine ao ?_
 refine ao ?_
 refine ab ?_
 refine ap (aB dc rfl) rfl rfl ?_
 refine ap (aM 0 gk rfl rfl rfl) rfl rfl ?_
 refine bk (t := 6) rfl (fun h1_1 => ?_) (fun h1_1 => ?_)
 rw [cr, if_pos h1_1] at hi
 refine ap (bJ rfl) rfl rfl ?_
 refine ae ?_
 refine aj ?_
 refine au rfl ?_
 refine aH ?_
 refine aj ?_
 refine ao ?_
 refine ao ?_
 refine ab ?_
 refine ap (ak rfl) rfl rfl ?_
 refine ap (bF rfl rfl) rfl rfl ?_
 refine aC (t := 16) rfl (fun h3_1 => ?_) (fun h3_1 => ?_)
 refine ae ?_
 refine aj ?_
 refine ay rfl ?_
 refine ao ?_
 refine ab ?_
 refine ap (aB dG rfl) rfl rfl ?_
 refine ap (aM 0 cP rfl rfl rfl) rfl rfl ?_
 refine ap (ak rfl) rfl rfl ?_
 refine ap (fM rfl rfl (by omega) (by omega)) rfl rfl ?_
 refine ap (dS Tryz.underlying3 Tryz.underlying202 rfl (dy (by omega) (by omega))) rfl rfl ?_
 refine ap (y_shr rfl rfl (by omega)) rfl rfl ?_
 refine ap (y_and rfl rfl) rfl rfl ?_
 refine ap (ai rfl) rfl rfl ?_
 refine ae ?_
 refine aj ?_
 refine aF ?_
 refine aA ?_
 refine aJ (ts := [4]) rfl rfl rfl (fun w hw => ?_)
 refine ⟨?_, hw.base⟩
 show Ending.returned (.int .u64 _) = _
 congr 2
 focus first
   | (rw [ec, if_neg (by rw [h1_1]; decide), fT]; exact e8 h.2.2 (by omega) (by omega))
   | (rw [ec, if_pos h1_1, if_pos (by omega), fT]; exact e8 ⟨h.1, h.2.1⟩ (by omega) (by omega))
   | (rw [ec, if_pos h1_1, if_neg (by omega), fT]; exact e8 h.2.2 (by omega) (by omega))
   | (trace_state; fail)
 refine ae ?_
 refine aj ?_
 refine au rfl ?_
 refine aH ?_
 refine aj ?_
 refine ao ?_
 refine ab ?_
 refine ap (aB cW rfl) rfl rfl ?_
 refine ap (aM 0 cP rfl rfl rfl) rfl rfl ?_
 refine ap (ak rfl) rfl rfl ?_
 refine ap (fM rfl rfl (by omega) (by omega)) rfl rfl ?_
 refine ap (dS Tryz.underlying3 Tryz.underlying202 rfl (dy (by omega) (by omega))) rfl rfl ?_
 refine ap (y_shr rfl rfl (by omega)) rfl rfl ?_
 refine ap (y_and rfl rfl) rfl rfl ?_
 refine ap (ai rfl) rfl rfl ?_
 refine ae ?_
 refine aj ?_
 refine aF ?_
 refine aJ (ts := [4]) rfl rfl rfl (fun w hw => ?_)
 refine ⟨?_, hw.base⟩
 show Ending.returned (.int .u64 _) = _
 congr 2
 focus first
   | (rw [ec, if_neg (by rw [h1_1]; decide), fT]; exact e8 h.2.2 (by omega) (by omega))
   | (rw [ec, if_pos h1_1, if_pos (by omega), fT]; exact e8 ⟨h.1, h.2.1⟩ (by omega) (by omega))
   | (rw [ec, if_pos h1_1, if_neg (by omega), fT]; exact e8 h.2.2 (by omega) (by omega))
   | (trace_state; fail)
 rw [cr, if_neg (by rw [h1_1]; decide)] at hi
 refine ap (bJ rfl) rfl rfl ?_
 refine ae ?_
 refine aj ?_
 refine ay rfl ?_
 refine ao ?_
 refine ab ?_
 refine ap (aB cW rfl) rfl rfl ?_
 refine ap (aM 0 cP rfl rfl rfl) rfl rfl ?_
 refine ap (ak rfl) rfl rfl ?_
 refine ap (fM rfl rfl (by omega) (by omega)) rfl rfl ?_
 refine ap (dS Tryz.underlying3 Tryz.underlying202 rfl (dy (by omega) (by omega))) rfl rfl ?_
 refine ap (y_shr rfl rfl (by omega)) rfl rfl ?_
 refine ap (y_and rfl rfl) rfl rfl ?_
 refine ap (ai rfl) rfl rfl ?_
 refine ae ?_
 refine aj ?_
 refine aF ?_
 refine aA ?_
 refine aJ (ts := [4]) rfl rfl rfl (fun w hw => ?_)
 refine ⟨?_, hw.base⟩
 show Ending.returned (.int .u64 _) = _
 congr 2
 focus first
   | (rw [ec, if_neg (by rw [h1_1]; decide), fT]; exact e8 h.2.2 (by omega) (by omega))
   | (rw [ec, if_pos h1_1, if_pos (by omega), fT]; exact e8 ⟨h.1, h.2.1⟩ (by omega) (by omega))
   | (rw [ec, if_pos h1_1, if_neg (by omega), fT]; exact e8 h.2.2 (by omega) (by omega))
   | (trace_state; fail)

set_option maxRecDepth 100000 in
theorem fe (r : Rg) (h : gO r.base) : cO Tryz.prog 160 #[.agg (dR r).toArray] (.int .i64 (cw r)) := by
 intro w0
 refine bd (ok0 := no) (S := []) (args := [.agg (dR r).toArray]) 35 Tryz.func160 rfl rfl rfl (by simp) (by simp) ?_
 refine ao ?_
 refine ab ?_
 refine bE rfl rfl rfl (fun b1 => ?_)
 refine ap (ai rfl) rfl rfl ?_
 refine ae ?_
 refine aj ?_
 refine ao ?_
 refine ao ?_
 refine eh 17 rfl mixed ?_
 refine aD (i := 0) rfl ah (aB db rfl) aw aw rfl (aa (aa ar)) (by kernel_rfl) rfl ?_
 refine aD (i := 1) rfl ah (aK 0 aN rfl rfl rfl rfl) aw aw rfl (aa (aa ar)) (by kernel_rfl) rfl ?_
 refine dm (i := 2) rfl rfl rfl (br rfl ent_79) (by kernel_rfl) rfl ?_
 refine aS rfl ent_79 (fN r.base h.2.2.1) rfl ?_
 refine ae ?_
 refine dC aw ?_
 refine aD (i := 3) rfl ah (cv rfl rfl) aw aw rfl (aa (aa ar)) (by kernel_rfl) rfl ?_
 refine cT (t := 7) rfl (fun h1_3 => ?_) (fun h1_3 => ?_)
 refine aD (i := 4) rfl ah (ak rfl) aw aw rfl (aa (aa ar)) (by kernel_rfl) rfl ?_
 refine bb (i := 5) rfl (aG rfl rfl rfl) aw rfl (aa (aa ar)) (by kernel_rfl) rfl ?_
 refine bb (i := 6) rfl (aG rfl rfl rfl) aw rfl (aa (aa ar)) (by kernel_rfl) rfl ?_
 refine bb (i := 7) rfl (aG rfl rfl rfl) aw rfl (aa (aa ar)) (by kernel_rfl) rfl ?_
 refine aD (i := 8) rfl ah (aX rfl rfl) aw aw rfl (aa (aa ar)) (by kernel_rfl) rfl ?_
 refine aD (i := 9) rfl ah (ak rfl) aw aw rfl (aa (aa ar)) (by kernel_rfl) rfl ?_
 refine bb (i := 10) rfl (aG rfl rfl rfl) aw rfl (aa (aa ar)) (by kernel_rfl) rfl ?_
 refine bb (i := 11) rfl (aG rfl rfl rfl) aw rfl (aa (aa ar)) (by kernel_rfl) rfl ?_
 refine bb (i := 12) rfl (aG rfl rfl rfl) aw rfl (aa (aa ar)) (by kernel_rfl) rfl ?_
 refine bb (i := 13) rfl (aG rfl rfl rfl) aw rfl (aa (aa ar)) (by kernel_rfl) rfl ?_
 refine bb (i := 14) rfl (aG rfl rfl rfl) aw rfl (aa (aa ar)) (by kernel_rfl) rfl ?_
 refine bb (i := 15) rfl (aG rfl rfl rfl) aw rfl (aa (aa ar)) (by kernel_rfl) rfl ?_
 refine aD (i := 16) rfl ah (aX rfl rfl) aw aw rfl (aa (aa ar)) (by kernel_rfl) rfl ?_
 refine cB (by kernel_rfl) ?_
 refine aj ?_
 refine ay rfl ?_
 refine ao ?_
 refine ab ?_
 refine ap (ai rfl) rfl rfl ?_
 refine ae ?_
 refine aj ?_
 refine aF ?_
 refine aA ?_
 refine aJ (ts := [2]) rfl rfl rfl (fun w hw => ?_)
 focus first
   | (exact ⟨by rw [cw, if_pos (by first | exact .inl h1_3 | exact .inr (.inl h1_7) | exact .inr (.inr (.inl h1_15)))]; rfl, hw.base⟩)
   | (exact ⟨by rw [cw, if_pos (.inr (.inr (.inr (fun e => by have := hif.1 e k hI.1 (by omega); omega))))]; rfl, hw.base⟩)
   | (exact ⟨by rw [cw, if_neg (fun q => q.elim (fun q => q hck) (fun q => q.elim h1_7 (fun q => q.elim h1_15 (fun q => q (hif.2 fun i h1 h2 => hI.2.2 i h1 (by omega))))))]; rfl, hw.base⟩)
   | (trace_state; fail)
 refine aD (i := 4) rfl ah (ak rfl) aw aw rfl (aa (aa ar)) (by kernel_rfl) rfl ?_
 refine aD (i := 5) rfl (aZ rfl rfl) (aB eP rfl) aw aw rfl (aa (aa ar)) (by kernel_rfl) rfl ?_
 refine aD (i := 6) rfl (aZ rfl rfl) (aM 0 eW rfl rfl rfl) aw aw rfl (aa (aa ar)) (by kernel_rfl) rfl ?_
 refine aD (i := 7) rfl (aZ rfl rfl) (bF rfl rfl) aw aw rfl (aa (aa ar)) (by kernel_rfl) rfl ?_
 refine cT (t := 11) rfl (fun h1_7 => ?_) (fun h1_7 => ?_)
 refine aD (i := 8) rfl ah (aW rfl rfl) aw aw rfl (aa (aa ar)) (by kernel_rfl) rfl ?_
 refine aD (i := 9) rfl ah (ak rfl) aw aw rfl (aa (aa ar)) (by kernel_rfl) rfl ?_
 refine bb (i := 10) rfl (aG rfl rfl rfl) aw rfl (aa (aa ar)) (by kernel_rfl) rfl ?_
 refine bb (i := 11) rfl (aG rfl rfl rfl) aw rfl (aa (aa ar)) (by kernel_rfl) rfl ?_
 refine bb (i := 12) rfl (aG rfl rfl rfl) aw rfl (aa (aa ar)) (by kernel_rfl) rfl ?_
 refine bb (i := 13) rfl (aG rfl rfl rfl) aw rfl (aa (aa ar)) (by kernel_rfl) rfl ?_
 refine bb (i := 14) rfl (aG rfl rfl rfl) aw rfl (aa (aa ar)) (by kernel_rfl) rfl ?_
 refine bb (i := 15) rfl (aG rfl rfl rfl) aw rfl (aa (aa ar)) (by kernel_rfl) rfl ?_
 refine aD (i := 16) rfl ah (aX rfl rfl) aw aw rfl (aa (aa ar)) (by kernel_rfl) rfl ?_
 refine cB (by kernel_rfl) ?_
 refine aj ?_
 refine ay rfl ?_
 refine ao ?_
 refine ab ?_
 refine ap (ai rfl) rfl rfl ?_
 refine ae ?_
 refine aj ?_
 refine aF ?_
 refine aA ?_
 refine aJ (ts := [2]) rfl rfl rfl (fun w hw => ?_)
 focus first
   | (exact ⟨by rw [cw, if_pos (by first | exact .inl h1_3 | exact .inr (.inl h1_7) | exact .inr (.inr (.inl h1_15)))]; rfl, hw.base⟩)
   | (exact ⟨by rw [cw, if_pos (.inr (.inr (.inr (fun e => by have := hif.1 e k hI.1 (by omega); omega))))]; rfl, hw.base⟩)
   | (exact ⟨by rw [cw, if_neg (fun q => q.elim (fun q => q hck) (fun q => q.elim h1_7 (fun q => q.elim h1_15 (fun q => q (hif.2 fun i h1 h2 => hI.2.2 i h1 (by omega))))))]; rfl, hw.base⟩)
   | (trace_state; fail)
 refine aD (i := 8) rfl ah (aW rfl rfl) aw aw rfl (aa (aa ar)) (by kernel_rfl) rfl ?_
 refine aD (i := 9) rfl ah (ak rfl) aw aw rfl (aa (aa ar)) (by kernel_rfl) rfl ?_
 refine aD (i := 10) rfl (aZ rfl rfl) (aB eP rfl) aw aw rfl (aa (aa ar)) (by kernel_rfl) rfl ?_
 refine aD (i := 11) rfl (aZ rfl rfl) (aM 0 eW rfl rfl rfl) aw aw rfl (aa (aa ar)) (by kernel_rfl) rfl ?_
 refine aD (i := 12) rfl (aZ rfl rfl) (aB db rfl) aw aw rfl (aa (aa ar)) (by kernel_rfl) rfl ?_
 refine aD (i := 13) rfl (aZ rfl rfl) (aK 0 aN rfl rfl rfl rfl) aw aw rfl (aa (aa ar)) (by kernel_rfl) rfl ?_
 refine dm (i := 14) rfl rfl rfl (br rfl ent_161) (by kernel_rfl) rfl ?_
 refine az rfl rfl ?_
 refine aS rfl ent_161 (c_wide5 _) rfl ?_
 refine ae ?_
 refine dC aw ?_
 refine aD (i := 15) rfl (aZ rfl rfl) (eI rfl rfl) aw aw rfl (aa (aa ar)) (by kernel_rfl) rfl ?_
 refine cT (t := 19) rfl (fun h1_15 => ?_) (fun h1_15 => ?_)
 refine aD (i := 16) rfl ah (aW rfl rfl) aw aw rfl (aa (aa ar)) (by kernel_rfl) rfl ?_
 refine cB (by kernel_rfl) ?_
 refine aj ?_
 refine ay rfl ?_
 refine ao ?_
 refine ab ?_
 refine ap (ai rfl) rfl rfl ?_
 refine ae ?_
 refine aj ?_
 refine aF ?_
 refine aA ?_
 refine aJ (ts := [2]) rfl rfl rfl (fun w hw => ?_)
 focus first
   | (exact ⟨by rw [cw, if_pos (by first | exact .inl h1_3 | exact .inr (.inl h1_7) | exact .inr (.inr (.inl h1_15)))]; rfl, hw.base⟩)
   | (exact ⟨by rw [cw, if_pos (.inr (.inr (.inr (fun e => by have := hif.1 e k hI.1 (by omega); omega))))]; rfl, hw.base⟩)
   | (exact ⟨by rw [cw, if_neg (fun q => q.elim (fun q => q hck) (fun q => q.elim h1_7 (fun q => q.elim h1_15 (fun q => q (hif.2 fun i h1 h2 => hI.2.2 i h1 (by omega))))))]; rfl, hw.base⟩)
   | (trace_state; fail)
 refine aD (i := 16) rfl ah (aW rfl rfl) aw aw rfl (aa (aa ar)) (by kernel_rfl) rfl ?_
 refine cB (by kernel_rfl) ?_
 refine aj ?_
 refine au rfl ?_
 refine aH ?_
 refine aj ?_
 refine ao ?_
 refine ao ?_
 have hwl := ga r.base
 have hck : cn r.base = 0 := Decidable.not_not.1 h1_3
 obtain ⟨m, hm⟩ : ∃ m : Nat, r.bits = m := ⟨r.bits.toNat, by omega⟩
 have hif := head_iff (m := m) hck h (by omega)
 rw [← hm] at hif
 refine ab ?_
 refine ap (aB eP rfl) rfl rfl ?_
 refine ap (aM 0 eW rfl rfl rfl) rfl rfl ?_
 refine ap (ai rfl) rfl rfl ?_
 refine ae ?_
 refine aj ?_
 refine aP ?_
 refine b8 (σ := Nat) [2, 3, 23, 24, 25, 26, 27, 28, 29, 30, 31, 32, 33, 34] (fun k => m ≤ k ∧ (k : Int) ≤ cr r.base ∧ ∀ i : Nat, m ≤ i → i < k → ec r.base i = 0) (fun k => (cr r.base).toNat - k) (fun k => [(3, .int .i64 k)]) (m) ?_ ⟨lk rfl (congrArg (Value.int .i64) hm), trivial⟩ (fun k hI => ?_)
 exact ⟨Nat.le_refl _, by omega, fun i h1 h2 => by omega⟩
 refine ao ?_
 refine ao ?_
 refine ab ?_
 refine ap (ak rfl) rfl rfl ?_
 refine ap (aB db rfl) rfl rfl ?_
 refine ap (aK 0 aN rfl rfl rfl rfl) rfl rfl ?_
 refine aS rfl ent_161 (c_wide5 _) rfl ?_
 refine ap (bF rfl rfl) rfl rfl ?_
 refine aC (t := 27) rfl (fun h4_4 => ?_) (fun h4_4 => ?_)
 refine ae ?_
 refine aj ?_
 refine ay rfl ?_
 refine aH ?_
 refine aj ?_
 refine ao ?_
 refine aP ?_
 refine ao ?_
 refine ab ?_
 refine ap (aB db rfl) rfl rfl ?_
 refine ap (aK 0 aN rfl rfl rfl rfl) rfl rfl ?_
 refine ap (ak rfl) rfl rfl ?_
 refine aS rfl iz (c_bit5 r.base k h (by omega)) rfl ?_
 refine ap (cv rfl rfl) rfl rfl ?_
 refine aC (t := 34) rfl (fun h6_4 => ?_) (fun h6_4 => ?_)
 refine ae ?_
 refine aj ?_
 refine ay rfl ?_
 refine ao ?_
 refine ab ?_
 refine ap (ai rfl) rfl rfl ?_
 refine ae ?_
 refine aj ?_
 refine aF ?_
 refine aL ?_
 refine aA ?_
 refine bu ?_
 refine aL ?_
 refine aA ?_
 refine aJ (ts := [2]) rfl rfl rfl (fun w hw => ?_)
 focus first
   | (exact ⟨by rw [cw, if_pos (by first | exact .inl h1_3 | exact .inr (.inl h1_7) | exact .inr (.inr (.inl h1_15)))]; rfl, hw.base⟩)
   | (exact ⟨by rw [cw, if_pos (.inr (.inr (.inr (fun e => by have := hif.1 e k hI.1 (by omega); omega))))]; rfl, hw.base⟩)
   | (exact ⟨by rw [cw, if_neg (fun q => q.elim (fun q => q hck) (fun q => q.elim h1_7 (fun q => q.elim h1_15 (fun q => q (hif.2 fun i h1 h2 => hI.2.2 i h1 (by omega))))))]; rfl, hw.base⟩)
   | (trace_state; fail)
 refine ae ?_
 refine aj ?_
 refine au rfl ?_
 refine aH ?_
 refine bq ?_
 refine aj ?_
 refine ab ?_
 refine ap (ak rfl) rfl rfl ?_
 refine ap (bg rfl rfl (by omega) (by omega)) rfl rfl ?_
 refine ap (ai rfl) rfl rfl ?_
 refine ae ?_
 refine bo (k + 1) ?_ ?_ ⟨rfl, trivial⟩ (by repeat (first | exact trivial | refine ⟨rfl, ?_⟩)) aw
 refine ⟨by omega, by omega, fun i h1 h2 => ?_⟩
 by_cases e : i = k
 · rw [e]; omega
 · exact hI.2.2 i h1 (by omega)
 omega
 refine ae ?_
 refine aj ?_
 refine au rfl ?_
 refine bC ?_
 refine aY ?_
 refine aU ?_
 refine a8 ?_
 refine aj ?_
 refine ao ?_
 refine ab ?_
 refine ap (ai rfl) rfl rfl ?_
 refine ae ?_
 refine aj ?_
 refine aF ?_
 refine aJ (ts := [2]) rfl rfl rfl (fun w hw => ?_)
 focus first
   | (exact ⟨by rw [cw, if_pos (by first | exact .inl h1_3 | exact .inr (.inl h1_7) | exact .inr (.inr (.inl h1_15)))]; rfl, hw.base⟩)
   | (exact ⟨by rw [cw, if_pos (.inr (.inr (.inr (fun e => by have := hif.1 e k hI.1 (by omega); omega))))]; rfl, hw.base⟩)
   | (exact ⟨by rw [cw, if_neg (fun q => q.elim (fun q => q hck) (fun q => q.elim h1_7 (fun q => q.elim h1_15 (fun q => q (hif.2 fun i h1 h2 => hI.2.2 i h1 (by omega))))))]; rfl, hw.base⟩)
   | (trace_state; fail)

theorem pow16 {j : Nat} : 2 ^ j < 65536 ↔ j < 16 := by
  rw [show 65536 = 2 ^ 16 by decide]; exact Nat.pow_lt_pow_iff_right (by decide)
theorem has_iff {a b : Ad} {m : Nat} (hc : cn a = 0) (ha : gO a) (hcb : cn b = 0) (hb : gO b) (hs : a.six = b.six) (hm : (m : Int) ≤ cr b) (hh : gc b m = b) : gc a m = b ↔ ∀ i : Nat, i < m → ec b i = ec a i := by
  obtain ⟨h1, h2, h3, h4⟩ := ha
  obtain ⟨k1, k2, k3, k4⟩ := hb
  have h64 : (2 : Nat) ^ 64 = 18446744073709551616 := by decide
  have h32 : (2 : Nat) ^ 32 = 4294967296 := by decide
  by_cases h6 : a.six = true
  · have b6 : b.six = true := hs ▸ h6
    rw [cr, if_pos b6] at hm
    rw [gG b6 (by omega) ⟨k1, k2⟩ ⟨k3, k4⟩] at hh
    have g1 := congrArg Ad.hi hh; have g2 := congrArg Ad.lo hh
    simp only at g1 g2
    rw [gG h6 (by omega) ⟨h1, h2⟩ ⟨h3, h4⟩]
    have c1 := cut_same (n := 64) (m := min m 64) (x := a.hi.toNat) (y := b.hi.toNat) (by omega) (by omega) (Nat.min_le_right _ _) (by omega)
    have c2 := cut_same (n := 64) (m := m - 64) (x := a.lo.toNat) (y := b.lo.toNat) (by omega) (by omega) (by omega) (by omega)
    have e : (⟨a.six, (eV 64 (min m 64) a.hi.toNat : Nat), (eV 64 (m - 64) a.lo.toNat : Nat)⟩ : Ad) = b ↔ eV 64 (min m 64) a.hi.toNat = b.hi.toNat ∧ eV 64 (m - 64) a.lo.toNat = b.lo.toNat := by
      constructor
      · intro h
        have g1 := congrArg Ad.hi h; have g2 := congrArg Ad.lo h
        simp only at g1 g2
        omega
      · intro h
        obtain ⟨s, hi, lo⟩ := b
        simp only [Ad.mk.injEq]
        simp only at h k1 k3 hs
        exact ⟨hs, by omega, by omega⟩
    rw [e, c1, c2]
    constructor
    · intro h i hi
      rw [ec, ec, if_pos b6, if_pos h6]
      split
      · exact h.1 i (by omega)
      · exact h.2 (i - 64) (by omega)
    · intro h
      refine ⟨fun i i1 => ?_, fun i i1 => ?_⟩
      · have := h i (by omega)
        rw [ec, ec, if_pos b6, if_pos h6, if_pos (by omega), if_pos (by omega)] at this; exact this
      · have := h (i + 64) (by omega)
        rw [ec, ec, if_pos b6, if_pos h6, if_neg (by omega), if_neg (by omega), Nat.add_sub_cancel] at this; exact this
  · have h6 : a.six = false := by simpa using h6
    have b6 : b.six = false := hs ▸ h6
    have hlo : ∀ {c : Ad}, cn c = 0 → c.six = false → c.lo < 4294967296 ∧ c.hi = 0 := fun {c} hc h => by
      unfold cn at hc
      split at hc
      · exact absurd hc (by decide)
      · rename_i q; have q2 : ¬ (c.hi ≠ 0 ∨ 4294967296 ≤ c.lo) := fun x => q ⟨h, x⟩; omega
    obtain ⟨la, lb⟩ := hlo hc h6
    obtain ⟨ma, mb⟩ := hlo hcb b6
    rw [cr, if_neg (by rw [b6]; decide)] at hm
    rw [f5 b6 (by omega) ⟨k3, ma⟩] at hh
    have g2 := congrArg Ad.lo hh
    simp only at g2
    rw [f5 h6 (by omega) ⟨h3, la⟩]
    have c2 := cut_same (n := 32) (m := m) (x := a.lo.toNat) (y := b.lo.toNat) (by omega) (by omega) (by omega) (by omega)
    have e : (⟨a.six, a.hi, (eV 32 m a.lo.toNat : Nat)⟩ : Ad) = b ↔ eV 32 m a.lo.toNat = b.lo.toNat := by
      constructor
      · intro h
        have g2 := congrArg Ad.lo h
        simp only at g2
        omega
      · intro h
        obtain ⟨s, hi, lo⟩ := b
        simp only [Ad.mk.injEq]
        simp only at h k3 hs mb
        exact ⟨hs, by omega, by omega⟩
    rw [e, c2]
    constructor
    · intro h i hi
      rw [ec, ec, if_neg (by rw [b6]; decide), if_neg (by rw [h6]; decide)]; exact h i hi
    · intro h i i1
      have := h i i1
      rw [ec, ec, if_neg (by rw [b6]; decide), if_neg (by rw [h6]; decide)] at this; exact this

theorem fK (r : Rg) (h : gO r.base) : cO Tryz.prog 92 #[.agg (dR r).toArray] (.int .i64 (bj r)) := by
 intro w0
 refine bd (ok0 := no) (S := []) (args := [.agg (dR r).toArray]) 24 Tryz.func92 rfl rfl rfl (by simp) (by simp) ?_
 refine ao ?_
 refine ab ?_
 refine bE rfl rfl rfl (fun b1 => ?_)
 refine ap (ai rfl) rfl rfl ?_
 refine ae ?_
 refine aj ?_
 refine ao ?_
 refine ao ?_
 refine ab ?_
 refine ap (aK 0 cm rfl rfl rfl rfl) rfl rfl ?_
 refine aS rfl ent_160 (fe r h) rfl ?_
 refine ap (cv rfl rfl) rfl rfl ?_
 refine aC (t := 7) rfl (fun h1_2 => ?_) (fun h1_2 => ?_)
 refine ae ?_
 refine aj ?_
 refine ay rfl ?_
 refine ao ?_
 refine ab ?_
 refine ap (ai rfl) rfl rfl ?_
 refine ae ?_
 refine aj ?_
 refine aF ?_
 refine aA ?_
 refine aJ (ts := [2]) rfl rfl rfl (fun w hw => ?_)
 focus first
   | (exact ⟨by rw [bj, if_pos h1_2]; rfl, hw.base⟩)
   | (have hE : bj r = 2 ^ j := by
        rw [bj, if_neg (fun q => q hz)]
        by_cases h9 : cr r.base - r.bits < 16
        · rw [if_pos h9]; congr 1; omega
        · rw [if_neg h9]
          obtain rfl : j = 16 := by omega
          decide
      exact ⟨by rw [hE]; rfl, hw.base⟩)
   | (trace_state; fail)
 refine ae ?_
 refine aj ?_
 refine au rfl ?_
 refine aH ?_
 refine aj ?_
 refine ao ?_
 have hz : cw r = 0 := Decidable.not_not.1 h1_2
 obtain ⟨hz1, hz2, hz3, hz4⟩ := gm hz
 have hwl := ga r.base
 refine ab ?_
 refine ap (ai rfl) rfl rfl ?_
 refine ae ?_
 refine aj ?_
 refine ao ?_
 refine ao ?_
 refine ab ?_
 refine ap (aB eP rfl) rfl rfl ?_
 refine ap (aM 0 eW rfl rfl rfl) rfl rfl ?_
 refine ap (ai rfl) rfl rfl ?_
 refine ae ?_
 refine aj ?_
 refine aP ?_
 refine b8 (σ := Nat) [3, 4, 10, 11, 12, 13, 14, 15, 16, 17, 18, 19, 20, 21, 22] (fun j => j ≤ 16 ∧ r.bits + j ≤ cr r.base) (fun j => 16 - j) (fun j => [(4, .int .i64 (r.bits + j)), (3, .int .i64 ((2 ^ j : Nat) : Int))]) (0) ?_ ⟨lk rfl (congrArg (Value.int .i64) (by omega)), rfl, trivial⟩ (fun j hI => ?_)
 exact ⟨by decide, by omega⟩
 have hpj := @pow16 j
 have hp9 : ((2 ^ j : Nat) : Int) ≤ 65536 := Int.ofNat_le.2 (Nat.le_trans (Nat.pow_le_pow_right (by decide) hI.1) (by decide : 2 ^ 16 ≤ 65536))
 have hp0 : (0 : Int) ≤ ((2 ^ j : Nat) : Int) := Int.natCast_nonneg _
 refine ao ?_
 refine ao ?_
 refine ab ?_
 refine ap (ak rfl) rfl rfl ?_
 refine ap (aB db rfl) rfl rfl ?_
 refine ap (aK 0 aN rfl rfl rfl rfl) rfl rfl ?_
 refine aS rfl ent_161 (c_wide5 _) rfl ?_
 refine ap (bF rfl rfl) rfl rfl ?_
 refine aC (t := 14) rfl (fun h5_4 => ?_) (fun h5_4 => ?_)
 refine ap (ak rfl) rfl rfl ?_
 refine az rfl rfl ?_
 refine ap (ak rfl) rfl rfl ?_
 refine az rfl rfl ?_
 refine ap (bF rfl rfl) rfl rfl ?_
 refine aC (t := 17) rfl (fun h5_7 => ?_) (fun h5_7 => ?_)
 refine ap (aX rfl rfl) rfl rfl ?_
 refine ae ?_
 refine aj ?_
 refine ay rfl ?_
 refine aH ?_
 refine aj ?_
 refine ao ?_
 refine aP ?_
 refine ab ?_
 refine ap (ak rfl) rfl rfl ?_
 refine ap (y_muli rfl rfl (by omega) (by omega)) rfl rfl ?_
 refine ap (ai rfl) rfl rfl ?_
 refine ae ?_
 refine bq ?_
 refine aj ?_
 refine ab ?_
 refine ap (ak rfl) rfl rfl ?_
 refine ap (bg rfl rfl (by omega) (by omega)) rfl rfl ?_
 refine ap (ai rfl) rfl rfl ?_
 refine ae ?_
 refine bo (j + 1) ?_ ?_ ⟨lk rfl (congrArg (Value.int .i64) (by omega)), lk rfl (congrArg (Value.int .i64) (by rw [Nat.pow_succ]; omega)), trivial⟩ (by repeat (first | exact trivial | refine ⟨rfl, ?_⟩)) aw
 exact ⟨by omega, by omega⟩
 omega
 refine ap (aX rfl rfl) rfl rfl ?_
 refine ae ?_
 refine aj ?_
 refine au rfl ?_
 refine bC ?_
 refine aY ?_
 refine aU ?_
 refine a8 ?_
 refine aj ?_
 refine ao ?_
 refine ab ?_
 refine ap (ak rfl) rfl rfl ?_
 refine ap (ai rfl) rfl rfl ?_
 refine ae ?_
 refine aj ?_
 refine aF ?_
 refine aJ (ts := [2]) rfl rfl rfl (fun w hw => ?_)
 focus first
   | (exact ⟨by rw [bj, if_pos h1_2]; rfl, hw.base⟩)
   | (have hE : bj r = 2 ^ j := by
        rw [bj, if_neg (fun q => q hz)]
        by_cases h9 : cr r.base - r.bits < 16
        · rw [if_pos h9]; congr 1; omega
        · rw [if_neg h9]
          obtain rfl : j = 16 := by omega
          decide
      exact ⟨by rw [hE]; rfl, hw.base⟩)
   | (trace_state; fail)
 refine ap (ak rfl) rfl rfl ?_
 refine aO rfl rfl rfl rfl ?_
 refine aO rfl rfl rfl rfl ?_
 refine ap (aW rfl rfl) rfl rfl ?_
 refine ae ?_
 refine aj ?_
 refine au rfl ?_
 refine bC ?_
 refine aY ?_
 refine aU ?_
 refine a8 ?_
 refine aj ?_
 refine ao ?_
 refine ab ?_
 refine ap (ak rfl) rfl rfl ?_
 refine ap (ai rfl) rfl rfl ?_
 refine ae ?_
 refine aj ?_
 refine aF ?_
 refine aJ (ts := [2]) rfl rfl rfl (fun w hw => ?_)
 focus first
   | (exact ⟨by rw [bj, if_pos h1_2]; rfl, hw.base⟩)
   | (have hE : bj r = 2 ^ j := by
        rw [bj, if_neg (fun q => q hz)]
        by_cases h9 : cr r.base - r.bits < 16
        · rw [if_pos h9]; congr 1; omega
        · rw [if_neg h9]
          obtain rfl : j = 16 := by omega
          decide
      exact ⟨by rw [hE]; rfl, hw.base⟩)
   | (trace_state; fail)

set_option maxRecDepth 100000 in
theorem c_ref05Has (r : Rg) (a : Ad) (h : gO r.base) (h2 : gO a) : cO Tryz.prog 94 #[.agg (dR r).toArray, .agg (dN a).toArray] (.bool (ci r a)) := by
 intro w0
 refine bd (ok0 := no) (S := []) (args := [.agg (dR r).toArray, .agg (dN a).toArray]) 36 Tryz.func94 rfl rfl rfl (by simp) (by simp) ?_
 refine ao ?_
 refine ab ?_
 refine bE rfl rfl rfl (fun b1 => ?_)
 refine bE rfl rfl rfl (fun b2 => ?_)
 refine ap (ai rfl) rfl rfl ?_
 refine ae ?_
 refine aj ?_
 refine ao ?_
 refine ao ?_
 refine ab ?_
 refine ap (aK 1 cm rfl rfl rfl rfl) rfl rfl ?_
 refine aS rfl ent_160 (fe r h) rfl ?_
 refine ap (cv rfl rfl) rfl rfl ?_
 refine aC (t := 8) rfl (fun h1_2 => ?_) (fun h1_2 => ?_)
 refine ap (ak rfl) rfl rfl ?_
 refine aO rfl rfl rfl rfl ?_
 refine aO rfl rfl rfl rfl ?_
 refine aO rfl rfl rfl rfl ?_
 refine ap (aX rfl rfl) rfl rfl ?_
 refine ap (ak rfl) rfl rfl ?_
 refine aO rfl rfl rfl rfl ?_
 refine aO rfl rfl rfl rfl ?_
 refine aO rfl rfl rfl rfl ?_
 refine aO rfl rfl rfl rfl ?_
 refine aO rfl rfl rfl rfl ?_
 refine aO rfl rfl rfl rfl ?_
 refine ap (aX rfl rfl) rfl rfl ?_
 refine ae ?_
 refine aj ?_
 refine ay rfl ?_
 refine ao ?_
 refine ab ?_
 refine ap (ai rfl) rfl rfl ?_
 refine ae ?_
 refine aj ?_
 refine aF ?_
 refine aA ?_
 refine aJ (ts := [4]) rfl rfl rfl (fun w hw => ?_)
 refine ⟨?_, hw.base⟩
 show Ending.returned (.bool _) = _
 congr 2
 focus first
   | (rw [ci, decide_eq_true hz, decide_eq_true hck, decide_eq_true hsx, decide_eq_false (fun e => by have := hif.1 e k (by omega); omega)]; rfl)
   | (rw [ci, decide_eq_true hz, decide_eq_true hck, decide_eq_true hsx, decide_eq_true (hif.2 fun i hi => hI.2 i (by omega))]; rfl)
   | (rw [ci, decide_eq_false h1_2]; rfl)
   | (rw [ci, decide_eq_true (Decidable.not_not.1 h1_2), decide_eq_false h1_6]; rfl)
   | (rw [ci, decide_eq_true (Decidable.not_not.1 h1_2), decide_eq_true (Decidable.not_not.1 h1_6), decide_eq_false (fun e => h1_14 e.symm)]; rfl)
   | (trace_state; fail)
 refine ap (ak rfl) rfl rfl ?_
 refine az rfl rfl ?_
 refine ap (aK 0 aN rfl rfl rfl rfl) rfl rfl ?_
 refine az rfl rfl ?_
 refine aS rfl ent_79 (fN a h2.2.2.1) rfl ?_
 refine az rfl rfl ?_
 refine ap (cv rfl rfl) rfl rfl ?_
 refine aC (t := 12) rfl (fun h1_6 => ?_) (fun h1_6 => ?_)
 refine ap (aW rfl rfl) rfl rfl ?_
 refine ap (ak rfl) rfl rfl ?_
 refine aO rfl rfl rfl rfl ?_
 refine aO rfl rfl rfl rfl ?_
 refine aO rfl rfl rfl rfl ?_
 refine aO rfl rfl rfl rfl ?_
 refine aO rfl rfl rfl rfl ?_
 refine aO rfl rfl rfl rfl ?_
 refine ap (aX rfl rfl) rfl rfl ?_
 refine ae ?_
 refine aj ?_
 refine ay rfl ?_
 refine ao ?_
 refine ab ?_
 refine ap (ai rfl) rfl rfl ?_
 refine ae ?_
 refine aj ?_
 refine aF ?_
 refine aA ?_
 refine aJ (ts := [4]) rfl rfl rfl (fun w hw => ?_)
 refine ⟨?_, hw.base⟩
 show Ending.returned (.bool _) = _
 congr 2
 focus first
   | (rw [ci, decide_eq_true hz, decide_eq_true hck, decide_eq_true hsx, decide_eq_false (fun e => by have := hif.1 e k (by omega); omega)]; rfl)
   | (rw [ci, decide_eq_true hz, decide_eq_true hck, decide_eq_true hsx, decide_eq_true (hif.2 fun i hi => hI.2 i (by omega))]; rfl)
   | (rw [ci, decide_eq_false h1_2]; rfl)
   | (rw [ci, decide_eq_true (Decidable.not_not.1 h1_2), decide_eq_false h1_6]; rfl)
   | (rw [ci, decide_eq_true (Decidable.not_not.1 h1_2), decide_eq_true (Decidable.not_not.1 h1_6), decide_eq_false (fun e => h1_14 e.symm)]; rfl)
   | (trace_state; fail)
 refine ap (aW rfl rfl) rfl rfl ?_
 refine ap (ak rfl) rfl rfl ?_
 refine az rfl rfl ?_
 refine ap (aB db rfl) rfl rfl ?_
 refine az rfl rfl ?_
 refine ap (aB dc rfl) rfl rfl ?_
 refine az rfl rfl ?_
 refine ap (aM 1 gk rfl rfl rfl) rfl rfl ?_
 refine az rfl rfl ?_
 refine ap (aB dc rfl) rfl rfl ?_
 refine az rfl rfl ?_
 refine ap (aM 0 gk rfl rfl rfl) rfl rfl ?_
 refine az rfl rfl ?_
 refine ap (y_neqb Tryz.underlying4 rfl rfl) rfl rfl ?_
 refine aC (t := 20) rfl (fun h1_14 => ?_) (fun h1_14 => ?_)
 refine ap (aW rfl rfl) rfl rfl ?_
 refine ae ?_
 refine aj ?_
 refine ay rfl ?_
 refine ao ?_
 refine ab ?_
 refine ap (ai rfl) rfl rfl ?_
 refine ae ?_
 refine aj ?_
 refine aF ?_
 refine aA ?_
 refine aJ (ts := [4]) rfl rfl rfl (fun w hw => ?_)
 refine ⟨?_, hw.base⟩
 show Ending.returned (.bool _) = _
 congr 2
 focus first
   | (rw [ci, decide_eq_true hz, decide_eq_true hck, decide_eq_true hsx, decide_eq_false (fun e => by have := hif.1 e k (by omega); omega)]; rfl)
   | (rw [ci, decide_eq_true hz, decide_eq_true hck, decide_eq_true hsx, decide_eq_true (hif.2 fun i hi => hI.2 i (by omega))]; rfl)
   | (rw [ci, decide_eq_false h1_2]; rfl)
   | (rw [ci, decide_eq_true (Decidable.not_not.1 h1_2), decide_eq_false h1_6]; rfl)
   | (rw [ci, decide_eq_true (Decidable.not_not.1 h1_2), decide_eq_true (Decidable.not_not.1 h1_6), decide_eq_false (fun e => h1_14 e.symm)]; rfl)
   | (trace_state; fail)
 refine ap (aW rfl rfl) rfl rfl ?_
 refine ae ?_
 refine aj ?_
 refine au rfl ?_
 refine aH ?_
 refine aj ?_
 refine ao ?_
 refine ao ?_
 have hz : cw r = 0 := Decidable.not_not.1 h1_2
 obtain ⟨hz1, hz2, hz3, hz4⟩ := gm hz
 have hck : cn a = 0 := Decidable.not_not.1 h1_6
 have hsx : a.six = r.base.six := by simpa using (Eq.symm (Decidable.not_not.1 h1_14))
 have hwl := ga r.base
 have hwa : cr a = cr r.base := by rw [cr, cr, hsx]
 obtain ⟨m, hm⟩ : ∃ m : Nat, r.bits = m := ⟨r.bits.toNat, by omega⟩
 rw [hm] at hz4
 have hif := has_iff (m := m) hck h2 hz1 h hsx (by omega) hz4
 rw [← hm] at hif
 refine ab ?_
 refine ap (ai rfl) rfl rfl ?_
 refine ae ?_
 refine aj ?_
 refine aP ?_
 refine b8 (σ := Nat) [4, 5, 22, 23, 24, 25, 26, 27, 28, 29, 30, 31, 32, 33, 34, 35] (fun k => k ≤ m ∧ ∀ i : Nat, i < k → ec r.base i = ec a i) (fun k => m - k) (fun k => [(5, .int .i64 k)]) (0) ?_ ⟨rfl, trivial⟩ (fun k hI => ?_)
 exact ⟨Nat.zero_le _, fun i h => by omega⟩
 refine ao ?_
 refine ao ?_
 refine ab ?_
 refine ap (ak rfl) rfl rfl ?_
 refine ap (aB eP rfl) rfl rfl ?_
 refine ap (aM 1 eW rfl rfl rfl) rfl rfl ?_
 refine ap (bF rfl rfl) rfl rfl ?_
 refine aC (t := 25) rfl (fun h4_3 => ?_) (fun h4_3 => ?_)
 refine ae ?_
 refine aj ?_
 refine ay rfl ?_
 refine aH ?_
 refine aj ?_
 refine ao ?_
 refine aP ?_
 refine ao ?_
 refine eh 8 rfl mixed ?_
 refine aD (i := 0) rfl ah (aB db rfl) aw aw rfl (aa (aq (aa (av (aq (aa ar)))))) (by kernel_rfl) rfl ?_
 refine aD (i := 1) rfl ah (aK 1 aN rfl rfl rfl rfl) aw aw rfl (aa (aq (aa (av (aq (aa ar)))))) (by kernel_rfl) rfl ?_
 refine aD (i := 2) rfl ah (ak rfl) aw aw rfl (aa (aq (aa (av (aq (aa ar)))))) (by kernel_rfl) rfl ?_
 refine aD (i := 4) rfl ah (aK 0 aN rfl rfl rfl rfl) aw aw rfl (aa (aq (aa (av (aq (aa ar)))))) (by kernel_rfl) rfl ?_
 refine aD (i := 5) rfl ah (ak rfl) aw aw rfl (aa (aq (aa (av (aq (aa ar)))))) (by kernel_rfl) rfl ?_
 refine dm (i := 3) rfl rfl rfl (br rfl iz) (by kernel_rfl) rfl ?_
 refine aS rfl iz (c_bit5 r.base k h (by omega)) rfl ?_
 refine ae ?_
 refine dC aw ?_
 refine dm (i := 6) rfl rfl rfl (br rfl iz) (by kernel_rfl) rfl ?_
 refine aS rfl iz (c_bit5 a k h2 (by rw [hwa]; omega)) rfl ?_
 refine ae ?_
 refine dC aw ?_
 refine aD (i := 7) rfl ah (cv rfl rfl) aw aw rfl (aa (aq (aa (av (aq (aa ar)))))) (by kernel_rfl) rfl ?_
 refine cT (t := 35) rfl (fun h6_7 => ?_) (fun h6_7 => ?_)
 refine cB (by kernel_rfl) ?_
 refine aj ?_
 refine ay rfl ?_
 refine ao ?_
 refine ab ?_
 refine ap (ai rfl) rfl rfl ?_
 refine ae ?_
 refine aj ?_
 refine aF ?_
 refine aL ?_
 refine aA ?_
 refine bu ?_
 refine aL ?_
 refine aA ?_
 refine aJ (ts := [4]) rfl rfl rfl (fun w hw => ?_)
 refine ⟨?_, hw.base⟩
 show Ending.returned (.bool _) = _
 congr 2
 focus first
   | (rw [ci, decide_eq_true hz, decide_eq_true hck, decide_eq_true hsx, decide_eq_false (fun e => by have := hif.1 e k (by omega); omega)]; rfl)
   | (rw [ci, decide_eq_true hz, decide_eq_true hck, decide_eq_true hsx, decide_eq_true (hif.2 fun i hi => hI.2 i (by omega))]; rfl)
   | (rw [ci, decide_eq_false h1_2]; rfl)
   | (rw [ci, decide_eq_true (Decidable.not_not.1 h1_2), decide_eq_false h1_6]; rfl)
   | (rw [ci, decide_eq_true (Decidable.not_not.1 h1_2), decide_eq_true (Decidable.not_not.1 h1_6), decide_eq_false (fun e => h1_14 e.symm)]; rfl)
   | (trace_state; fail)
 refine cB (by kernel_rfl) ?_
 refine aj ?_
 refine au rfl ?_
 refine aH ?_
 refine bq ?_
 refine aj ?_
 refine ab ?_
 refine ap (ak rfl) rfl rfl ?_
 refine ap (bg rfl rfl (by omega) (by omega)) rfl rfl ?_
 refine ap (ai rfl) rfl rfl ?_
 refine ae ?_
 refine bo (k + 1) ?_ ?_ ⟨rfl, trivial⟩ (by repeat (first | exact trivial | refine ⟨rfl, ?_⟩)) aw
 refine ⟨by omega, fun i h1 => ?_⟩
 by_cases e : i = k
 · rw [e]; omega
 · exact hI.2 i (by omega)
 omega
 refine ae ?_
 refine aj ?_
 refine au rfl ?_
 refine bC ?_
 refine aY ?_
 refine aU ?_
 refine a8 ?_
 refine aj ?_
 refine ao ?_
 refine ab ?_
 refine ap (ai rfl) rfl rfl ?_
 refine ae ?_
 refine aj ?_
 refine aF ?_
 refine aJ (ts := [4]) rfl rfl rfl (fun w hw => ?_)
 refine ⟨?_, hw.base⟩
 show Ending.returned (.bool _) = _
 congr 2
 focus first
   | (rw [ci, decide_eq_true hz, decide_eq_true hck, decide_eq_true hsx, decide_eq_false (fun e => by have := hif.1 e k (by omega); omega)]; rfl)
   | (rw [ci, decide_eq_true hz, decide_eq_true hck, decide_eq_true hsx, decide_eq_true (hif.2 fun i hi => hI.2 i (by omega))]; rfl)
   | (rw [ci, decide_eq_false h1_2]; rfl)
   | (rw [ci, decide_eq_true (Decidable.not_not.1 h1_2), decide_eq_false h1_6]; rfl)
   | (rw [ci, decide_eq_true (Decidable.not_not.1 h1_2), decide_eq_true (Decidable.not_not.1 h1_6), decide_eq_false (fun e => h1_14 e.symm)]; rfl)
   | (trace_state; fail)
end Go.Proofs.YtnpdgmoeoidppaaGreat

/- law 14: what is gone through -/
namespace Go.Proofs.YtnpdgmoeoidppaaGreat
open Go.RowKit Go.Shelf
set_option linter.unusedVariables false
set_option linter.unusedSimpArgs false

theorem ent_92 : Enters Tryz.prog 92 := enters_of Tryz.func92 (by kernel_rfl) rfl
theorem gz : FA Tryz.prog 85 1 1 := fun b o w => by kernel_rfl
theorem iQ : FA Tryz.prog 85 2 2 := fun b o w => by kernel_rfl
theorem iW : TyI Tryz.prog 85 true 6 72 (.agg #[.int .i64 0, .string ⟨#[]⟩, .slice none 0 0, .bool false, .int .u64 0, .int .u64 0]) := TyI.mk' (by kernel_rfl) (fun _ => by kernel_rfl)

/-- An act. -/
structure Ac where
  kind : Int
  host : aV
  hosts : List aV
  A : Option Addr
  c : Nat
  ad : Ad
def acC (a : Ac) : List Value := [.int .i64 a.kind, .string (ba a.host), .slice a.A a.hosts.length a.c, .bool a.ad.six, .int .u64 a.ad.hi, .int .u64 a.ad.lo]
theorem gM : Enc acC 6 := ⟨fun _ => rfl, fun _ => rfl⟩
def ff : Ac := ⟨0, [], [], none, 0, ad0⟩
def acR (a : Ac) : List Ch := [Ch.rd a.A 1 dw a.hosts]
def ed (l : List aV) : Bool := decide (l.length ≤ 20) && l.all fun n => decide (n.length ≤ 400)
def bT (a : Ac) : Bool := decide (a.host.length ≤ 400) && ed a.hosts
def bG (rg : Rg) (nr : Nat) (acts : List Ac) : Bool := acts.all bT && (decide (acts.length ≤ 60) && (decide (nr ≤ 6) && decide (bj rg ≤ 128)))
theorem cN {α : Type} {f : α → Bool} {l : List α} {i : Nat} {d : α} (hi : i < l.length) (h : f (l.getD i d) = false) : l.all f = false := by
  rw [Bool.eq_false_iff]; intro e
  have := List.all_eq_true.1 e _ (bX (d := d) hi)
  rw [h] at this; cases this
theorem gq {α : Type} {f : α → Bool} {l : List α} {d : α} (h : ∀ q, q < l.length → f (l.getD q d) = true) : l.all f = true := List.all_eq_true.2 fun x hx => by
  obtain ⟨q, hq, rfl⟩ := List.mem_iff_getElem.1 hx
  have := h q hq
  rw [List.getD_eq_getElem?_getD, List.getElem?_eq_getElem hq] at this; exact this

set_option maxRecDepth 100000 in
theorem c_light14 (rg : Rg) (nr : Nat) (A : Option Addr) (c : Nat) (acts : List Ac) (F : Option Addr) (e : Nat) (hr : gO rg.base) (hn : nr ≤ 9223372036854775807) (hal : acts.length ≤ 9223372036854775807) : RC Tryz.prog 32 #[.agg (plC rg A nr c).toArray, .slice F acts.length e] [Ch.rd F 6 acC acts, Ch.rall (acts.flatMap acR)] (α := Unit) (fun _ => .bool (bG rg nr acts)) (fun _ => []) := by
 refine bi (args := [.agg (plC rg A nr c).toArray, .slice F acts.length e]) 64 Tryz.func32 rfl rfl rfl (fun w0 => ?_)
 refine ao ?_
 refine ab ?_
 refine bE rfl rfl rfl (fun b1 => ?_)
 refine ap (ai rfl) rfl rfl ?_
 refine ae ?_
 refine aj ?_
 refine ao ?_
 refine ao ?_
 refine ab ?_
 refine ap (ai rfl) rfl rfl ?_
 refine ae ?_
 refine aj ?_
 refine aP ?_
 refine b8 (σ := Nat) [4, 5, 6, 7, 8, 9, 10, 11, 12, 13, 14, 15, 16, 17, 18, 19, 20, 21, 22, 23, 24, 25, 26, 27, 28, 29, 30, 31, 32, 33, 34, 35, 36, 37, 38, 39, 40, 41, 42, 43, 44, 45, 46, 47, 48] (fun i => i ≤ acts.length ∧ ∀ q, q < i → bT (acts.getD q ff) = true) (fun i => acts.length - i) (fun i => [(5, .int .i64 i)]) (0) ?_ ⟨rfl, trivial⟩ (fun i hI => ?_)
 exact ⟨Nat.zero_le _, nofun⟩
 refine ao ?_
 refine ao ?_
 refine ab ?_
 refine ap (ak rfl) rfl rfl ?_
 refine ap (ak rfl) rfl rfl ?_
 refine ap (bM Tryz.underlying86 rfl) rfl rfl ?_
 refine ap (bF rfl rfl) rfl rfl ?_
 refine aC (t := 10) rfl (fun h2_3 => ?_) (fun h2_3 => ?_)
 have hi : i < acts.length := by omega
 refine ae ?_
 refine aj ?_
 refine ay rfl ?_
 refine aH ?_
 refine aj ?_
 refine ao ?_
 refine aP ?_
 refine ao ?_
 refine ao ?_
 refine ab ?_
 refine ap (ak rfl) rfl rfl ?_
 refine ap (ak rfl) rfl rfl ?_
 refine ap (bP  Tryz.underlying86 iW rfl rfl (bY 0 rfl) rfl (by omega)) rfl rfl ?_
 refine ap (aB gz rfl) rfl rfl ?_
 refine ap (y_ldm 1 gM ff bL rfl (bY 0 rfl) (by omega) rfl rfl) rfl rfl ?_
 refine ap (dW Tryz.underlying26 rfl) rfl rfl ?_
 refine ap (eI rfl rfl) rfl rfl ?_
 refine aC (t := 19) rfl (fun h4_6 => ?_) (fun h4_6 => ?_)
 refine ap (ak rfl) rfl rfl ?_
 refine aO rfl rfl rfl rfl ?_
 refine aO rfl rfl rfl rfl ?_
 refine aO rfl rfl rfl rfl ?_
 refine aO rfl rfl rfl rfl ?_
 refine aO rfl rfl rfl rfl ?_
 refine aO rfl rfl rfl rfl ?_
 refine aO rfl rfl rfl rfl ?_
 refine ap (aX rfl rfl) rfl rfl ?_
 refine ae ?_
 refine aj ?_
 refine ay rfl ?_
 refine ao ?_
 refine ab ?_
 refine ap (ai rfl) rfl rfl ?_
 refine ae ?_
 refine aj ?_
 refine aF ?_
 refine aA ?_
 refine aL ?_
 refine aA ?_
 refine bu ?_
 refine aL ?_
 refine aA ?_
 refine aJ (ts := [4]) rfl rfl rfl (fun w hw => ?_)
 focus first
   | (have hE : bG rg nr acts = false := by rw [bG, cN (d := ff) hi (by rw [bT, decide_eq_false (by omega)]; rfl)]; rfl
      exact ⟨(), by rw [hE]; rfl, hw.base, (hw.weak (List.nil_sublist _) (fun s hs => hs)).toNews⟩)
   | (have hE : bG rg nr acts = false := by rw [bG, cN (d := ff) hi (by rw [bT, ed, decide_eq_false (p := (acts.getD i ff).hosts.length ≤ 20) (by omega), Bool.false_and, Bool.and_false])]; rfl
      exact ⟨(), by rw [hE]; rfl, hw.base, (hw.weak (List.nil_sublist _) (fun s hs => hs)).toNews⟩)
   | (have hE : bG rg nr acts = false := by rw [bG, cN (d := ff) hi (by rw [bT, ed, cN (d := ([] : aV)) hk (decide_eq_false (by omega)), Bool.and_false, Bool.and_false])]; rfl
      exact ⟨(), by rw [hE]; rfl, hw.base, (hw.weak (List.nil_sublist _) (fun s hs => hs)).toNews⟩)
   | (have hE : acts.all bT = true := gq (d := ff) (fun q hq => hI.2 q (by omega))
      refine ⟨(), ?_, hw.base, (hw.weak (List.nil_sublist _) (fun s hs => hs)).toNews⟩
      show Ending.returned (.bool _) = _
      congr 2
      rw [bG, hE, Bool.true_and]
      focus first
        | (rw [decide_eq_false (p := acts.length ≤ 60) (by omega)]; rfl)
        | (rw [decide_eq_true (p := acts.length ≤ 60) (by omega), decide_eq_false (p := nr ≤ 6) (by omega)]; rfl)
        | (rw [decide_eq_true (p := acts.length ≤ 60) (by omega), decide_eq_true (p := nr ≤ 6) (by omega), Bool.true_and, Bool.true_and, decide_eq_decide]; omega))
   | (trace_state; fail)
 refine ap (ak rfl) rfl rfl ?_
 refine az rfl rfl ?_
 refine ap (ak rfl) rfl rfl ?_
 refine az rfl rfl ?_
 refine ap (ak rfl) rfl rfl ?_
 refine az rfl rfl ?_
 refine ap (bP  Tryz.underlying86 iW rfl rfl (bY 0 rfl) rfl (by omega)) rfl rfl ?_
 refine az rfl rfl ?_
 refine ap (aB iQ rfl) rfl rfl ?_
 refine az rfl rfl ?_
 refine ap (y_ldm 2 gM ff ty_59 rfl (bY 0 rfl) (by omega) rfl rfl) rfl rfl ?_
 refine az rfl rfl ?_
 refine ap (bM Tryz.underlying59 rfl) rfl rfl ?_
 refine az rfl rfl ?_
 refine ap (eI rfl rfl) rfl rfl ?_
 refine aC (t := 27) rfl (fun h4_14 => ?_) (fun h4_14 => ?_)
 refine ap (aW rfl rfl) rfl rfl ?_
 refine ae ?_
 refine aj ?_
 refine ay rfl ?_
 refine ao ?_
 refine ab ?_
 refine ap (ai rfl) rfl rfl ?_
 refine ae ?_
 refine aj ?_
 refine aF ?_
 refine aA ?_
 refine aL ?_
 refine aA ?_
 refine bu ?_
 refine aL ?_
 refine aA ?_
 refine aJ (ts := [4]) rfl rfl rfl (fun w hw => ?_)
 focus first
   | (have hE : bG rg nr acts = false := by rw [bG, cN (d := ff) hi (by rw [bT, decide_eq_false (by omega)]; rfl)]; rfl
      exact ⟨(), by rw [hE]; rfl, hw.base, (hw.weak (List.nil_sublist _) (fun s hs => hs)).toNews⟩)
   | (have hE : bG rg nr acts = false := by rw [bG, cN (d := ff) hi (by rw [bT, ed, decide_eq_false (p := (acts.getD i ff).hosts.length ≤ 20) (by omega), Bool.false_and, Bool.and_false])]; rfl
      exact ⟨(), by rw [hE]; rfl, hw.base, (hw.weak (List.nil_sublist _) (fun s hs => hs)).toNews⟩)
   | (have hE : bG rg nr acts = false := by rw [bG, cN (d := ff) hi (by rw [bT, ed, cN (d := ([] : aV)) hk (decide_eq_false (by omega)), Bool.and_false, Bool.and_false])]; rfl
      exact ⟨(), by rw [hE]; rfl, hw.base, (hw.weak (List.nil_sublist _) (fun s hs => hs)).toNews⟩)
   | (have hE : acts.all bT = true := gq (d := ff) (fun q hq => hI.2 q (by omega))
      refine ⟨(), ?_, hw.base, (hw.weak (List.nil_sublist _) (fun s hs => hs)).toNews⟩
      show Ending.returned (.bool _) = _
      congr 2
      rw [bG, hE, Bool.true_and]
      focus first
        | (rw [decide_eq_false (p := acts.length ≤ 60) (by omega)]; rfl)
        | (rw [decide_eq_true (p := acts.length ≤ 60) (by omega), decide_eq_false (p := nr ≤ 6) (by omega)]; rfl)
        | (rw [decide_eq_true (p := acts.length ≤ 60) (by omega), decide_eq_true (p := nr ≤ 6) (by omega), Bool.true_and, Bool.true_and, decide_eq_decide]; omega))
   | (trace_state; fail)
 refine ap (aW rfl rfl) rfl rfl ?_
 refine ae ?_
 refine aj ?_
 refine au rfl ?_
 refine aH ?_
 refine aj ?_
 refine ao ?_
 have hIo := hI
 refine ab ?_
 refine ap (ai rfl) rfl rfl ?_
 refine ae ?_
 refine aj ?_
 refine aP ?_
 refine b8 (σ := Nat) [4, 6, 29, 30, 31, 32, 33, 34, 35, 36, 37, 38, 39, 40, 41, 42, 43, 44, 45, 46, 47, 48] (fun k => k ≤ (acts.getD i ff).hosts.length ∧ ∀ q, q < k → decide (((acts.getD i ff).hosts.getD q []).length ≤ 400) = true) (fun k => (acts.getD i ff).hosts.length - k) (fun k => [(6, .int .i64 k)]) (0) ?_ ⟨rfl, trivial⟩ (fun k hI => ?_)
 exact ⟨Nat.zero_le _, nofun⟩
 refine ao ?_
 refine ao ?_
 refine ab ?_
 refine ap (ak rfl) rfl rfl ?_
 refine ap (ak rfl) rfl rfl ?_
 refine ap (ak rfl) rfl rfl ?_
 refine ap (bP  Tryz.underlying86 iW rfl rfl (bY 0 rfl) rfl (by omega)) rfl rfl ?_
 refine ap (aB iQ rfl) rfl rfl ?_
 refine ap (y_ldm 2 gM ff ty_59 rfl (bY 0 rfl) (by omega) rfl rfl) rfl rfl ?_
 refine ap (bM Tryz.underlying59 rfl) rfl rfl ?_
 refine ap (bF rfl rfl) rfl rfl ?_
 refine aC (t := 36) rfl (fun h7_7 => ?_) (fun h7_7 => ?_)
 have hk : k < (acts.getD i ff).hosts.length := by omega
 refine ae ?_
 refine aj ?_
 refine ay rfl ?_
 refine aH ?_
 refine aj ?_
 refine ao ?_
 refine aP ?_
 refine ao ?_
 refine ab ?_
 refine ap (ak rfl) rfl rfl ?_
 refine ap (ak rfl) rfl rfl ?_
 refine ap (bP  Tryz.underlying86 iW rfl rfl (bY 0 rfl) rfl (by omega)) rfl rfl ?_
 refine ap (aB iQ rfl) rfl rfl ?_
 refine ap (y_ldm 2 gM ff ty_59 rfl (bY 0 rfl) (by omega) rfl rfl) rfl rfl ?_
 refine ap (ak rfl) rfl rfl ?_
 refine ap (bP  Tryz.underlying59 bL rfl rfl (fun w hw => (rd_all (cI 1 rfl hw) ((List.mem_flatMap.2 ⟨_, bX (d := ff) hi, .head _⟩))).1) rfl (by omega)) rfl rfl ?_
 refine ap (cG dq ([] : aV) bL rfl (fun w hw => (rd_all (cI 1 rfl hw) ((List.mem_flatMap.2 ⟨_, bX (d := ff) hi, .head _⟩))).1) (by omega) rfl rfl) rfl rfl ?_
 refine ap (dW Tryz.underlying26 rfl) rfl rfl ?_
 refine ap (eI rfl rfl) rfl rfl ?_
 refine aC (t := 48) rfl (fun h9_9 => ?_) (fun h9_9 => ?_)
 refine ae ?_
 refine aj ?_
 refine ay rfl ?_
 refine ao ?_
 refine ab ?_
 refine ap (ai rfl) rfl rfl ?_
 refine ae ?_
 refine aj ?_
 refine aF ?_
 refine aL ?_
 refine aA ?_
 refine bu ?_
 refine aL ?_
 refine aL ?_
 refine aA ?_
 refine bu ?_
 refine aL ?_
 refine aA ?_
 refine aJ (ts := [4]) rfl rfl rfl (fun w hw => ?_)
 focus first
   | (have hE : bG rg nr acts = false := by rw [bG, cN (d := ff) hi (by rw [bT, decide_eq_false (by omega)]; rfl)]; rfl
      exact ⟨(), by rw [hE]; rfl, hw.base, (hw.weak (List.nil_sublist _) (fun s hs => hs)).toNews⟩)
   | (have hE : bG rg nr acts = false := by rw [bG, cN (d := ff) hi (by rw [bT, ed, decide_eq_false (p := (acts.getD i ff).hosts.length ≤ 20) (by omega), Bool.false_and, Bool.and_false])]; rfl
      exact ⟨(), by rw [hE]; rfl, hw.base, (hw.weak (List.nil_sublist _) (fun s hs => hs)).toNews⟩)
   | (have hE : bG rg nr acts = false := by rw [bG, cN (d := ff) hi (by rw [bT, ed, cN (d := ([] : aV)) hk (decide_eq_false (by omega)), Bool.and_false, Bool.and_false])]; rfl
      exact ⟨(), by rw [hE]; rfl, hw.base, (hw.weak (List.nil_sublist _) (fun s hs => hs)).toNews⟩)
   | (have hE : acts.all bT = true := gq (d := ff) (fun q hq => hI.2 q (by omega))
      refine ⟨(), ?_, hw.base, (hw.weak (List.nil_sublist _) (fun s hs => hs)).toNews⟩
      show Ending.returned (.bool _) = _
      congr 2
      rw [bG, hE, Bool.true_and]
      focus first
        | (rw [decide_eq_false (p := acts.length ≤ 60) (by omega)]; rfl)
        | (rw [decide_eq_true (p := acts.length ≤ 60) (by omega), decide_eq_false (p := nr ≤ 6) (by omega)]; rfl)
        | (rw [decide_eq_true (p := acts.length ≤ 60) (by omega), decide_eq_true (p := nr ≤ 6) (by omega), Bool.true_and, Bool.true_and, decide_eq_decide]; omega))
   | (trace_state; fail)
 refine ae ?_
 refine aj ?_
 refine au rfl ?_
 refine aH ?_
 refine bq ?_
 refine aj ?_
 refine ab ?_
 refine ap (ak rfl) rfl rfl ?_
 refine ap (bg rfl rfl (by omega) (by omega)) rfl rfl ?_
 refine ap (ai rfl) rfl rfl ?_
 refine ae ?_
 refine bo (k + 1) ?_ ?_ ⟨rfl, trivial⟩ (by repeat (first | exact trivial | refine ⟨rfl, ?_⟩)) aw
 refine ⟨by omega, fun q hq => ?_⟩
 by_cases e9 : q = k
 · rw [e9]; exact decide_eq_true (by omega)
 · exact hI.2 q (by omega)
 omega
 refine ae ?_
 refine aj ?_
 refine au rfl ?_
 refine bC ?_
 refine aY ?_
 refine aU ?_
 refine a8 ?_
 refine bq ?_
 refine aj ?_
 refine ab ?_
 refine ap (ak rfl) rfl rfl ?_
 refine ap (bg rfl rfl (by omega) (by omega)) rfl rfl ?_
 refine ap (ai rfl) rfl rfl ?_
 refine ae ?_
 refine bo (i + 1) ?_ ?_ ⟨rfl, trivial⟩ (by repeat (first | exact trivial | refine ⟨rfl, ?_⟩)) aw
 refine ⟨by omega, fun q hq => ?_⟩
 by_cases e9 : q = i
 · rw [e9, bT, decide_eq_true (by omega), ed, decide_eq_true (p := (acts.getD i ff).hosts.length ≤ 20) (by omega), gq (d := ([] : aV)) (fun q hq => hI.2 q (by omega))]; rfl
 · exact hIo.2 q (by omega)
 omega
 refine ae ?_
 refine aj ?_
 refine au rfl ?_
 refine bC ?_
 refine aY ?_
 refine aU ?_
 refine a8 ?_
 refine aj ?_
 refine ao ?_
 refine ab ?_
 refine ap (ak rfl) rfl rfl ?_
 refine ap (bM Tryz.underlying86 rfl) rfl rfl ?_
 refine ap (y_leq rfl rfl) rfl rfl ?_
 refine aC (t := 51) rfl (fun h11_2 => ?_) (fun h11_2 => ?_)
 refine ap (ak rfl) rfl rfl ?_
 refine az rfl rfl ?_
 refine ap (aB eb rfl) rfl rfl ?_
 refine az rfl rfl ?_
 refine ap (aM 0 fZ rfl rfl rfl) rfl rfl ?_
 refine az rfl rfl ?_
 refine ap (bM Tryz.underlying65 rfl) rfl rfl ?_
 refine az rfl rfl ?_
 refine ap (y_leq rfl rfl) rfl rfl ?_
 refine aC (t := 56) rfl (fun h11_7 => ?_) (fun h11_7 => ?_)
 refine ap (aX rfl rfl) rfl rfl ?_
 refine ap (ak rfl) rfl rfl ?_
 refine az rfl rfl ?_
 refine ap (aB d7 rfl) rfl rfl ?_
 refine az rfl rfl ?_
 refine ap (aK 0 cm rfl rfl rfl rfl) rfl rfl ?_
 refine az rfl rfl ?_
 refine aS rfl ent_92 (fK rg hr) rfl ?_
 refine az rfl rfl ?_
 refine ap (y_leq rfl rfl) rfl rfl ?_
 refine ap (aX rfl rfl) rfl rfl ?_
 refine ap (ai rfl) rfl rfl ?_
 refine ae ?_
 refine aj ?_
 refine aF ?_
 refine aJ (ts := [4]) rfl rfl rfl (fun w hw => ?_)
 focus first
   | (have hE : bG rg nr acts = false := by rw [bG, cN (d := ff) hi (by rw [bT, decide_eq_false (by omega)]; rfl)]; rfl
      exact ⟨(), by rw [hE]; rfl, hw.base, (hw.weak (List.nil_sublist _) (fun s hs => hs)).toNews⟩)
   | (have hE : bG rg nr acts = false := by rw [bG, cN (d := ff) hi (by rw [bT, ed, decide_eq_false (p := (acts.getD i ff).hosts.length ≤ 20) (by omega), Bool.false_and, Bool.and_false])]; rfl
      exact ⟨(), by rw [hE]; rfl, hw.base, (hw.weak (List.nil_sublist _) (fun s hs => hs)).toNews⟩)
   | (have hE : bG rg nr acts = false := by rw [bG, cN (d := ff) hi (by rw [bT, ed, cN (d := ([] : aV)) hk (decide_eq_false (by omega)), Bool.and_false, Bool.and_false])]; rfl
      exact ⟨(), by rw [hE]; rfl, hw.base, (hw.weak (List.nil_sublist _) (fun s hs => hs)).toNews⟩)
   | (have hE : acts.all bT = true := gq (d := ff) (fun q hq => hI.2 q (by omega))
      refine ⟨(), ?_, hw.base, (hw.weak (List.nil_sublist _) (fun s hs => hs)).toNews⟩
      show Ending.returned (.bool _) = _
      congr 2
      rw [bG, hE, Bool.true_and]
      focus first
        | (rw [decide_eq_false (p := acts.length ≤ 60) (by omega)]; rfl)
        | (rw [decide_eq_true (p := acts.length ≤ 60) (by omega), decide_eq_false (p := nr ≤ 6) (by omega)]; rfl)
        | (rw [decide_eq_true (p := acts.length ≤ 60) (by omega), decide_eq_true (p := nr ≤ 6) (by omega), Bool.true_and, Bool.true_and, decide_eq_decide]; omega))
   | (trace_state; fail)
 refine ap (aX rfl rfl) rfl rfl ?_
 refine ap (ak rfl) rfl rfl ?_
 refine aO rfl rfl rfl rfl ?_
 refine aO rfl rfl rfl rfl ?_
 refine aO rfl rfl rfl rfl ?_
 refine aO rfl rfl rfl rfl ?_
 refine ap (aW rfl rfl) rfl rfl ?_
 refine ap (ai rfl) rfl rfl ?_
 refine ae ?_
 refine aj ?_
 refine aF ?_
 refine aJ (ts := [4]) rfl rfl rfl (fun w hw => ?_)
 focus first
   | (have hE : bG rg nr acts = false := by rw [bG, cN (d := ff) hi (by rw [bT, decide_eq_false (by omega)]; rfl)]; rfl
      exact ⟨(), by rw [hE]; rfl, hw.base, (hw.weak (List.nil_sublist _) (fun s hs => hs)).toNews⟩)
   | (have hE : bG rg nr acts = false := by rw [bG, cN (d := ff) hi (by rw [bT, ed, decide_eq_false (p := (acts.getD i ff).hosts.length ≤ 20) (by omega), Bool.false_and, Bool.and_false])]; rfl
      exact ⟨(), by rw [hE]; rfl, hw.base, (hw.weak (List.nil_sublist _) (fun s hs => hs)).toNews⟩)
   | (have hE : bG rg nr acts = false := by rw [bG, cN (d := ff) hi (by rw [bT, ed, cN (d := ([] : aV)) hk (decide_eq_false (by omega)), Bool.and_false, Bool.and_false])]; rfl
      exact ⟨(), by rw [hE]; rfl, hw.base, (hw.weak (List.nil_sublist _) (fun s hs => hs)).toNews⟩)
   | (have hE : acts.all bT = true := gq (d := ff) (fun q hq => hI.2 q (by omega))
      refine ⟨(), ?_, hw.base, (hw.weak (List.nil_sublist _) (fun s hs => hs)).toNews⟩
      show Ending.returned (.bool _) = _
      congr 2
      rw [bG, hE, Bool.true_and]
      focus first
        | (rw [decide_eq_false (p := acts.length ≤ 60) (by omega)]; rfl)
        | (rw [decide_eq_true (p := acts.length ≤ 60) (by omega), decide_eq_false (p := nr ≤ 6) (by omega)]; rfl)
        | (rw [decide_eq_true (p := acts.length ≤ 60) (by omega), decide_eq_true (p := nr ≤ 6) (by omega), Bool.true_and, Bool.true_and, decide_eq_decide]; omega))
   | (trace_state; fail)
 refine ap (ak rfl) rfl rfl ?_
 refine aO rfl rfl rfl rfl ?_
 refine aO rfl rfl rfl rfl ?_
 refine aO rfl rfl rfl rfl ?_
 refine aO rfl rfl rfl rfl ?_
 refine ap (aW rfl rfl) rfl rfl ?_
 refine ap (ak rfl) rfl rfl ?_
 refine aO rfl rfl rfl rfl ?_
 refine aO rfl rfl rfl rfl ?_
 refine aO rfl rfl rfl rfl ?_
 refine aO rfl rfl rfl rfl ?_
 refine ap (aW rfl rfl) rfl rfl ?_
 refine ap (ai rfl) rfl rfl ?_
 refine ae ?_
 refine aj ?_
 refine aF ?_
 refine aJ (ts := [4]) rfl rfl rfl (fun w hw => ?_)
 focus first
   | (have hE : bG rg nr acts = false := by rw [bG, cN (d := ff) hi (by rw [bT, decide_eq_false (by omega)]; rfl)]; rfl
      exact ⟨(), by rw [hE]; rfl, hw.base, (hw.weak (List.nil_sublist _) (fun s hs => hs)).toNews⟩)
   | (have hE : bG rg nr acts = false := by rw [bG, cN (d := ff) hi (by rw [bT, ed, decide_eq_false (p := (acts.getD i ff).hosts.length ≤ 20) (by omega), Bool.false_and, Bool.and_false])]; rfl
      exact ⟨(), by rw [hE]; rfl, hw.base, (hw.weak (List.nil_sublist _) (fun s hs => hs)).toNews⟩)
   | (have hE : bG rg nr acts = false := by rw [bG, cN (d := ff) hi (by rw [bT, ed, cN (d := ([] : aV)) hk (decide_eq_false (by omega)), Bool.and_false, Bool.and_false])]; rfl
      exact ⟨(), by rw [hE]; rfl, hw.base, (hw.weak (List.nil_sublist _) (fun s hs => hs)).toNews⟩)
   | (have hE : acts.all bT = true := gq (d := ff) (fun q hq => hI.2 q (by omega))
      refine ⟨(), ?_, hw.base, (hw.weak (List.nil_sublist _) (fun s hs => hs)).toNews⟩
      show Ending.returned (.bool _) = _
      congr 2
      rw [bG, hE, Bool.true_and]
      focus first
        | (rw [decide_eq_false (p := acts.length ≤ 60) (by omega)]; rfl)
        | (rw [decide_eq_true (p := acts.length ≤ 60) (by omega), decide_eq_false (p := nr ≤ 6) (by omega)]; rfl)
        | (rw [decide_eq_true (p := acts.length ≤ 60) (by omega), decide_eq_true (p := nr ≤ 6) (by omega), Bool.true_and, Bool.true_and, decide_eq_decide]; omega))
   | (trace_state; fail)
end Go.Proofs.YtnpdgmoeoidppaaGreat

/- law 14: what is handed in -/
namespace Go.Proofs.YtnpdgmoeoidppaaGreat
open Go.RowKit Go.Shelf
set_option linter.unusedVariables false
set_option linter.unusedSimpArgs false

theorem dc_rg {w : World} : Dc Tryz.prog w 64 (α := Rg) (dR) (fun _ => []) (RgOk) := fun H enc base sp hd fuel cs x h => by
  obtain ⟨xs, n, rfl, _, hcl, hxl, hf⟩ := DataW.trod_struct Tryz.underlying64 h
  have hcl2 : cs.length = 4 := hcl.trans (by kernel_rfl)
  obtain ⟨x0, c0, r0, o0⟩ := dI hxl hf 0 (ft := 29) (off := 0) (k := 3) (by kernel_rfl) (by kernel_rfl) dc_ad
  obtain ⟨x1, c1, r1, o1⟩ := dI hxl hf 1 (ft := 3) (off := 3) (k := 1) (by kernel_rfl) (by kernel_rfl) (dc_int Tryz.underlying3)
  have hcs := cut0 (cutc c0 (cutc c1 (cutn hcl2) rfl) rfl)
  exact ⟨⟨x0, x1⟩, hcs, nofun, o0, o1.1, o1.2⟩

theorem dc_rgs {w : World} : Dc Tryz.prog w 65 (fun p : List Rg × Option Addr × Nat => [.slice p.2.1 p.1.length p.2.2]) (fun p => Ch.rd p.2.1 4 dR p.1 :: p.1.flatMap (fun _ => [])) (fun p => p.1.length ≤ 9223372036854775807 ∧ ∀ x ∈ p.1, RgOk x) := dc_slice Tryz.underlying65 (by kernel_rfl) (by decide) fO dc_rg

theorem dc_pl {w : World} : Dc Tryz.prog w 67 (α := Rg × List Rg × Option Addr × Nat) (fun q => plC q.1 q.2.2.1 q.2.1.length q.2.2.2) (fun q => [Ch.rd q.2.2.1 4 dR q.2.1]) (fun q => RgOk q.1 ∧ q.2.1.length ≤ 9223372036854775807 ∧ ∀ x ∈ q.2.1, RgOk x) := fun H enc base sp hd fuel cs x h => by
  obtain ⟨xs, n, rfl, _, hcl, hxl, hf⟩ := DataW.trod_struct Tryz.underlying67 h
  have hcl2 : cs.length = 5 := hcl.trans (by kernel_rfl)
  obtain ⟨x0, c0, r0, o0⟩ := dI hxl hf 0 (ft := 64) (off := 0) (k := 4) (by kernel_rfl) (by kernel_rfl) dc_rg
  obtain ⟨⟨x1, A, c⟩, c1, r1, o1⟩ := dI hxl hf 1 (ft := 65) (off := 4) (k := 1) (by kernel_rfl) (by kernel_rfl) dc_rgs
  have hcs := cut0 (cutc c0 (cutc c1 (cutn hcl2) rfl) rfl)
  exact ⟨(x0, x1, A, c), hcs, aQ (r1 _ List.mem_cons_self) nofun, o0, o1⟩

end Go.Proofs.YtnpdgmoeoidppaaGreat
