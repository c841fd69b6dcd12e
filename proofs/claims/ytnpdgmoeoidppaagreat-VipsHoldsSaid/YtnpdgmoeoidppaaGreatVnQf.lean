import Derived.Test.YtnpdgmoeoidppaaGreatVkQf
import Derived.Test.YtnpdgmoeoidppaaGreatVjQf
/- ranges: the document's answer -/
namespace Go.Proofs.YtnpdgmoeoidppaaGreat
open Go.RowKit Go.Shelf
set_option linter.unusedVariables false
set_option linter.unusedSimpArgs false

theorem ent_160 : Enters Tryz.prog 160 := enters_of Tryz.func160 (by kernel_rfl) rfl
theorem ent_161 : Enters Tryz.prog 161 := enters_of Tryz.func161 (by kernel_rfl) rfl
theorem iD : Enters Tryz.prog 163 := enters_of Tryz.func163 (by kernel_rfl) rfl

theorem eF {x k : Int} {K : Nat} (hx : 0 ≤ x ∧ x ≤ 18446744073709551615) (hk : k = K) (hK : K < 64) : bits .and .u64 (x.fdiv (2 ^ min k.toNat IntKind.u64.bits)) 1 = ((x.toNat / 2 ^ K % 2 : Nat) : Int) := by
  subst hk
  obtain ⟨X, rfl⟩ := Int.eq_ofNat_of_zero_le hx.1
  rw [Int.toNat_natCast, show min K IntKind.u64.bits = K from Nat.min_eq_left (by show K ≤ 64; omega)]
  rw [Int.fdiv_eq_ediv_of_nonneg _ (by exact_mod_cast Nat.zero_le (2 ^ K))]
  have e : ((X : Int) / 2 ^ K) = ((X / 2 ^ K : Nat) : Int) := by rw [Int.natCast_ediv, Int.natCast_pow]; rfl
  rw [e]
  have h1 := andI_nat (a := X / 2 ^ K) (b := 1) (Nat.lt_of_le_of_lt (Nat.div_le_self _ _) (by omega)) (by decide)
  rw [Nat.and_one_is_mod] at h1
  exact h1
theorem head_iff {a : Ad} {m : Nat} (hc : bX a = 0) (ha : f7 a) (hm : (m : Int) ≤ ci a) : fC a m = a ↔ ∀ i : Nat, m ≤ i → (i : Int) < ci a → dI a i = 0 := by
  obtain ⟨h1, h2, h3, h4⟩ := ha
  have h64 : (2 : Nat) ^ 64 = 18446744073709551616 := by decide
  have h32 : (2 : Nat) ^ 32 = 4294967296 := by decide
  by_cases h6 : a.six = true
  · rw [ci, if_pos h6] at hm ⊢
    rw [gu h6 (by omega) ⟨h1, h2⟩ ⟨h3, h4⟩]
    have c1 := cut_self (n := 64) (m := min m 64) (x := a.hi.toNat) (Nat.min_le_right _ _)
    have c2 := cut_self (n := 64) (m := m - 64) (x := a.lo.toNat) (by omega)
    have e : (⟨a.six, (ez 64 (min m 64) a.hi.toNat : Nat), (ez 64 (m - 64) a.lo.toNat : Nat)⟩ : Ad) = a ↔ ez 64 (min m 64) a.hi.toNat = a.hi.toNat ∧ ez 64 (m - 64) a.lo.toNat = a.lo.toNat := by
      constructor
      · intro h
        have g1 := congrArg Ad.hi h; have g2 := congrArg Ad.lo h
        simp only at g1 g2
        omega
      · intro h
        obtain ⟨s, hi, lo⟩ := a
        simp only [Ad.mk.injEq, true_and]
        simp only at h h1 h3
        omega
    rw [e, c1, c2]
    constructor
    · intro h i hi1 hi2
      rw [dI, if_pos h6]
      split
      · exact h.1 i (by omega) (by omega)
      · exact h.2 (i - 64) (by omega) (by omega)
    · intro h
      refine ⟨fun i i1 i2 => ?_, fun i i1 i2 => ?_⟩
      · have := h i (by omega) (by omega)
        rw [dI, if_pos h6, if_pos (by omega)] at this; exact this
      · have := h (i + 64) (by omega) (by omega)
        rw [dI, if_pos h6, if_neg (by omega), Nat.add_sub_cancel] at this; exact this
  · have h6 : a.six = false := by simpa using h6
    have hlo : a.lo < 4294967296 ∧ a.hi = 0 := by
      unfold bX at hc
      split at hc
      · exact absurd hc (by decide)
      · rename_i q; have q2 : ¬ (a.hi ≠ 0 ∨ 4294967296 ≤ a.lo) := fun x => q ⟨h6, x⟩; omega
    rw [ci, if_neg (by rw [h6]; decide)] at hm ⊢
    rw [fo h6 (by omega) ⟨h3, hlo.1⟩]
    have c2 := cut_self (n := 32) (m := m) (x := a.lo.toNat) (by omega)
    have e : (⟨a.six, a.hi, (ez 32 m a.lo.toNat : Nat)⟩ : Ad) = a ↔ ez 32 m a.lo.toNat = a.lo.toNat := by
      constructor
      · intro h
        have g2 := congrArg Ad.lo h
        simp only at g2
        omega
      · intro h
        obtain ⟨s, hi, lo⟩ := a
        simp only [Ad.mk.injEq, true_and]
        simp only at h h3
        omega
    rw [e, c2]
    constructor
    · intro h i hi1 hi2
      rw [dI, if_neg (by rw [h6]; decide)]; exact h i hi1 (by omega)
    · intro h i i1 i2
      have := h i i1 (by omega)
      rw [dI, if_neg (by rw [h6]; decide)] at this; exact this

theorem c_wide5 (a : Ad) : Pure Tryz.prog 161 #[.agg (dW a).toArray] (.int .i64 (ci a)) := by
 intro w0
 refine bb (ok0 := no) (S := []) (args := [.agg (dW a).toArray]) 5 Tryz.func161 rfl rfl rfl (by simp) (by simp) ?_
 refine ap ?_
 refine ab ?_
 refine bI rfl rfl rfl (fun b1 => ?_)
 refine aq (ai rfl) rfl rfl ?_
 refine ae ?_
 refine ak ?_
 refine ap ?_
 refine ap ?_
 refine ab ?_
 refine aq (aF dh rfl) rfl rfl ?_
 refine aq (aQ 0 gG rfl rfl rfl) rfl rfl ?_
 refine bi (t := 4) rfl (fun h1_1 => ?_) (fun h1_1 => ?_)
 refine ae ?_
 refine ak ?_
 refine aA rfl ?_
 refine ap ?_
 refine ab ?_
 refine aq (ai rfl) rfl rfl ?_
 refine ae ?_
 refine ak ?_
 refine aJ ?_
 refine aC ?_
 refine aN (ts := [2]) rfl rfl rfl (fun w hw => ?_)
 exact ⟨by rw [ci, if_pos h1_1]; rfl, hw.base⟩
 refine ae ?_
 refine ak ?_
 refine ay rfl ?_
 refine aH ?_
 refine ak ?_
 refine ap ?_
 refine ab ?_
 refine aq (ai rfl) rfl rfl ?_
 refine ae ?_
 refine ak ?_
 refine aJ ?_
 refine aN (ts := [2]) rfl rfl rfl (fun w hw => ?_)
 exact ⟨by rw [ci, if_neg (by rw [h1_1]; decide)]; rfl, hw.base⟩

theorem c_bit5 (a : Ad) (i : Nat) (h : f7 a) (hi : (i : Int) < ci a) : Pure Tryz.prog 163 #[.agg (dW a).toArray, .int .i64 i] (.int .u64 (dI a i)) := by
 intro w0
 refine bb (ok0 := no) (S := []) (args := [.agg (dW a).toArray, .int .i64 i]) 31 Tryz.func163 rfl rfl rfl (by simp) (by simp) ?_
 refine ap ?_
 refine ab ?_
 refine bI rfl rfl rfl (fun b1 => ?_)
 refine aq (ai rfl) rfl rfl ?_
 refine ae ?_
 refine ak ?_
 refine ap ?_
 refine ap ?_
 refine ab ?_
 refine aq (aF dh rfl) rfl rfl ?_
 refine aq (aQ 0 gG rfl rfl rfl) rfl rfl ?_
 refine bi (t := 6) rfl (fun h1_1 => ?_) (fun h1_1 => ?_)
 rw [ci, if_pos h1_1] at hi
 refine aq (bF rfl) rfl rfl ?_
 refine ae ?_
 refine ak ?_
 refine ay rfl ?_
 refine aH ?_
 refine ak ?_
 refine ap ?_
 refine ap ?_
 refine ab ?_
 refine aq (aj rfl) rfl rfl ?_
 refine aq (bP rfl rfl) rfl rfl ?_
 refine aG (t := 16) rfl (fun h3_1 => ?_) (fun h3_1 => ?_)
 refine ae ?_
 refine ak ?_
 refine aA rfl ?_
 refine ap ?_
 refine ab ?_
 refine aq (aF dG rfl) rfl rfl ?_
 refine aq (aQ 0 cG rfl rfl rfl) rfl rfl ?_
 refine aq (aj rfl) rfl rfl ?_
 refine aq (ga rfl rfl (by omega) (by omega)) rfl rfl ?_
 refine aq (dF Tryz.underlying3 Tryz.underlying202 rfl (da (by omega) (by omega))) rfl rfl ?_
 refine aq (y_shr rfl rfl (by omega)) rfl rfl ?_
 refine aq (y_and rfl rfl) rfl rfl ?_
 refine aq (ai rfl) rfl rfl ?_
 refine ae ?_
 refine ak ?_
 refine aJ ?_
 refine aC ?_
 refine aN (ts := [4]) rfl rfl rfl (fun w hw => ?_)
 refine ⟨?_, hw.base⟩
 show Ending.returned (.int .u64 _) = _
 congr 2
 focus first
   | (rw [dI, if_neg (by rw [h1_1]; decide), fD]; exact eF h.2.2 (by omega) (by omega))
   | (rw [dI, if_pos h1_1, if_pos (by omega), fD]; exact eF ⟨h.1, h.2.1⟩ (by omega) (by omega))
   | (rw [dI, if_pos h1_1, if_neg (by omega), fD]; exact eF h.2.2 (by omega) (by omega))
   | (trace_state; fail)
 refine ae ?_
 refine ak ?_
 refine ay rfl ?_
 refine aH ?_
 refine ak ?_
 refine ap ?_
 refine ab ?_
 refine aq (aF cz rfl) rfl rfl ?_
 refine aq (aQ 0 cG rfl rfl rfl) rfl rfl ?_
 refine aq (aj rfl) rfl rfl ?_
 refine aq (ga rfl rfl (by omega) (by omega)) rfl rfl ?_
 refine aq (dF Tryz.underlying3 Tryz.underlying202 rfl (da (by omega) (by omega))) rfl rfl ?_
 refine aq (y_shr rfl rfl (by omega)) rfl rfl ?_
 refine aq (y_and rfl rfl) rfl rfl ?_
 refine aq (ai rfl) rfl rfl ?_
 refine ae ?_
 refine ak ?_
 refine aJ ?_
 refine aN (ts := [4]) rfl rfl rfl (fun w hw => ?_)
 refine ⟨?_, hw.base⟩
 show Ending.returned (.int .u64 _) = _
 congr 2
 focus first
   | (rw [dI, if_neg (by rw [h1_1]; decide), fD]; exact eF h.2.2 (by omega) (by omega))
   | (rw [dI, if_pos h1_1, if_pos (by omega), fD]; exact eF ⟨h.1, h.2.1⟩ (by omega) (by omega))
   | (rw [dI, if_pos h1_1, if_neg (by omega), fD]; exact eF h.2.2 (by omega) (by omega))
   | (trace_state; fail)
 rw [ci, if_neg (by rw [h1_1]; decide)] at hi
 refine aq (bF rfl) rfl rfl ?_
 refine ae ?_
 refine ak ?_
 refine aA rfl ?_
 refine ap ?_
 refine ab ?_
 refine aq (aF cz rfl) rfl rfl ?_
 refine aq (aQ 0 cG rfl rfl rfl) rfl rfl ?_
 refine aq (aj rfl) rfl rfl ?_
 refine aq (ga rfl rfl (by omega) (by omega)) rfl rfl ?_
 refine aq (dF Tryz.underlying3 Tryz.underlying202 rfl (da (by omega) (by omega))) rfl rfl ?_
 refine aq (y_shr rfl rfl (by omega)) rfl rfl ?_
 refine aq (y_and rfl rfl) rfl rfl ?_
 refine aq (ai rfl) rfl rfl ?_
 refine ae ?_
 refine ak ?_
 refine aJ ?_
 refine aC ?_
 refine aN (ts := [4]) rfl rfl rfl (fun w hw => ?_)
 refine ⟨?_, hw.base⟩
 show Ending.returned (.int .u64 _) = _
 congr 2
 focus first
   | (rw [dI, if_neg (by rw [h1_1]; decide), fD]; exact eF h.2.2 (by omega) (by omega))
   | (rw [dI, if_pos h1_1, if_pos (by omega), fD]; exact eF ⟨h.1, h.2.1⟩ (by omega) (by omega))
   | (rw [dI, if_pos h1_1, if_neg (by omega), fD]; exact eF h.2.2 (by omega) (by omega))
   | (trace_state; fail)

set_option maxRecDepth 100000 in
theorem iv (r : Rg) (h : f7 r.base) : Pure Tryz.prog 160 #[.agg (ea r).toArray] (.int .i64 (cC r)) := by
 intro w0
 refine bb (ok0 := no) (S := []) (args := [.agg (ea r).toArray]) 35 Tryz.func160 rfl rfl rfl (by simp) (by simp) ?_
 refine ap ?_
 refine ab ?_
 refine bI rfl rfl rfl (fun b1 => ?_)
 refine aq (ai rfl) rfl rfl ?_
 refine ae ?_
 refine ak ?_
 refine ap ?_
 refine ap ?_
 refine d3 17 rfl mixed ?_
 refine aD (i := 0) rfl ah (aF cy rfl) av av rfl (aa (aa ar)) (by kernel_rfl) rfl ?_
 refine aD (i := 1) rfl ah (aM 0 aO rfl rfl rfl rfl) av av rfl (aa (aa ar)) (by kernel_rfl) rfl ?_
 refine cS (i := 2) rfl rfl rfl (bf rfl ent_79) (by kernel_rfl) rfl ?_
 refine aV rfl ent_79 (fd r.base h.2.2.1) rfl ?_
 refine ae ?_
 refine c7 av ?_
 refine aD (i := 3) rfl ah (ct rfl rfl) av av rfl (aa (aa ar)) (by kernel_rfl) rfl ?_
 refine cL (t := 7) rfl (fun h1_3 => ?_) (fun h1_3 => ?_)
 refine aD (i := 4) rfl ah (aj rfl) av av rfl (aa (aa ar)) (by kernel_rfl) rfl ?_
 refine a6 (i := 5) rfl (az rfl rfl rfl) av rfl (aa (aa ar)) (by kernel_rfl) rfl ?_
 refine a6 (i := 6) rfl (az rfl rfl rfl) av rfl (aa (aa ar)) (by kernel_rfl) rfl ?_
 refine a6 (i := 7) rfl (az rfl rfl rfl) av rfl (aa (aa ar)) (by kernel_rfl) rfl ?_
 refine aD (i := 8) rfl ah (aS rfl rfl) av av rfl (aa (aa ar)) (by kernel_rfl) rfl ?_
 refine aD (i := 9) rfl ah (aj rfl) av av rfl (aa (aa ar)) (by kernel_rfl) rfl ?_
 refine a6 (i := 10) rfl (az rfl rfl rfl) av rfl (aa (aa ar)) (by kernel_rfl) rfl ?_
 refine a6 (i := 11) rfl (az rfl rfl rfl) av rfl (aa (aa ar)) (by kernel_rfl) rfl ?_
 refine a6 (i := 12) rfl (az rfl rfl rfl) av rfl (aa (aa ar)) (by kernel_rfl) rfl ?_
 refine a6 (i := 13) rfl (az rfl rfl rfl) av rfl (aa (aa ar)) (by kernel_rfl) rfl ?_
 refine a6 (i := 14) rfl (az rfl rfl rfl) av rfl (aa (aa ar)) (by kernel_rfl) rfl ?_
 refine a6 (i := 15) rfl (az rfl rfl rfl) av rfl (aa (aa ar)) (by kernel_rfl) rfl ?_
 refine aD (i := 16) rfl ah (aS rfl rfl) av av rfl (aa (aa ar)) (by kernel_rfl) rfl ?_
 refine cw (by kernel_rfl) ?_
 refine ak ?_
 refine aA rfl ?_
 refine ap ?_
 refine ab ?_
 refine aq (ai rfl) rfl rfl ?_
 refine ae ?_
 refine ak ?_
 refine aJ ?_
 refine aC ?_
 refine aN (ts := [2]) rfl rfl rfl (fun w hw => ?_)
 focus first
   | (exact ⟨by rw [cC, if_pos (by first | exact .inl h1_3 | exact .inr (.inl h1_7) | exact .inr (.inr (.inl h1_15)))]; rfl, hw.base⟩)
   | (exact ⟨by rw [cC, if_pos (.inr (.inr (.inr (fun e => by have := hif.1 e k hI.1 (by omega); omega))))]; rfl, hw.base⟩)
   | (exact ⟨by rw [cC, if_neg (fun q => q.elim (fun q => q hck) (fun q => q.elim h1_7 (fun q => q.elim h1_15 (fun q => q (hif.2 fun i h1 h2 => hI.2.2 i h1 (by omega))))))]; rfl, hw.base⟩)
   | (trace_state; fail)
 refine aD (i := 4) rfl ah (aj rfl) av av rfl (aa (aa ar)) (by kernel_rfl) rfl ?_
 refine aD (i := 5) rfl (aB rfl rfl) (aF el rfl) av av rfl (aa (aa ar)) (by kernel_rfl) rfl ?_
 refine aD (i := 6) rfl (aB rfl rfl) (aQ 0 eQ rfl rfl rfl) av av rfl (aa (aa ar)) (by kernel_rfl) rfl ?_
 refine aD (i := 7) rfl (aB rfl rfl) (bP rfl rfl) av av rfl (aa (aa ar)) (by kernel_rfl) rfl ?_
 refine cL (t := 11) rfl (fun h1_7 => ?_) (fun h1_7 => ?_)
 refine aD (i := 8) rfl ah (aL rfl rfl) av av rfl (aa (aa ar)) (by kernel_rfl) rfl ?_
 refine aD (i := 9) rfl ah (aj rfl) av av rfl (aa (aa ar)) (by kernel_rfl) rfl ?_
 refine a6 (i := 10) rfl (az rfl rfl rfl) av rfl (aa (aa ar)) (by kernel_rfl) rfl ?_
 refine a6 (i := 11) rfl (az rfl rfl rfl) av rfl (aa (aa ar)) (by kernel_rfl) rfl ?_
 refine a6 (i := 12) rfl (az rfl rfl rfl) av rfl (aa (aa ar)) (by kernel_rfl) rfl ?_
 refine a6 (i := 13) rfl (az rfl rfl rfl) av rfl (aa (aa ar)) (by kernel_rfl) rfl ?_
 refine a6 (i := 14) rfl (az rfl rfl rfl) av rfl (aa (aa ar)) (by kernel_rfl) rfl ?_
 refine a6 (i := 15) rfl (az rfl rfl rfl) av rfl (aa (aa ar)) (by kernel_rfl) rfl ?_
 refine aD (i := 16) rfl ah (aS rfl rfl) av av rfl (aa (aa ar)) (by kernel_rfl) rfl ?_
 refine cw (by kernel_rfl) ?_
 refine ak ?_
 refine aA rfl ?_
 refine ap ?_
 refine ab ?_
 refine aq (ai rfl) rfl rfl ?_
 refine ae ?_
 refine ak ?_
 refine aJ ?_
 refine aC ?_
 refine aN (ts := [2]) rfl rfl rfl (fun w hw => ?_)
 focus first
   | (exact ⟨by rw [cC, if_pos (by first | exact .inl h1_3 | exact .inr (.inl h1_7) | exact .inr (.inr (.inl h1_15)))]; rfl, hw.base⟩)
   | (exact ⟨by rw [cC, if_pos (.inr (.inr (.inr (fun e => by have := hif.1 e k hI.1 (by omega); omega))))]; rfl, hw.base⟩)
   | (exact ⟨by rw [cC, if_neg (fun q => q.elim (fun q => q hck) (fun q => q.elim h1_7 (fun q => q.elim h1_15 (fun q => q (hif.2 fun i h1 h2 => hI.2.2 i h1 (by omega))))))]; rfl, hw.base⟩)
   | (trace_state; fail)
 refine aD (i := 8) rfl ah (aL rfl rfl) av av rfl (aa (aa ar)) (by kernel_rfl) rfl ?_
 refine aD (i := 9) rfl ah (aj rfl) av av rfl (aa (aa ar)) (by kernel_rfl) rfl ?_
 refine aD (i := 10) rfl (aB rfl rfl) (aF el rfl) av av rfl (aa (aa ar)) (by kernel_rfl) rfl ?_
 refine aD (i := 11) rfl (aB rfl rfl) (aQ 0 eQ rfl rfl rfl) av av rfl (aa (aa ar)) (by kernel_rfl) rfl ?_
 refine aD (i := 12) rfl (aB rfl rfl) (aF cy rfl) av av rfl (aa (aa ar)) (by kernel_rfl) rfl ?_
 refine aD (i := 13) rfl (aB rfl rfl) (aM 0 aO rfl rfl rfl rfl) av av rfl (aa (aa ar)) (by kernel_rfl) rfl ?_
 refine cS (i := 14) rfl rfl rfl (bf rfl ent_161) (by kernel_rfl) rfl ?_
 refine aw rfl rfl ?_
 refine aV rfl ent_161 (c_wide5 _) rfl ?_
 refine ae ?_
 refine c7 av ?_
 refine aD (i := 15) rfl (aB rfl rfl) (dO rfl rfl) av av rfl (aa (aa ar)) (by kernel_rfl) rfl ?_
 refine cL (t := 19) rfl (fun h1_15 => ?_) (fun h1_15 => ?_)
 refine aD (i := 16) rfl ah (aL rfl rfl) av av rfl (aa (aa ar)) (by kernel_rfl) rfl ?_
 refine cw (by kernel_rfl) ?_
 refine ak ?_
 refine aA rfl ?_
 refine ap ?_
 refine ab ?_
 refine aq (ai rfl) rfl rfl ?_
 refine ae ?_
 refine ak ?_
 refine aJ ?_
 refine aC ?_
 refine aN (ts := [2]) rfl rfl rfl (fun w hw => ?_)
 focus first
   | (exact ⟨by rw [cC, if_pos (by first | exact .inl h1_3 | exact .inr (.inl h1_7) | exact .inr (.inr (.inl h1_15)))]; rfl, hw.base⟩)
   | (exact ⟨by rw [cC, if_pos (.inr (.inr (.inr (fun e => by have := hif.1 e k hI.1 (by omega); omega))))]; rfl, hw.base⟩)
   | (exact ⟨by rw [cC, if_neg (fun q => q.elim (fun q => q hck) (fun q => q.elim h1_7 (fun q => q.elim h1_15 (fun q => q (hif.2 fun i h1 h2 => hI.2.2 i h1 (by omega))))))]; rfl, hw.base⟩)
   | (trace_state; fail)
 refine aD (i := 16) rfl ah (aL rfl rfl) av av rfl (aa (aa ar)) (by kernel_rfl) rfl ?_
 refine cw (by kernel_rfl) ?_
 refine ak ?_
 refine ay rfl ?_
 refine aH ?_
 refine ak ?_
 refine ap ?_
 refine ap ?_
 have hwl := fq r.base
 have hck : bX r.base = 0 := Decidable.not_not.1 h1_3
 obtain ⟨m, hm⟩ : ∃ m : Nat, r.bits = m := ⟨r.bits.toNat, by omega⟩
 have hif := head_iff (m := m) hck h (by omega)
 rw [← hm] at hif
 refine ab ?_
 refine aq (aF el rfl) rfl rfl ?_
 refine aq (aQ 0 eQ rfl rfl rfl) rfl rfl ?_
 refine aq (ai rfl) rfl rfl ?_
 refine ae ?_
 refine ak ?_
 refine aR ?_
 refine bY (σ := Nat) [2, 3, 23, 24, 25, 26, 27, 28, 29, 30, 31, 32, 33, 34] (fun k => m ≤ k ∧ (k : Int) ≤ ci r.base ∧ ∀ i : Nat, m ≤ i → i < k → dI r.base i = 0) (fun k => (ci r.base).toNat - k) (fun k => [(3, .int .i64 k)]) (m) ?_ ⟨lk rfl (congrArg (Value.int .i64) hm), trivial⟩ (fun k hI => ?_)
 exact ⟨Nat.le_refl _, by omega, fun i h1 h2 => by omega⟩
 refine ap ?_
 refine ap ?_
 refine ab ?_
 refine aq (aj rfl) rfl rfl ?_
 refine aq (aF cy rfl) rfl rfl ?_
 refine aq (aM 0 aO rfl rfl rfl rfl) rfl rfl ?_
 refine aV rfl ent_161 (c_wide5 _) rfl ?_
 refine aq (bP rfl rfl) rfl rfl ?_
 refine aG (t := 27) rfl (fun h4_4 => ?_) (fun h4_4 => ?_)
 refine ae ?_
 refine ak ?_
 refine aA rfl ?_
 refine aH ?_
 refine ak ?_
 refine ap ?_
 refine aR ?_
 refine ap ?_
 refine ab ?_
 refine aq (aF cy rfl) rfl rfl ?_
 refine aq (aM 0 aO rfl rfl rfl rfl) rfl rfl ?_
 refine aq (aj rfl) rfl rfl ?_
 refine aV rfl iD (c_bit5 r.base k h (by omega)) rfl ?_
 refine aq (ct rfl rfl) rfl rfl ?_
 refine aG (t := 34) rfl (fun h6_4 => ?_) (fun h6_4 => ?_)
 refine ae ?_
 refine ak ?_
 refine aA rfl ?_
 refine ap ?_
 refine ab ?_
 refine aq (ai rfl) rfl rfl ?_
 refine ae ?_
 refine ak ?_
 refine aJ ?_
 refine aT ?_
 refine aC ?_
 refine bw ?_
 refine aT ?_
 refine aC ?_
 refine aN (ts := [2]) rfl rfl rfl (fun w hw => ?_)
 focus first
   | (exact ⟨by rw [cC, if_pos (by first | exact .inl h1_3 | exact .inr (.inl h1_7) | exact .inr (.inr (.inl h1_15)))]; rfl, hw.base⟩)
   | (exact ⟨by rw [cC, if_pos (.inr (.inr (.inr (fun e => by have := hif.1 e k hI.1 (by omega); omega))))]; rfl, hw.base⟩)
   | (exact ⟨by rw [cC, if_neg (fun q => q.elim (fun q => q hck) (fun q => q.elim h1_7 (fun q => q.elim h1_15 (fun q => q (hif.2 fun i h1 h2 => hI.2.2 i h1 (by omega))))))]; rfl, hw.base⟩)
   | (trace_state; fail)
 refine ae ?_
 refine ak ?_
 refine ay rfl ?_
 refine aH ?_
 refine bo ?_
 refine ak ?_
 refine ab ?_
 refine aq (aj rfl) rfl rfl ?_
 refine aq (bd rfl rfl (by omega) (by omega)) rfl rfl ?_
 refine aq (ai rfl) rfl rfl ?_
 refine ae ?_
 refine bj (k + 1) ?_ ?_ ⟨rfl, trivial⟩ (by repeat (first | exact trivial | refine ⟨rfl, ?_⟩)) av
 refine ⟨by omega, by omega, fun i h1 h2 => ?_⟩
 by_cases e : i = k
 · rw [e]; omega
 · exact hI.2.2 i h1 (by omega)
 omega
 refine ae ?_
 refine ak ?_
 refine ay rfl ?_
 refine bE ?_
 refine aZ ?_
 refine aY ?_
 refine a7 ?_
 refine ak ?_
 refine ap ?_
 refine ab ?_
 refine aq (ai rfl) rfl rfl ?_
 refine ae ?_
 refine ak ?_
 refine aJ ?_
 refine aN (ts := [2]) rfl rfl rfl (fun w hw => ?_)
 focus first
   | (exact ⟨by rw [cC, if_pos (by first | exact .inl h1_3 | exact .inr (.inl h1_7) | exact .inr (.inr (.inl h1_15)))]; rfl, hw.base⟩)
   | (exact ⟨by rw [cC, if_pos (.inr (.inr (.inr (fun e => by have := hif.1 e k hI.1 (by omega); omega))))]; rfl, hw.base⟩)
   | (exact ⟨by rw [cC, if_neg (fun q => q.elim (fun q => q hck) (fun q => q.elim h1_7 (fun q => q.elim h1_15 (fun q => q (hif.2 fun i h1 h2 => hI.2.2 i h1 (by omega))))))]; rfl, hw.base⟩)
   | (trace_state; fail)

theorem pow16 {j : Nat} : 2 ^ j < 65536 ↔ j < 16 := by
  rw [show 65536 = 2 ^ 16 by decide]; exact Nat.pow_lt_pow_iff_right (by decide)
theorem has_iff {a b : Ad} {m : Nat} (hc : bX a = 0) (ha : f7 a) (hcb : bX b = 0) (hb : f7 b) (hs : a.six = b.six) (hm : (m : Int) ≤ ci b) (hh : fC b m = b) : fC a m = b ↔ ∀ i : Nat, i < m → dI b i = dI a i := by
  obtain ⟨h1, h2, h3, h4⟩ := ha
  obtain ⟨k1, k2, k3, k4⟩ := hb
  have h64 : (2 : Nat) ^ 64 = 18446744073709551616 := by decide
  have h32 : (2 : Nat) ^ 32 = 4294967296 := by decide
  by_cases h6 : a.six = true
  · have b6 : b.six = true := hs ▸ h6
    rw [ci, if_pos b6] at hm
    rw [gu b6 (by omega) ⟨k1, k2⟩ ⟨k3, k4⟩] at hh
    have g1 := congrArg Ad.hi hh; have g2 := congrArg Ad.lo hh
    simp only at g1 g2
    rw [gu h6 (by omega) ⟨h1, h2⟩ ⟨h3, h4⟩]
    have c1 := cut_same (n := 64) (m := min m 64) (x := a.hi.toNat) (y := b.hi.toNat) (by omega) (by omega) (Nat.min_le_right _ _) (by omega)
    have c2 := cut_same (n := 64) (m := m - 64) (x := a.lo.toNat) (y := b.lo.toNat) (by omega) (by omega) (by omega) (by omega)
    have e : (⟨a.six, (ez 64 (min m 64) a.hi.toNat : Nat), (ez 64 (m - 64) a.lo.toNat : Nat)⟩ : Ad) = b ↔ ez 64 (min m 64) a.hi.toNat = b.hi.toNat ∧ ez 64 (m - 64) a.lo.toNat = b.lo.toNat := by
      constructor
      · intro h
        have g1 := congrArg Ad.hi h; have g2 := congrArg Ad.lo h
        simp only at g1 g2
        omega
      · intro h
        obtain ⟨s, hi, lo⟩ := b
        simp only [Ad.mk.injEq]
        simp only at h k1 k3 hs
        exact ⟨hs, by omega, by omega⟩
    rw [e, c1, c2]
    constructor
    · intro h i hi
      rw [dI, dI, if_pos b6, if_pos h6]
      split
      · exact h.1 i (by omega)
      · exact h.2 (i - 64) (by omega)
    · intro h
      refine ⟨fun i i1 => ?_, fun i i1 => ?_⟩
      · have := h i (by omega)
        rw [dI, dI, if_pos b6, if_pos h6, if_pos (by omega), if_pos (by omega)] at this; exact this
      · have := h (i + 64) (by omega)
        rw [dI, dI, if_pos b6, if_pos h6, if_neg (by omega), if_neg (by omega), Nat.add_sub_cancel] at this; exact this
  · have h6 : a.six = false := by simpa using h6
    have b6 : b.six = false := hs ▸ h6
    have hlo : ∀ {c : Ad}, bX c = 0 → c.six = false → c.lo < 4294967296 ∧ c.hi = 0 := fun {c} hc h => by
      unfold bX at hc
      split at hc
      · exact absurd hc (by decide)
      · rename_i q; have q2 : ¬ (c.hi ≠ 0 ∨ 4294967296 ≤ c.lo) := fun x => q ⟨h, x⟩; omega
    obtain ⟨la, lb⟩ := hlo hc h6
    obtain ⟨ma, mb⟩ := hlo hcb b6
    rw [ci, if_neg (by rw [b6]; decide)] at hm
    rw [fo b6 (by omega) ⟨k3, ma⟩] at hh
    have g2 := congrArg Ad.lo hh
    simp only at g2
    rw [fo h6 (by omega) ⟨h3, la⟩]
    have c2 := cut_same (n := 32) (m := m) (x := a.lo.toNat) (y := b.lo.toNat) (by omega) (by omega) (by omega) (by omega)
    have e : (⟨a.six, a.hi, (ez 32 m a.lo.toNat : Nat)⟩ : Ad) = b ↔ ez 32 m a.lo.toNat = b.lo.toNat := by
      constructor
      · intro h
        have g2 := congrArg Ad.lo h
        simp only at g2
        omega
      · intro h
        obtain ⟨s, hi, lo⟩ := b
        simp only [Ad.mk.injEq]
        simp only at h k3 hs mb
        exact ⟨hs, by omega, by omega⟩
    rw [e, c2]
    constructor
    · intro h i hi
      rw [dI, dI, if_neg (by rw [b6]; decide), if_neg (by rw [h6]; decide)]; exact h i hi
    · intro h i i1
      have := h i i1
      rw [dI, dI, if_neg (by rw [b6]; decide), if_neg (by rw [h6]; decide)] at this; exact this

theorem eZ (r : Rg) (h : f7 r.base) : Pure Tryz.prog 92 #[.agg (ea r).toArray] (.int .i64 (bD r)) := by
 intro w0
 refine bb (ok0 := no) (S := []) (args := [.agg (ea r).toArray]) 24 Tryz.func92 rfl rfl rfl (by simp) (by simp) ?_
 refine ap ?_
 refine ab ?_
 refine bI rfl rfl rfl (fun b1 => ?_)
 refine aq (ai rfl) rfl rfl ?_
 refine ae ?_
 refine ak ?_
 refine ap ?_
 refine ap ?_
 refine ab ?_
 refine aq (aM 0 ck rfl rfl rfl rfl) rfl rfl ?_
 refine aV rfl ent_160 (iv r h) rfl ?_
 refine aq (ct rfl rfl) rfl rfl ?_
 refine aG (t := 7) rfl (fun h1_2 => ?_) (fun h1_2 => ?_)
 refine ae ?_
 refine ak ?_
 refine aA rfl ?_
 refine ap ?_
 refine ab ?_
 refine aq (ai rfl) rfl rfl ?_
 refine ae ?_
 refine ak ?_
 refine aJ ?_
 refine aC ?_
 refine aN (ts := [2]) rfl rfl rfl (fun w hw => ?_)
 focus first
   | (exact ⟨by rw [bD, if_pos h1_2]; rfl, hw.base⟩)
   | (have hE : bD r = 2 ^ j := by
        rw [bD, if_neg (fun q => q hz)]
        by_cases h9 : ci r.base - r.bits < 16
        · rw [if_pos h9]; congr 1; omega
        · rw [if_neg h9]
          obtain rfl : j = 16 := by omega
          decide
      exact ⟨by rw [hE]; rfl, hw.base⟩)
   | (trace_state; fail)
 refine ae ?_
 refine ak ?_
 refine ay rfl ?_
 refine aH ?_
 refine ak ?_
 refine ap ?_
 have hz : cC r = 0 := Decidable.not_not.1 h1_2
 obtain ⟨hz1, hz2, hz3, hz4⟩ := fP hz
 have hwl := fq r.base
 refine ab ?_
 refine aq (ai rfl) rfl rfl ?_
 refine ae ?_
 refine ak ?_
 refine ap ?_
 refine ap ?_
 refine ab ?_
 refine aq (aF el rfl) rfl rfl ?_
 refine aq (aQ 0 eQ rfl rfl rfl) rfl rfl ?_
 refine aq (ai rfl) rfl rfl ?_
 refine ae ?_
 refine ak ?_
 refine aR ?_
 refine bY (σ := Nat) [3, 4, 10, 11, 12, 13, 14, 15, 16, 17, 18, 19, 20, 21, 22] (fun j => j ≤ 16 ∧ r.bits + j ≤ ci r.base) (fun j => 16 - j) (fun j => [(4, .int .i64 (r.bits + j)), (3, .int .i64 ((2 ^ j : Nat) : Int))]) (0) ?_ ⟨lk rfl (congrArg (Value.int .i64) (by omega)), rfl, trivial⟩ (fun j hI => ?_)
 exact ⟨by decide, by omega⟩
 have hpj := @pow16 j
 have hp9 : ((2 ^ j : Nat) : Int) ≤ 65536 := Int.ofNat_le.2 (Nat.le_trans (Nat.pow_le_pow_right (by decide) hI.1) (by decide : 2 ^ 16 ≤ 65536))
 have hp0 : (0 : Int) ≤ ((2 ^ j : Nat) : Int) := Int.natCast_nonneg _
 refine ap ?_
 refine ap ?_
 refine ab ?_
 refine aq (aj rfl) rfl rfl ?_
 refine aq (aF cy rfl) rfl rfl ?_
 refine aq (aM 0 aO rfl rfl rfl rfl) rfl rfl ?_
 refine aV rfl ent_161 (c_wide5 _) rfl ?_
 refine aq (bP rfl rfl) rfl rfl ?_
 refine aG (t := 14) rfl (fun h5_4 => ?_) (fun h5_4 => ?_)
 refine aq (aj rfl) rfl rfl ?_
 refine aw rfl rfl ?_
 refine aq (aj rfl) rfl rfl ?_
 refine aw rfl rfl ?_
 refine aq (bP rfl rfl) rfl rfl ?_
 refine aG (t := 17) rfl (fun h5_7 => ?_) (fun h5_7 => ?_)
 refine aq (aS rfl rfl) rfl rfl ?_
 refine ae ?_
 refine ak ?_
 refine aA rfl ?_
 refine aH ?_
 refine ak ?_
 refine ap ?_
 refine aR ?_
 refine ab ?_
 refine aq (aj rfl) rfl rfl ?_
 refine aq (y_muli rfl rfl (by omega) (by omega)) rfl rfl ?_
 refine aq (ai rfl) rfl rfl ?_
 refine ae ?_
 refine bo ?_
 refine ak ?_
 refine ab ?_
 refine aq (aj rfl) rfl rfl ?_
 refine aq (bd rfl rfl (by omega) (by omega)) rfl rfl ?_
 refine aq (ai rfl) rfl rfl ?_
 refine ae ?_
 refine bj (j + 1) ?_ ?_ ⟨lk rfl (congrArg (Value.int .i64) (by omega)), lk rfl (congrArg (Value.int .i64) (by rw [Nat.pow_succ]; omega)), trivial⟩ (by repeat (first | exact trivial | refine ⟨rfl, ?_⟩)) av
 exact ⟨by omega, by omega⟩
 omega
 refine aq (aS rfl rfl) rfl rfl ?_
 refine ae ?_
 refine ak ?_
 refine ay rfl ?_
 refine bE ?_
 refine aZ ?_
 refine aY ?_
 refine a7 ?_
 refine ak ?_
 refine ap ?_
 refine ab ?_
 refine aq (aj rfl) rfl rfl ?_
 refine aq (ai rfl) rfl rfl ?_
 refine ae ?_
 refine ak ?_
 refine aJ ?_
 refine aN (ts := [2]) rfl rfl rfl (fun w hw => ?_)
 focus first
   | (exact ⟨by rw [bD, if_pos h1_2]; rfl, hw.base⟩)
   | (have hE : bD r = 2 ^ j := by
        rw [bD, if_neg (fun q => q hz)]
        by_cases h9 : ci r.base - r.bits < 16
        · rw [if_pos h9]; congr 1; omega
        · rw [if_neg h9]
          obtain rfl : j = 16 := by omega
          decide
      exact ⟨by rw [hE]; rfl, hw.base⟩)
   | (trace_state; fail)
 refine aq (aj rfl) rfl rfl ?_
 refine aK rfl rfl rfl rfl ?_
 refine aK rfl rfl rfl rfl ?_
 refine aq (aL rfl rfl) rfl rfl ?_
 refine ae ?_
 refine ak ?_
 refine ay rfl ?_
 refine bE ?_
 refine aZ ?_
 refine aY ?_
 refine a7 ?_
 refine ak ?_
 refine ap ?_
 refine ab ?_
 refine aq (aj rfl) rfl rfl ?_
 refine aq (ai rfl) rfl rfl ?_
 refine ae ?_
 refine ak ?_
 refine aJ ?_
 refine aN (ts := [2]) rfl rfl rfl (fun w hw => ?_)
 focus first
   | (exact ⟨by rw [bD, if_pos h1_2]; rfl, hw.base⟩)
   | (have hE : bD r = 2 ^ j := by
        rw [bD, if_neg (fun q => q hz)]
        by_cases h9 : ci r.base - r.bits < 16
        · rw [if_pos h9]; congr 1; omega
        · rw [if_neg h9]
          obtain rfl : j = 16 := by omega
          decide
      exact ⟨by rw [hE]; rfl, hw.base⟩)
   | (trace_state; fail)

set_option maxRecDepth 100000 in
theorem g6 (r : Rg) (a : Ad) (h : f7 r.base) (h2 : f7 a) : Pure Tryz.prog 94 #[.agg (ea r).toArray, .agg (dW a).toArray] (.bool (bT r a)) := by
 intro w0
 refine bb (ok0 := no) (S := []) (args := [.agg (ea r).toArray, .agg (dW a).toArray]) 36 Tryz.func94 rfl rfl rfl (by simp) (by simp) ?_
 refine ap ?_
 refine ab ?_
 refine bI rfl rfl rfl (fun b1 => ?_)
 refine bI rfl rfl rfl (fun b2 => ?_)
 refine aq (ai rfl) rfl rfl ?_
 refine ae ?_
 refine ak ?_
 refine ap ?_
 refine ap ?_
 refine ab ?_
 refine aq (aM 1 ck rfl rfl rfl rfl) rfl rfl ?_
 refine aV rfl ent_160 (iv r h) rfl ?_
 refine aq (ct rfl rfl) rfl rfl ?_
 refine aG (t := 8) rfl (fun h1_2 => ?_) (fun h1_2 => ?_)
 refine aq (aj rfl) rfl rfl ?_
 refine aK rfl rfl rfl rfl ?_
 refine aK rfl rfl rfl rfl ?_
 refine aK rfl rfl rfl rfl ?_
 refine aq (aS rfl rfl) rfl rfl ?_
 refine aq (aj rfl) rfl rfl ?_
 refine aK rfl rfl rfl rfl ?_
 refine aK rfl rfl rfl rfl ?_
 refine aK rfl rfl rfl rfl ?_
 refine aK rfl rfl rfl rfl ?_
 refine aK rfl rfl rfl rfl ?_
 refine aK rfl rfl rfl rfl ?_
 refine aq (aS rfl rfl) rfl rfl ?_
 refine ae ?_
 refine ak ?_
 refine aA rfl ?_
 refine ap ?_
 refine ab ?_
 refine aq (ai rfl) rfl rfl ?_
 refine ae ?_
 refine ak ?_
 refine aJ ?_
 refine aC ?_
 refine aN (ts := [4]) rfl rfl rfl (fun w hw => ?_)
 refine ⟨?_, hw.base⟩
 show Ending.returned (.bool _) = _
 congr 2
 focus first
   | (rw [bT, decide_eq_true hz, decide_eq_true hck, decide_eq_true hsx, decide_eq_false (fun e => by have := hif.1 e k (by omega); omega)]; rfl)
   | (rw [bT, decide_eq_true hz, decide_eq_true hck, decide_eq_true hsx, decide_eq_true (hif.2 fun i hi => hI.2 i (by omega))]; rfl)
   | (rw [bT, decide_eq_false h1_2]; rfl)
   | (rw [bT, decide_eq_true (Decidable.not_not.1 h1_2), decide_eq_false h1_6]; rfl)
   | (rw [bT, decide_eq_true (Decidable.not_not.1 h1_2), decide_eq_true (Decidable.not_not.1 h1_6), decide_eq_false (fun e => h1_14 e.symm)]; rfl)
   | (trace_state; fail)
 refine aq (aj rfl) rfl rfl ?_
 refine aw rfl rfl ?_
 refine aq (aM 0 aO rfl rfl rfl rfl) rfl rfl ?_
 refine aw rfl rfl ?_
 refine aV rfl ent_79 (fd a h2.2.2.1) rfl ?_
 refine aw rfl rfl ?_
 refine aq (ct rfl rfl) rfl rfl ?_
 refine aG (t := 12) rfl (fun h1_6 => ?_) (fun h1_6 => ?_)
 refine aq (aL rfl rfl) rfl rfl ?_
 refine aq (aj rfl) rfl rfl ?_
 refine aK rfl rfl rfl rfl ?_
 refine aK rfl rfl rfl rfl ?_
 refine aK rfl rfl rfl rfl ?_
 refine aK rfl rfl rfl rfl ?_
 refine aK rfl rfl rfl rfl ?_
 refine aK rfl rfl rfl rfl ?_
 refine aq (aS rfl rfl) rfl rfl ?_
 refine ae ?_
 refine ak ?_
 refine aA rfl ?_
 refine ap ?_
 refine ab ?_
 refine aq (ai rfl) rfl rfl ?_
 refine ae ?_
 refine ak ?_
 refine aJ ?_
 refine aC ?_
 refine aN (ts := [4]) rfl rfl rfl (fun w hw => ?_)
 refine ⟨?_, hw.base⟩
 show Ending.returned (.bool _) = _
 congr 2
 focus first
   | (rw [bT, decide_eq_true hz, decide_eq_true hck, decide_eq_true hsx, decide_eq_false (fun e => by have := hif.1 e k (by omega); omega)]; rfl)
   | (rw [bT, decide_eq_true hz, decide_eq_true hck, decide_eq_true hsx, decide_eq_true (hif.2 fun i hi => hI.2 i (by omega))]; rfl)
   | (rw [bT, decide_eq_false h1_2]; rfl)
   | (rw [bT, decide_eq_true (Decidable.not_not.1 h1_2), decide_eq_false h1_6]; rfl)
   | (rw [bT, decide_eq_true (Decidable.not_not.1 h1_2), decide_eq_true (Decidable.not_not.1 h1_6), decide_eq_false (fun e => h1_14 e.symm)]; rfl)
   | (trace_state; fail)
 refine aq (aL rfl rfl) rfl rfl ?_
 refine aq (aj rfl) rfl rfl ?_
 refine aw rfl rfl ?_
 refine aq (aF cy rfl) rfl rfl ?_
 refine aw rfl rfl ?_
 refine aq (aF dh rfl) rfl rfl ?_
 refine aw rfl rfl ?_
 refine aq (aQ 1 gG rfl rfl rfl) rfl rfl ?_
 refine aw rfl rfl ?_
 refine aq (aF dh rfl) rfl rfl ?_
 refine aw rfl rfl ?_
 refine aq (aQ 0 gG rfl rfl rfl) rfl rfl ?_
 refine aw rfl rfl ?_
 refine aq (y_neqb Tryz.underlying4 rfl rfl) rfl rfl ?_
 refine aG (t := 20) rfl (fun h1_14 => ?_) (fun h1_14 => ?_)
 refine aq (aL rfl rfl) rfl rfl ?_
 refine ae ?_
 refine ak ?_
 refine aA rfl ?_
 refine ap ?_
 refine ab ?_
 refine aq (ai rfl) rfl rfl ?_
 refine ae ?_
 refine ak ?_
 refine aJ ?_
 refine aC ?_
 refine aN (ts := [4]) rfl rfl rfl (fun w hw => ?_)
 refine ⟨?_, hw.base⟩
 show Ending.returned (.bool _) = _
 congr 2
 focus first
   | (rw [bT, decide_eq_true hz, decide_eq_true hck, decide_eq_true hsx, decide_eq_false (fun e => by have := hif.1 e k (by omega); omega)]; rfl)
   | (rw [bT, decide_eq_true hz, decide_eq_true hck, decide_eq_true hsx, decide_eq_true (hif.2 fun i hi => hI.2 i (by omega))]; rfl)
   | (rw [bT, decide_eq_false h1_2]; rfl)
   | (rw [bT, decide_eq_true (Decidable.not_not.1 h1_2), decide_eq_false h1_6]; rfl)
   | (rw [bT, decide_eq_true (Decidable.not_not.1 h1_2), decide_eq_true (Decidable.not_not.1 h1_6), decide_eq_false (fun e => h1_14 e.symm)]; rfl)
   | (trace_state; fail)
 refine aq (aL rfl rfl) rfl rfl ?_
 refine ae ?_
 refine ak ?_
 refine ay rfl ?_
 refine aH ?_
 refine ak ?_
 refine ap ?_
 refine ap ?_
 have hz : cC r = 0 := Decidable.not_not.1 h1_2
 obtain ⟨hz1, hz2, hz3, hz4⟩ := fP hz
 have hck : bX a = 0 := Decidable.not_not.1 h1_6
 have hsx : a.six = r.base.six := by simpa using (Eq.symm (Decidable.not_not.1 h1_14))
 have hwl := fq r.base
 have hwa : ci a = ci r.base := by rw [ci, ci, hsx]
 obtain ⟨m, hm⟩ : ∃ m : Nat, r.bits = m := ⟨r.bits.toNat, by omega⟩
 rw [hm] at hz4
 have hif := has_iff (m := m) hck h2 hz1 h hsx (by omega) hz4
 rw [← hm] at hif
 refine ab ?_
 refine aq (ai rfl) rfl rfl ?_
 refine ae ?_
 refine ak ?_
 refine aR ?_
 refine bY (σ := Nat) [4, 5, 22, 23, 24, 25, 26, 27, 28, 29, 30, 31, 32, 33, 34, 35] (fun k => k ≤ m ∧ ∀ i : Nat, i < k → dI r.base i = dI a i) (fun k => m - k) (fun k => [(5, .int .i64 k)]) (0) ?_ ⟨rfl, trivial⟩ (fun k hI => ?_)
 exact ⟨Nat.zero_le _, fun i h => by omega⟩
 refine ap ?_
 refine ap ?_
 refine ab ?_
 refine aq (aj rfl) rfl rfl ?_
 refine aq (aF el rfl) rfl rfl ?_
 refine aq (aQ 1 eQ rfl rfl rfl) rfl rfl ?_
 refine aq (bP rfl rfl) rfl rfl ?_
 refine aG (t := 25) rfl (fun h4_3 => ?_) (fun h4_3 => ?_)
 refine ae ?_
 refine ak ?_
 refine aA rfl ?_
 refine aH ?_
 refine ak ?_
 refine ap ?_
 refine aR ?_
 refine ap ?_
 refine d3 8 rfl mixed ?_
 refine aD (i := 0) rfl ah (aF cy rfl) av av rfl (aa (ao (aa (au (ao (aa ar)))))) (by kernel_rfl) rfl ?_
 refine aD (i := 1) rfl ah (aM 1 aO rfl rfl rfl rfl) av av rfl (aa (ao (aa (au (ao (aa ar)))))) (by kernel_rfl) rfl ?_
 refine aD (i := 2) rfl ah (aj rfl) av av rfl (aa (ao (aa (au (ao (aa ar)))))) (by kernel_rfl) rfl ?_
 refine aD (i := 4) rfl ah (aM 0 aO rfl rfl rfl rfl) av av rfl (aa (ao (aa (au (ao (aa ar)))))) (by kernel_rfl) rfl ?_
 refine aD (i := 5) rfl ah (aj rfl) av av rfl (aa (ao (aa (au (ao (aa ar)))))) (by kernel_rfl) rfl ?_
 refine cS (i := 3) rfl rfl rfl (bf rfl iD) (by kernel_rfl) rfl ?_
 refine aV rfl iD (c_bit5 r.base k h (by omega)) rfl ?_
 refine ae ?_
 refine c7 av ?_
 refine cS (i := 6) rfl rfl rfl (bf rfl iD) (by kernel_rfl) rfl ?_
 refine aV rfl iD (c_bit5 a k h2 (by rw [hwa]; omega)) rfl ?_
 refine ae ?_
 refine c7 av ?_
 refine aD (i := 7) rfl ah (ct rfl rfl) av av rfl (aa (ao (aa (au (ao (aa ar)))))) (by kernel_rfl) rfl ?_
 refine cL (t := 35) rfl (fun h6_7 => ?_) (fun h6_7 => ?_)
 refine cw (by kernel_rfl) ?_
 refine ak ?_
 refine aA rfl ?_
 refine ap ?_
 refine ab ?_
 refine aq (ai rfl) rfl rfl ?_
 refine ae ?_
 refine ak ?_
 refine aJ ?_
 refine aT ?_
 refine aC ?_
 refine bw ?_
 refine aT ?_
 refine aC ?_
 refine aN (ts := [4]) rfl rfl rfl (fun w hw => ?_)
 refine ⟨?_, hw.base⟩
 show Ending.returned (.bool _) = _
 congr 2
 focus first
   | (rw [bT, decide_eq_true hz, decide_eq_true hck, decide_eq_true hsx, decide_eq_false (fun e => by have := hif.1 e k (by omega); omega)]; rfl)
   | (rw [bT, decide_eq_true hz, decide_eq_true hck, decide_eq_true hsx, decide_eq_true (hif.2 fun i hi => hI.2 i (by omega))]; rfl)
   | (rw [bT, decide_eq_false h1_2]; rfl)
   | (rw [bT, decide_eq_true (Decidable.not_not.1 h1_2), decide_eq_false h1_6]; rfl)
   | (rw [bT, decide_eq_true (Decidable.not_not.1 h1_2), decide_eq_true (Decidable.not_not.1 h1_6), decide_eq_false (fun e => h1_14 e.symm)]; rfl)
   | (trace_state; fail)
 refine cw (by kernel_rfl) ?_
 refine ak ?_
 refine ay rfl ?_
 refine aH ?_
 refine bo ?_
 refine ak ?_
 refine ab ?_
 refine aq (aj rfl) rfl rfl ?_
 refine aq (bd rfl rfl (by omega) (by omega)) rfl rfl ?_
 refine aq (ai rfl) rfl rfl ?_
 refine ae ?_
 refine bj (k + 1) ?_ ?_ ⟨rfl, trivial⟩ (by repeat (first | exact trivial | refine ⟨rfl, ?_⟩)) av
 refine ⟨by omega, fun i h1 => ?_⟩
 by_cases e : i = k
 · rw [e]; omega
 · exact hI.2 i (by omega)
 omega
 refine ae ?_
 refine ak ?_
 refine ay rfl ?_
 refine bE ?_
 refine aZ ?_
 refine aY ?_
 refine a7 ?_
 refine ak ?_
 refine ap ?_
 refine ab ?_
 refine aq (ai rfl) rfl rfl ?_
 refine ae ?_
 refine ak ?_
 refine aJ ?_
 refine aN (ts := [4]) rfl rfl rfl (fun w hw => ?_)
 refine ⟨?_, hw.base⟩
 show Ending.returned (.bool _) = _
 congr 2
 focus first
   | (rw [bT, decide_eq_true hz, decide_eq_true hck, decide_eq_true hsx, decide_eq_false (fun e => by have := hif.1 e k (by omega); omega)]; rfl)
   | (rw [bT, decide_eq_true hz, decide_eq_true hck, decide_eq_true hsx, decide_eq_true (hif.2 fun i hi => hI.2 i (by omega))]; rfl)
   | (rw [bT, decide_eq_false h1_2]; rfl)
   | (rw [bT, decide_eq_true (Decidable.not_not.1 h1_2), decide_eq_false h1_6]; rfl)
   | (rw [bT, decide_eq_true (Decidable.not_not.1 h1_2), decide_eq_true (Decidable.not_not.1 h1_6), decide_eq_false (fun e => h1_14 e.symm)]; rfl)
   | (trace_state; fail)
end Go.Proofs.YtnpdgmoeoidppaaGreat

/- law 14: what is gone through -/
namespace Go.Proofs.YtnpdgmoeoidppaaGreat
open Go.RowKit Go.Shelf
set_option linter.unusedVariables false
set_option linter.unusedSimpArgs false

theorem ent_92 : Enters Tryz.prog 92 := enters_of Tryz.func92 (by kernel_rfl) rfl
theorem fa_85_1 : FA Tryz.prog 85 1 1 := fun b o w => by kernel_rfl
theorem fa_85_2 : FA Tryz.prog 85 2 2 := fun b o w => by kernel_rfl
theorem ty_85 : TyI Tryz.prog 85 true 6 72 (.agg #[.int .i64 0, .string ⟨#[]⟩, .slice none 0 0, .bool false, .int .u64 0, .int .u64 0]) := TyI.mk' (by kernel_rfl) (fun _ => by kernel_rfl)

/-- An act. -/
structure Ac where
  kind : Int
  host : aU
  hosts : List aU
  A : Option Addr
  c : Nat
  ad : Ad
def acC (a : Ac) : List Value := [.int .i64 a.kind, .string (ba a.host), .slice a.A a.hosts.length a.c, .bool a.ad.six, .int .u64 a.ad.hi, .int .u64 a.ad.lo]
theorem enc_ac : Enc acC 6 := ⟨fun _ => rfl, fun _ => rfl⟩
def fj : Ac := ⟨0, [], [], none, 0, ad0⟩
def acR (a : Ac) : List Ch := [Ch.rd a.A 1 dV a.hosts]
def dK (l : List aU) : Bool := decide (l.length ≤ 20) && l.all fun n => decide (n.length ≤ 400)
def bS (a : Ac) : Bool := decide (a.host.length ≤ 400) && dK a.hosts
def bA (rg : Rg) (nr : Nat) (acts : List Ac) : Bool := acts.all bS && (decide (acts.length ≤ 60) && (decide (nr ≤ 6) && decide (bD rg ≤ 128)))
theorem cE {α : Type} {f : α → Bool} {l : List α} {i : Nat} {d : α} (hi : i < l.length) (h : f (l.getD i d) = false) : l.all f = false := by
  rw [Bool.eq_false_iff]; intro e
  have := List.all_eq_true.1 e _ (bc (d := d) hi)
  rw [h] at this; cases this
theorem fV {α : Type} {f : α → Bool} {l : List α} {d : α} (h : ∀ q, q < l.length → f (l.getD q d) = true) : l.all f = true := List.all_eq_true.2 fun x hx => by
  obtain ⟨q, hq, rfl⟩ := List.mem_iff_getElem.1 hx
  have := h q hq
  rw [List.getD_eq_getElem?_getD, List.getElem?_eq_getElem hq] at this; exact this

set_option maxRecDepth 100000 in
theorem c_light14 (rg : Rg) (nr : Nat) (A : Option Addr) (c : Nat) (acts : List Ac) (F : Option Addr) (e : Nat) (hr : f7 rg.base) (hn : nr ≤ 9223372036854775807) (hal : acts.length ≤ 9223372036854775807) : RC Tryz.prog 32 #[.agg (plC rg A nr c).toArray, .slice F acts.length e] [Ch.rd F 6 acC acts, Ch.rall (acts.flatMap acR)] (α := Unit) (fun _ => .bool (bA rg nr acts)) (fun _ => []) := by
 refine bp (args := [.agg (plC rg A nr c).toArray, .slice F acts.length e]) 64 Tryz.func32 rfl rfl rfl (fun w0 => ?_)
 refine ap ?_
 refine ab ?_
 refine bI rfl rfl rfl (fun b1 => ?_)
 refine aq (ai rfl) rfl rfl ?_
 refine ae ?_
 refine ak ?_
 refine ap ?_
 refine ap ?_
 refine ab ?_
 refine aq (ai rfl) rfl rfl ?_
 refine ae ?_
 refine ak ?_
 refine aR ?_
 refine bY (σ := Nat) [4, 5, 6, 7, 8, 9, 10, 11, 12, 13, 14, 15, 16, 17, 18, 19, 20, 21, 22, 23, 24, 25, 26, 27, 28, 29, 30, 31, 32, 33, 34, 35, 36, 37, 38, 39, 40, 41, 42, 43, 44, 45, 46, 47, 48] (fun i => i ≤ acts.length ∧ ∀ q, q < i → bS (acts.getD q fj) = true) (fun i => acts.length - i) (fun i => [(5, .int .i64 i)]) (0) ?_ ⟨rfl, trivial⟩ (fun i hI => ?_)
 exact ⟨Nat.zero_le _, nofun⟩
 refine ap ?_
 refine ap ?_
 refine ab ?_
 refine aq (aj rfl) rfl rfl ?_
 refine aq (aj rfl) rfl rfl ?_
 refine aq (bK Tryz.underlying86 rfl) rfl rfl ?_
 refine aq (bP rfl rfl) rfl rfl ?_
 refine aG (t := 10) rfl (fun h2_3 => ?_) (fun h2_3 => ?_)
 have hi : i < acts.length := by omega
 refine ae ?_
 refine ak ?_
 refine aA rfl ?_
 refine aH ?_
 refine ak ?_
 refine ap ?_
 refine aR ?_
 refine ap ?_
 refine ap ?_
 refine ab ?_
 refine aq (aj rfl) rfl rfl ?_
 refine aq (aj rfl) rfl rfl ?_
 refine aq (bq  Tryz.underlying86 ty_85 rfl rfl (bH 0 rfl) rfl (by omega)) rfl rfl ?_
 refine aq (aF fa_85_1 rfl) rfl rfl ?_
 refine aq (y_ldm 1 enc_ac fj bC rfl (bH 0 rfl) (by omega) rfl rfl) rfl rfl ?_
 refine aq (dJ Tryz.underlying26 rfl) rfl rfl ?_
 refine aq (dO rfl rfl) rfl rfl ?_
 refine aG (t := 19) rfl (fun h4_6 => ?_) (fun h4_6 => ?_)
 refine aq (aj rfl) rfl rfl ?_
 refine aK rfl rfl rfl rfl ?_
 refine aK rfl rfl rfl rfl ?_
 refine aK rfl rfl rfl rfl ?_
 refine aK rfl rfl rfl rfl ?_
 refine aK rfl rfl rfl rfl ?_
 refine aK rfl rfl rfl rfl ?_
 refine aK rfl rfl rfl rfl ?_
 refine aq (aS rfl rfl) rfl rfl ?_
 refine ae ?_
 refine ak ?_
 refine aA rfl ?_
 refine ap ?_
 refine ab ?_
 refine aq (ai rfl) rfl rfl ?_
 refine ae ?_
 refine ak ?_
 refine aJ ?_
 refine aC ?_
 refine aT ?_
 refine aC ?_
 refine bw ?_
 refine aT ?_
 refine aC ?_
 refine aN (ts := [4]) rfl rfl rfl (fun w hw => ?_)
 focus first
   | (have hE : bA rg nr acts = false := by rw [bA, cE (d := fj) hi (by rw [bS, decide_eq_false (by omega)]; rfl)]; rfl
      exact ⟨(), by rw [hE]; rfl, hw.base, (hw.weak (List.nil_sublist _) (fun s hs => hs)).toNews⟩)
   | (have hE : bA rg nr acts = false := by rw [bA, cE (d := fj) hi (by rw [bS, dK, decide_eq_false (p := (acts.getD i fj).hosts.length ≤ 20) (by omega), Bool.false_and, Bool.and_false])]; rfl
      exact ⟨(), by rw [hE]; rfl, hw.base, (hw.weak (List.nil_sublist _) (fun s hs => hs)).toNews⟩)
   | (have hE : bA rg nr acts = false := by rw [bA, cE (d := fj) hi (by rw [bS, dK, cE (d := ([] : aU)) hk (decide_eq_false (by omega)), Bool.and_false, Bool.and_false])]; rfl
      exact ⟨(), by rw [hE]; rfl, hw.base, (hw.weak (List.nil_sublist _) (fun s hs => hs)).toNews⟩)
   | (have hE : acts.all bS = true := fV (d := fj) (fun q hq => hI.2 q (by omega))
      refine ⟨(), ?_, hw.base, (hw.weak (List.nil_sublist _) (fun s hs => hs)).toNews⟩
      show Ending.returned (.bool _) = _
      congr 2
      rw [bA, hE, Bool.true_and]
      focus first
        | (rw [decide_eq_false (p := acts.length ≤ 60) (by omega)]; rfl)
        | (rw [decide_eq_true (p := acts.length ≤ 60) (by omega), decide_eq_false (p := nr ≤ 6) (by omega)]; rfl)
        | (rw [decide_eq_true (p := acts.length ≤ 60) (by omega), decide_eq_true (p := nr ≤ 6) (by omega), Bool.true_and, Bool.true_and, decide_eq_decide]; omega))
   | (trace_state; fail)
 refine aq (aj rfl) rfl rfl ?_
 refine aw rfl rfl ?_
 refine aq (aj rfl) rfl rfl ?_
 refine aw rfl rfl ?_
 refine aq (aj rfl) rfl rfl ?_
 refine aw rfl rfl ?_
 refine aq (bq  Tryz.underlying86 ty_85 rfl rfl (bH 0 rfl) rfl (by omega)) rfl rfl ?_
 refine aw rfl rfl ?_
 refine aq (aF fa_85_2 rfl) rfl rfl ?_
 refine aw rfl rfl ?_
 refine aq (y_ldm 2 enc_ac fj cj rfl (bH 0 rfl) (by omega) rfl rfl) rfl rfl ?_
 refine aw rfl rfl ?_
 refine aq (bK Tryz.underlying59 rfl) rfl rfl ?_
 refine aw rfl rfl ?_
 refine aq (dO rfl rfl) rfl rfl ?_
 refine aG (t := 27) rfl (fun h4_14 => ?_) (fun h4_14 => ?_)
 refine aq (aL rfl rfl) rfl rfl ?_
 refine ae ?_
 refine ak ?_
 refine aA rfl ?_
 refine ap ?_
 refine ab ?_
 refine aq (ai rfl) rfl rfl ?_
 refine ae ?_
 refine ak ?_
 refine aJ ?_
 refine aC ?_
 refine aT ?_
 refine aC ?_
 refine bw ?_
 refine aT ?_
 refine aC ?_
 refine aN (ts := [4]) rfl rfl rfl (fun w hw => ?_)
 focus first
   | (have hE : bA rg nr acts = false := by rw [bA, cE (d := fj) hi (by rw [bS, decide_eq_false (by omega)]; rfl)]; rfl
      exact ⟨(), by rw [hE]; rfl, hw.base, (hw.weak (List.nil_sublist _) (fun s hs => hs)).toNews⟩)
   | (have hE : bA rg nr acts = false := by rw [bA, cE (d := fj) hi (by rw [bS, dK, decide_eq_false (p := (acts.getD i fj).hosts.length ≤ 20) (by omega), Bool.false_and, Bool.and_false])]; rfl
      exact ⟨(), by rw [hE]; rfl, hw.base, (hw.weak (List.nil_sublist _) (fun s hs => hs)).toNews⟩)
   | (have hE : bA rg nr acts = false := by rw [bA, cE (d := fj) hi (by rw [bS, dK, cE (d := ([] : aU)) hk (decide_eq_false (by omega)), Bool.and_false, Bool.and_false])]; rfl
      exact ⟨(), by rw [hE]; rfl, hw.base, (hw.weak (List.nil_sublist _) (fun s hs => hs)).toNews⟩)
   | (have hE : acts.all bS = true := fV (d := fj) (fun q hq => hI.2 q (by omega))
      refine ⟨(), ?_, hw.base, (hw.weak (List.nil_sublist _) (fun s hs => hs)).toNews⟩
      show Ending.returned (.bool _) = _
      congr 2
      rw [bA, hE, Bool.true_and]
      focus first
        | (rw [decide_eq_false (p := acts.length ≤ 60) (by omega)]; rfl)
        | (rw [decide_eq_true (p := acts.length ≤ 60) (by omega), decide_eq_false (p := nr ≤ 6) (by omega)]; rfl)
        | (rw [decide_eq_true (p := acts.length ≤ 60) (by omega), decide_eq_true (p := nr ≤ 6) (by omega), Bool.true_and, Bool.true_and, decide_eq_decide]; omega))
   | (trace_state; fail)
 refine aq (aL rfl rfl) rfl rfl ?_
 refine ae ?_
 refine ak ?_
 refine ay rfl ?_
 refine aH ?_
 refine ak ?_
 refine ap ?_
 have hIo := hI
 refine ab ?_
 refine aq (ai rfl) rfl rfl ?_
 refine ae ?_
 refine ak ?_
 refine aR ?_
 refine bY (σ := Nat) [4, 6, 29, 30, 31, 32, 33, 34, 35, 36, 37, 38, 39, 40, 41, 42, 43, 44, 45, 46, 47, 48] (fun k => k ≤ (acts.getD i fj).hosts.length ∧ ∀ q, q < k → decide (((acts.getD i fj).hosts.getD q []).length ≤ 400) = true) (fun k => (acts.getD i fj).hosts.length - k) (fun k => [(6, .int .i64 k)]) (0) ?_ ⟨rfl, trivial⟩ (fun k hI => ?_)
 exact ⟨Nat.zero_le _, nofun⟩
 refine ap ?_
 refine ap ?_
 refine ab ?_
 refine aq (aj rfl) rfl rfl ?_
 refine aq (aj rfl) rfl rfl ?_
 refine aq (aj rfl) rfl rfl ?_
 refine aq (bq  Tryz.underlying86 ty_85 rfl rfl (bH 0 rfl) rfl (by omega)) rfl rfl ?_
 refine aq (aF fa_85_2 rfl) rfl rfl ?_
 refine aq (y_ldm 2 enc_ac fj cj rfl (bH 0 rfl) (by omega) rfl rfl) rfl rfl ?_
 refine aq (bK Tryz.underlying59 rfl) rfl rfl ?_
 refine aq (bP rfl rfl) rfl rfl ?_
 refine aG (t := 36) rfl (fun h7_7 => ?_) (fun h7_7 => ?_)
 have hk : k < (acts.getD i fj).hosts.length := by omega
 refine ae ?_
 refine ak ?_
 refine aA rfl ?_
 refine aH ?_
 refine ak ?_
 refine ap ?_
 refine aR ?_
 refine ap ?_
 refine ab ?_
 refine aq (aj rfl) rfl rfl ?_
 refine aq (aj rfl) rfl rfl ?_
 refine aq (bq  Tryz.underlying86 ty_85 rfl rfl (bH 0 rfl) rfl (by omega)) rfl rfl ?_
 refine aq (aF fa_85_2 rfl) rfl rfl ?_
 refine aq (y_ldm 2 enc_ac fj cj rfl (bH 0 rfl) (by omega) rfl rfl) rfl rfl ?_
 refine aq (aj rfl) rfl rfl ?_
 refine aq (bq  Tryz.underlying59 bC rfl rfl (fun w hw => (cI (ce 1 rfl hw) ((List.mem_flatMap.2 ⟨_, bc (d := fj) hi, .head _⟩))).1) rfl (by omega)) rfl rfl ?_
 refine aq (bu cO ([] : aU) bC rfl (fun w hw => (cI (ce 1 rfl hw) ((List.mem_flatMap.2 ⟨_, bc (d := fj) hi, .head _⟩))).1) (by omega) rfl rfl) rfl rfl ?_
 refine aq (dJ Tryz.underlying26 rfl) rfl rfl ?_
 refine aq (dO rfl rfl) rfl rfl ?_
 refine aG (t := 48) rfl (fun h9_9 => ?_) (fun h9_9 => ?_)
 refine ae ?_
 refine ak ?_
 refine aA rfl ?_
 refine ap ?_
 refine ab ?_
 refine aq (ai rfl) rfl rfl ?_
 refine ae ?_
 refine ak ?_
 refine aJ ?_
 refine aT ?_
 refine aC ?_
 refine bw ?_
 refine aT ?_
 refine aT ?_
 refine aC ?_
 refine bw ?_
 refine aT ?_
 refine aC ?_
 refine aN (ts := [4]) rfl rfl rfl (fun w hw => ?_)
 focus first
   | (have hE : bA rg nr acts = false := by rw [bA, cE (d := fj) hi (by rw [bS, decide_eq_false (by omega)]; rfl)]; rfl
      exact ⟨(), by rw [hE]; rfl, hw.base, (hw.weak (List.nil_sublist _) (fun s hs => hs)).toNews⟩)
   | (have hE : bA rg nr acts = false := by rw [bA, cE (d := fj) hi (by rw [bS, dK, decide_eq_false (p := (acts.getD i fj).hosts.length ≤ 20) (by omega), Bool.false_and, Bool.and_false])]; rfl
      exact ⟨(), by rw [hE]; rfl, hw.base, (hw.weak (List.nil_sublist _) (fun s hs => hs)).toNews⟩)
   | (have hE : bA rg nr acts = false := by rw [bA, cE (d := fj) hi (by rw [bS, dK, cE (d := ([] : aU)) hk (decide_eq_false (by omega)), Bool.and_false, Bool.and_false])]; rfl
      exact ⟨(), by rw [hE]; rfl, hw.base, (hw.weak (List.nil_sublist _) (fun s hs => hs)).toNews⟩)
   | (have hE : acts.all bS = true := fV (d := fj) (fun q hq => hI.2 q (by omega))
      refine ⟨(), ?_, hw.base, (hw.weak (List.nil_sublist _) (fun s hs => hs)).toNews⟩
      show Ending.returned (.bool _) = _
      congr 2
      rw [bA, hE, Bool.true_and]
      focus first
        | (rw [decide_eq_false (p := acts.length ≤ 60) (by omega)]; rfl)
        | (rw [decide_eq_true (p := acts.length ≤ 60) (by omega), decide_eq_false (p := nr ≤ 6) (by omega)]; rfl)
        | (rw [decide_eq_true (p := acts.length ≤ 60) (by omega), decide_eq_true (p := nr ≤ 6) (by omega), Bool.true_and, Bool.true_and, decide_eq_decide]; omega))
   | (trace_state; fail)
 refine ae ?_
 refine ak ?_
 refine ay rfl ?_
 refine aH ?_
 refine bo ?_
 refine ak ?_
 refine ab ?_
 refine aq (aj rfl) rfl rfl ?_
 refine aq (bd rfl rfl (by omega) (by omega)) rfl rfl ?_
 refine aq (ai rfl) rfl rfl ?_
 refine ae ?_
 refine bj (k + 1) ?_ ?_ ⟨rfl, trivial⟩ (by repeat (first | exact trivial | refine ⟨rfl, ?_⟩)) av
 refine ⟨by omega, fun q hq => ?_⟩
 by_cases e9 : q = k
 · rw [e9]; exact decide_eq_true (by omega)
 · exact hI.2 q (by omega)
 omega
 refine ae ?_
 refine ak ?_
 refine ay rfl ?_
 refine bE ?_
 refine aZ ?_
 refine aY ?_
 refine a7 ?_
 refine bo ?_
 refine ak ?_
 refine ab ?_
 refine aq (aj rfl) rfl rfl ?_
 refine aq (bd rfl rfl (by omega) (by omega)) rfl rfl ?_
 refine aq (ai rfl) rfl rfl ?_
 refine ae ?_
 refine bj (i + 1) ?_ ?_ ⟨rfl, trivial⟩ (by repeat (first | exact trivial | refine ⟨rfl, ?_⟩)) av
 refine ⟨by omega, fun q hq => ?_⟩
 by_cases e9 : q = i
 · rw [e9, bS, decide_eq_true (by omega), dK, decide_eq_true (p := (acts.getD i fj).hosts.length ≤ 20) (by omega), fV (d := ([] : aU)) (fun q hq => hI.2 q (by omega))]; rfl
 · exact hIo.2 q (by omega)
 omega
 refine ae ?_
 refine ak ?_
 refine ay rfl ?_
 refine bE ?_
 refine aZ ?_
 refine aY ?_
 refine a7 ?_
 refine ak ?_
 refine ap ?_
 refine ab ?_
 refine aq (aj rfl) rfl rfl ?_
 refine aq (bK Tryz.underlying86 rfl) rfl rfl ?_
 refine aq (y_leq rfl rfl) rfl rfl ?_
 refine aG (t := 51) rfl (fun h11_2 => ?_) (fun h11_2 => ?_)
 refine aq (aj rfl) rfl rfl ?_
 refine aw rfl rfl ?_
 refine aq (aF eD rfl) rfl rfl ?_
 refine aw rfl rfl ?_
 refine aq (aQ 0 gJ rfl rfl rfl) rfl rfl ?_
 refine aw rfl rfl ?_
 refine aq (bK Tryz.underlying65 rfl) rfl rfl ?_
 refine aw rfl rfl ?_
 refine aq (y_leq rfl rfl) rfl rfl ?_
 refine aG (t := 56) rfl (fun h11_7 => ?_) (fun h11_7 => ?_)
 refine aq (aS rfl rfl) rfl rfl ?_
 refine aq (aj rfl) rfl rfl ?_
 refine aw rfl rfl ?_
 refine aq (aF eG rfl) rfl rfl ?_
 refine aw rfl rfl ?_
 refine aq (aM 0 ck rfl rfl rfl rfl) rfl rfl ?_
 refine aw rfl rfl ?_
 refine aV rfl ent_92 (eZ rg hr) rfl ?_
 refine aw rfl rfl ?_
 refine aq (y_leq rfl rfl) rfl rfl ?_
 refine aq (aS rfl rfl) rfl rfl ?_
 refine aq (ai rfl) rfl rfl ?_
 refine ae ?_
 refine ak ?_
 refine aJ ?_
 refine aN (ts := [4]) rfl rfl rfl (fun w hw => ?_)
 focus first
   | (have hE : bA rg nr acts = false := by rw [bA, cE (d := fj) hi (by rw [bS, decide_eq_false (by omega)]; rfl)]; rfl
      exact ⟨(), by rw [hE]; rfl, hw.base, (hw.weak (List.nil_sublist _) (fun s hs => hs)).toNews⟩)
   | (have hE : bA rg nr acts = false := by rw [bA, cE (d := fj) hi (by rw [bS, dK, decide_eq_false (p := (acts.getD i fj).hosts.length ≤ 20) (by omega), Bool.false_and, Bool.and_false])]; rfl
      exact ⟨(), by rw [hE]; rfl, hw.base, (hw.weak (List.nil_sublist _) (fun s hs => hs)).toNews⟩)
   | (have hE : bA rg nr acts = false := by rw [bA, cE (d := fj) hi (by rw [bS, dK, cE (d := ([] : aU)) hk (decide_eq_false (by omega)), Bool.and_false, Bool.and_false])]; rfl
      exact ⟨(), by rw [hE]; rfl, hw.base, (hw.weak (List.nil_sublist _) (fun s hs => hs)).toNews⟩)
   | (have hE : acts.all bS = true := fV (d := fj) (fun q hq => hI.2 q (by omega))
      refine ⟨(), ?_, hw.base, (hw.weak (List.nil_sublist _) (fun s hs => hs)).toNews⟩
      show Ending.returned (.bool _) = _
      congr 2
      rw [bA, hE, Bool.true_and]
      focus first
        | (rw [decide_eq_false (p := acts.length ≤ 60) (by omega)]; rfl)
        | (rw [decide_eq_true (p := acts.length ≤ 60) (by omega), decide_eq_false (p := nr ≤ 6) (by omega)]; rfl)
        | (rw [decide_eq_true (p := acts.length ≤ 60) (by omega), decide_eq_true (p := nr ≤ 6) (by omega), Bool.true_and, Bool.true_and, decide_eq_decide]; omega))
   | (trace_state; fail)
 refine aq (aS rfl rfl) rfl rfl ?_
 refine aq (aj rfl) rfl rfl ?_
 refine aK rfl rfl rfl rfl ?_
 refine aK rfl rfl rfl rfl ?_
 refine aK rfl rfl rfl rfl ?_
 refine aK rfl rfl rfl rfl ?_
 refine aq (aL rfl rfl) rfl rfl ?_
 refine aq (ai rfl) rfl rfl ?_
 refine ae ?_
 refine ak ?_
 refine aJ ?_
 refine aN (ts := [4]) rfl rfl rfl (fun w hw => ?_)
 focus first
   | (have hE : bA rg nr acts = false := by rw [bA, cE (d := fj) hi (by rw [bS, decide_eq_false (by omega)]; rfl)]; rfl
      exact ⟨(), by rw [hE]; rfl, hw.base, (hw.weak (List.nil_sublist _) (fun s hs => hs)).toNews⟩)
   | (have hE : bA rg nr acts = false := by rw [bA, cE (d := fj) hi (by rw [bS, dK, decide_eq_false (p := (acts.getD i fj).hosts.length ≤ 20) (by omega), Bool.false_and, Bool.and_false])]; rfl
      exact ⟨(), by rw [hE]; rfl, hw.base, (hw.weak (List.nil_sublist _) (fun s hs => hs)).toNews⟩)
   | (have hE : bA rg nr acts = false := by rw [bA, cE (d := fj) hi (by rw [bS, dK, cE (d := ([] : aU)) hk (decide_eq_false (by omega)), Bool.and_false, Bool.and_false])]; rfl
      exact ⟨(), by rw [hE]; rfl, hw.base, (hw.weak (List.nil_sublist _) (fun s hs => hs)).toNews⟩)
   | (have hE : acts.all bS = true := fV (d := fj) (fun q hq => hI.2 q (by omega))
      refine ⟨(), ?_, hw.base, (hw.weak (List.nil_sublist _) (fun s hs => hs)).toNews⟩
      show Ending.returned (.bool _) = _
      congr 2
      rw [bA, hE, Bool.true_and]
      focus first
        | (rw [decide_eq_false (p := acts.length ≤ 60) (by omega)]; rfl)
        | (rw [decide_eq_true (p := acts.length ≤ 60) (by omega), decide_eq_false (p := nr ≤ 6) (by omega)]; rfl)
        | (rw [decide_eq_true (p := acts.length ≤ 60) (by omega), decide_eq_true (p := nr ≤ 6) (by omega), Bool.true_and, Bool.true_and, decide_eq_decide]; omega))
   | (trace_state; fail)
 refine aq (aj rfl) rfl rfl ?_
 refine aK rfl rfl rfl rfl ?_
 refine aK rfl rfl rfl rfl ?_
 refine aK rfl rfl rfl rfl ?_
 refine aK rfl rfl rfl rfl ?_
 refine aq (aL rfl rfl) rfl rfl ?_
 refine aq (aj rfl) rfl rfl ?_
 refine aK rfl rfl rfl rfl ?_
 refine aK rfl rfl rfl rfl ?_
 refine aK rfl rfl rfl rfl ?_
 refine aK rfl rfl rfl rfl ?_
 refine aq (aL rfl rfl) rfl rfl ?_
 refine aq (ai rfl) rfl rfl ?_
 refine ae ?_
 refine ak ?_
 refine aJ ?_
 refine aN (ts := [4]) rfl rfl rfl (fun w hw => ?_)
 focus first
   | (have hE : bA rg nr acts = false := by rw [bA, cE (d := fj) hi (by rw [bS, decide_eq_false (by omega)]; rfl)]; rfl
      exact ⟨(), by rw [hE]; rfl, hw.base, (hw.weak (List.nil_sublist _) (fun s hs => hs)).toNews⟩)
   | (have hE : bA rg nr acts = false := by rw [bA, cE (d := fj) hi (by rw [bS, dK, decide_eq_false (p := (acts.getD i fj).hosts.length ≤ 20) (by omega), Bool.false_and, Bool.and_false])]; rfl
      exact ⟨(), by rw [hE]; rfl, hw.base, (hw.weak (List.nil_sublist _) (fun s hs => hs)).toNews⟩)
   | (have hE : bA rg nr acts = false := by rw [bA, cE (d := fj) hi (by rw [bS, dK, cE (d := ([] : aU)) hk (decide_eq_false (by omega)), Bool.and_false, Bool.and_false])]; rfl
      exact ⟨(), by rw [hE]; rfl, hw.base, (hw.weak (List.nil_sublist _) (fun s hs => hs)).toNews⟩)
   | (have hE : acts.all bS = true := fV (d := fj) (fun q hq => hI.2 q (by omega))
      refine ⟨(), ?_, hw.base, (hw.weak (List.nil_sublist _) (fun s hs => hs)).toNews⟩
      show Ending.returned (.bool _) = _
      congr 2
      rw [bA, hE, Bool.true_and]
      focus first
        | (rw [decide_eq_false (p := acts.length ≤ 60) (by omega)]; rfl)
        | (rw [decide_eq_true (p := acts.length ≤ 60) (by omega), decide_eq_false (p := nr ≤ 6) (by omega)]; rfl)
        | (rw [decide_eq_true (p := acts.length ≤ 60) (by omega), decide_eq_true (p := nr ≤ 6) (by omega), Bool.true_and, Bool.true_and, decide_eq_decide]; omega))
   | (trace_state; fail)
end Go.Proofs.YtnpdgmoeoidppaaGreat

/- law 14: what is handed in -/
namespace Go.Proofs.YtnpdgmoeoidppaaGreat
open Go.RowKit Go.Shelf
set_option linter.unusedVariables false
set_option linter.unusedSimpArgs false

theorem dc_rg {w : World} : Dc Tryz.prog w 64 (α := Rg) (ea) (fun _ => []) (RgOk) := fun H enc base sp hd fuel cs x h => by
  obtain ⟨xs, n, rfl, _, hcl, hxl, hf⟩ := DataW.trod_struct Tryz.underlying64 h
  have hcl2 : cs.length = 4 := hcl.trans (by kernel_rfl)
  obtain ⟨x0, c0, r0, o0⟩ := eN hxl hf 0 (ft := 29) (off := 0) (k := 3) (by kernel_rfl) (by kernel_rfl) dc_ad
  obtain ⟨x1, c1, r1, o1⟩ := eN hxl hf 1 (ft := 3) (off := 3) (k := 1) (by kernel_rfl) (by kernel_rfl) (dc_int Tryz.underlying3)
  have hcs := cut0 (cutc c0 (cutc c1 (cutn hcl2) rfl) rfl)
  exact ⟨⟨x0, x1⟩, hcs, nofun, o0, o1.1, o1.2⟩

theorem dc_rgs {w : World} : Dc Tryz.prog w 65 (fun p : List Rg × Option Addr × Nat => [.slice p.2.1 p.1.length p.2.2]) (fun p => Ch.rd p.2.1 4 ea p.1 :: p.1.flatMap (fun _ => [])) (fun p => p.1.length ≤ 9223372036854775807 ∧ ∀ x ∈ p.1, RgOk x) := dc_slice Tryz.underlying65 (by kernel_rfl) (by decide) gn dc_rg

theorem dc_pl {w : World} : Dc Tryz.prog w 67 (α := Rg × List Rg × Option Addr × Nat) (fun q => plC q.1 q.2.2.1 q.2.1.length q.2.2.2) (fun q => [Ch.rd q.2.2.1 4 ea q.2.1]) (fun q => RgOk q.1 ∧ q.2.1.length ≤ 9223372036854775807 ∧ ∀ x ∈ q.2.1, RgOk x) := fun H enc base sp hd fuel cs x h => by
  obtain ⟨xs, n, rfl, _, hcl, hxl, hf⟩ := DataW.trod_struct Tryz.underlying67 h
  have hcl2 : cs.length = 5 := hcl.trans (by kernel_rfl)
  obtain ⟨x0, c0, r0, o0⟩ := eN hxl hf 0 (ft := 64) (off := 0) (k := 4) (by kernel_rfl) (by kernel_rfl) dc_rg
  obtain ⟨⟨x1, A, c⟩, c1, r1, o1⟩ := eN hxl hf 1 (ft := 65) (off := 4) (k := 1) (by kernel_rfl) (by kernel_rfl) dc_rgs
  have hcs := cut0 (cutc c0 (cutc c1 (cutn hcl2) rfl) rfl)
  exact ⟨(x0, x1, A, c), hcs, aP (r1 _ List.mem_cons_self) nofun, o0, o1⟩

/-- A row of names. -/
abbrev Nr := List aU × Option Addr × Nat
def nrC (q : Nr) : List Value := [.slice q.2.1 q.1.length q.2.2]
def dm : Nr := ([], none, 0)
theorem c4 : Enc nrC 1 := ⟨fun _ => rfl, fun _ => rfl⟩
def nrR (q : Nr) : List Ch := [Ch.rd q.2.1 1 dV q.1]
theorem dc_nr {w : World} : Dc Tryz.prog w 59 nrC nrR (fun p => p.1.length ≤ 9223372036854775807 ∧ ∀ s ∈ p.1, s.length ≤ 9223372036854775807) := fun H enc base sp hd fuel cs x h => by
  obtain ⟨q, h1, h2, h3⟩ := dc_names H enc base sp hd fuel cs x h
  exact ⟨q, h1, aP (h2 _ List.mem_cons_self) nofun, h3⟩
theorem dc_nrs {w : World} : Dc Tryz.prog w 83 (fun p : List Nr × Option Addr × Nat => [.slice p.2.1 p.1.length p.2.2]) (fun p => Ch.rd p.2.1 1 nrC p.1 :: p.1.flatMap nrR) (fun p => p.1.length ≤ 9223372036854775807 ∧ ∀ q ∈ p.1, q.1.length ≤ 9223372036854775807 ∧ ∀ s ∈ q.1, s.length ≤ 9223372036854775807) := dc_slice Tryz.underlying83 (by kernel_rfl) (by decide) c4 dc_nr

end Go.Proofs.YtnpdgmoeoidppaaGreat
