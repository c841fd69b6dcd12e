import Derived.Test.YtnpdgmoeoidppaaGreatVkQe
import Derived.Test.YtnpdgmoeoidppaaGreatVjQe
/- ranges: the document's answer -/
namespace Go.Proofs.YtnpdgmoeoidppaaGreat
open Go.RowKit Go.Shelf
set_option linter.unusedVariables false
set_option linter.unusedSimpArgs false

theorem ent_160 : Enters Tryz.prog 160 := enters_of Tryz.func160 (by kernel_rfl) rfl
theorem ent_161 : Enters Tryz.prog 161 := enters_of Tryz.func161 (by kernel_rfl) rfl
theorem ent_163 : Enters Tryz.prog 163 := enters_of Tryz.func163 (by kernel_rfl) rfl

theorem dR {x k : Int} {K : Nat} (hx : 0 ≤ x ∧ x ≤ 18446744073709551615) (hk : k = K) (hK : K < 64) : bits .and .u64 (x.fdiv (2 ^ min k.toNat IntKind.u64.bits)) 1 = ((x.toNat / 2 ^ K % 2 : Nat) : Int) := by
  subst hk
  obtain ⟨X, rfl⟩ := Int.eq_ofNat_of_zero_le hx.1
  rw [Int.toNat_natCast, show min K IntKind.u64.bits = K from Nat.min_eq_left (by show K ≤ 64; omega)]
  rw [Int.fdiv_eq_ediv_of_nonneg _ (by exact_mod_cast Nat.zero_le (2 ^ K))]
  have e : ((X : Int) / 2 ^ K) = ((X / 2 ^ K : Nat) : Int) := by rw [Int.natCast_ediv, Int.natCast_pow]; rfl
  rw [e]
  have h1 := andI_nat (a := X / 2 ^ K) (b := 1) (Nat.lt_of_le_of_lt (Nat.div_le_self _ _) (by omega)) (by decide)
  rw [Nat.and_one_is_mod] at h1
  exact h1
theorem head_iff {a : Ad} {m : Nat} (hc : bV a = 0) (ha : AdOk a) (hm : (m : Int) ≤ bR a) : e8 a m = a ↔ ∀ i : Nat, m ≤ i → (i : Int) < bR a → e7 a i = 0 := by
  obtain ⟨h1, h2, h3, h4⟩ := ha
  have h64 : (2 : Nat) ^ 64 = 18446744073709551616 := by decide
  have h32 : (2 : Nat) ^ 32 = 4294967296 := by decide
  by_cases h6 : a.six = true
  · rw [bR, if_pos h6] at hm ⊢
    rw [head_six h6 (by omega) ⟨h1, h2⟩ ⟨h3, h4⟩]
    have c1 := cut_self (n := 64) (m := min m 64) (x := a.hi.toNat) (Nat.min_le_right _ _)
    have c2 := cut_self (n := 64) (m := m - 64) (x := a.lo.toNat) (by omega)
    have e : (⟨a.six, (eU 64 (min m 64) a.hi.toNat : Nat), (eU 64 (m - 64) a.lo.toNat : Nat)⟩ : Ad) = a ↔ eU 64 (min m 64) a.hi.toNat = a.hi.toNat ∧ eU 64 (m - 64) a.lo.toNat = a.lo.toNat := by
      constructor
      · intro h
        have g1 := congrArg Ad.hi h; have g2 := congrArg Ad.lo h
        simp only at g1 g2
        omega
      · intro h
        obtain ⟨s, hi, lo⟩ := a
        simp only [Ad.mk.injEq, true_and]
        simp only at h h1 h3
        omega
    rw [e, c1, c2]
    constructor
    · intro h i hi1 hi2
      rw [e7, if_pos h6]
      split
      · exact h.1 i (by omega) (by omega)
      · exact h.2 (i - 64) (by omega) (by omega)
    · intro h
      refine ⟨fun i i1 i2 => ?_, fun i i1 i2 => ?_⟩
      · have := h i (by omega) (by omega)
        rw [e7, if_pos h6, if_pos (by omega)] at this; exact this
      · have := h (i + 64) (by omega) (by omega)
        rw [e7, if_pos h6, if_neg (by omega), Nat.add_sub_cancel] at this; exact this
  · have h6 : a.six = false := by simpa using h6
    have hlo : a.lo < 4294967296 ∧ a.hi = 0 := by
      unfold bV at hc
      split at hc
      · exact absurd hc (by decide)
      · rename_i q; have q2 : ¬ (a.hi ≠ 0 ∨ 4294967296 ≤ a.lo) := fun x => q ⟨h6, x⟩; omega
    rw [bR, if_neg (by rw [h6]; decide)] at hm ⊢
    rw [head_four h6 (by omega) ⟨h3, hlo.1⟩]
    have c2 := cut_self (n := 32) (m := m) (x := a.lo.toNat) (by omega)
    have e : (⟨a.six, a.hi, (eU 32 m a.lo.toNat : Nat)⟩ : Ad) = a ↔ eU 32 m a.lo.toNat = a.lo.toNat := by
      constructor
      · intro h
        have g2 := congrArg Ad.lo h
        simp only at g2
        omega
      · intro h
        obtain ⟨s, hi, lo⟩ := a
        simp only [Ad.mk.injEq, true_and]
        simp only at h h3
        omega
    rw [e, c2]
    constructor
    · intro h i hi1 hi2
      rw [e7, if_neg (by rw [h6]; decide)]; exact h i hi1 (by omega)
    · intro h i i1 i2
      have := h i i1 (by omega)
      rw [e7, if_neg (by rw [h6]; decide)] at this; exact this

theorem c_wide5 (a : Ad) : Pure Tryz.prog 161 #[.agg (dP a).toArray] (.int .i64 (bR a)) := by
 intro w0
 refine aZ (ok0 := no) (S := []) (args := [.agg (dP a).toArray]) 5 Tryz.func161 rfl rfl rfl (by simp) (by simp) ?_
 refine ao ?_
 refine aa ?_
 refine bu rfl rfl rfl (fun b1 => ?_)
 refine ap (ai rfl) rfl rfl ?_
 refine ab ?_
 refine aj ?_
 refine ao ?_
 refine ao ?_
 refine aa ?_
 refine ap (aA de rfl) rfl rfl ?_
 refine ap (aH 0 ty_4 rfl rfl rfl) rfl rfl ?_
 refine bh (t := 4) rfl (fun h1_1 => ?_) (fun h1_1 => ?_)
 refine ab ?_
 refine aj ?_
 refine ax rfl ?_
 refine ao ?_
 refine aa ?_
 refine ap (ai rfl) rfl rfl ?_
 refine ab ?_
 refine aj ?_
 refine aB ?_
 refine aw ?_
 refine aG (ts := [2]) rfl rfl rfl (fun w hw => ?_)
 exact ⟨by rw [bR, if_pos h1_1]; rfl, hw.base⟩
 refine ab ?_
 refine aj ?_
 refine au rfl ?_
 refine aF ?_
 refine aj ?_
 refine ao ?_
 refine aa ?_
 refine ap (ai rfl) rfl rfl ?_
 refine ab ?_
 refine aj ?_
 refine aB ?_
 refine aG (ts := [2]) rfl rfl rfl (fun w hw => ?_)
 exact ⟨by rw [bR, if_neg (by rw [h1_1]; decide)]; rfl, hw.base⟩

theorem c_bit5 (a : Ad) (i : Nat) (h : AdOk a) (hi : (i : Int) < bR a) : Pure Tryz.prog 163 #[.agg (dP a).toArray, .int .i64 i] (.int .u64 (e7 a i)) := by
 intro w0
 refine aZ (ok0 := no) (S := []) (args := [.agg (dP a).toArray, .int .i64 i]) 31 Tryz.func163 rfl rfl rfl (by simp) (by simp) ?_
 refine ao ?_
 refine aa ?_
 refine bu rfl rfl rfl (fun b1 => ?_)
 refine ap (ai rfl) rfl rfl ?_
 refine ab ?_
 refine aj ?_
 refine ao ?_
 refine ao ?_
 refine aa ?_
 refine ap (aA de rfl) rfl rfl ?_
 refine ap (aH 0 ty_4 rfl rfl rfl) rfl rfl ?_
 refine bh (t := 6) rfl (fun h1_1 => ?_) (fun h1_1 => ?_)
 rw [bR, if_pos h1_1] at hi
 refine ap (bB rfl) rfl rfl ?_
 refine ab ?_
 refine aj ?_
 refine au rfl ?_
 refine aF ?_
 refine aj ?_
 refine ao ?_
 refine ao ?_
 refine aa ?_
 refine ap (ak rfl) rfl rfl ?_
 refine ap (ce rfl rfl) rfl rfl ?_
 refine aC (t := 16) rfl (fun h3_1 => ?_) (fun h3_1 => ?_)
 refine ab ?_
 refine aj ?_
 refine ax rfl ?_
 refine ao ?_
 refine aa ?_
 refine ap (aA dE rfl) rfl rfl ?_
 refine ap (aH 0 cV rfl rfl rfl) rfl rfl ?_
 refine ap (ak rfl) rfl rfl ?_
 refine ap (fS rfl rfl (by omega) (by omega)) rfl rfl ?_
 refine ap (ea Tryz.underlying3 Tryz.underlying202 rfl (dH (by omega) (by omega))) rfl rfl ?_
 refine ap (y_shr rfl rfl (by omega)) rfl rfl ?_
 refine ap (y_and rfl rfl) rfl rfl ?_
 refine ap (ai rfl) rfl rfl ?_
 refine ab ?_
 refine aj ?_
 refine aB ?_
 refine aw ?_
 refine aG (ts := [4]) rfl rfl rfl (fun w hw => ?_)
 refine ⟨?_, hw.base⟩
 show Ending.returned (.int .u64 _) = _
 congr 2
 focus first
   | (rw [e7, if_neg (by rw [h1_1]; decide), fB]; exact dR h.2.2 (by omega) (by omega))
   | (rw [e7, if_pos h1_1, if_pos (by omega), fB]; exact dR ⟨h.1, h.2.1⟩ (by omega) (by omega))
   | (rw [e7, if_pos h1_1, if_neg (by omega), fB]; exact dR h.2.2 (by omega) (by omega))
   | (trace_state; fail)
 refine ab ?_
 refine aj ?_
 refine au rfl ?_
 refine aF ?_
 refine aj ?_
 refine ao ?_
 refine aa ?_
 refine ap (aA dq rfl) rfl rfl ?_
 refine ap (aH 0 cV rfl rfl rfl) rfl rfl ?_
 refine ap (ak rfl) rfl rfl ?_
 refine ap (fS rfl rfl (by omega) (by omega)) rfl rfl ?_
 refine ap (ea Tryz.underlying3 Tryz.underlying202 rfl (dH (by omega) (by omega))) rfl rfl ?_
 refine ap (y_shr rfl rfl (by omega)) rfl rfl ?_
 refine ap (y_and rfl rfl) rfl rfl ?_
 refine ap (ai rfl) rfl rfl ?_
 refine ab ?_
 refine aj ?_
 refine aB ?_
 refine aG (ts := [4]) rfl rfl rfl (fun w hw => ?_)
 refine ⟨?_, hw.base⟩
 show Ending.returned (.int .u64 _) = _
 congr 2
 focus first
   | (rw [e7, if_neg (by rw [h1_1]; decide), fB]; exact dR h.2.2 (by omega) (by omega))
   | (rw [e7, if_pos h1_1, if_pos (by omega), fB]; exact dR ⟨h.1, h.2.1⟩ (by omega) (by omega))
   | (rw [e7, if_pos h1_1, if_neg (by omega), fB]; exact dR h.2.2 (by omega) (by omega))
   | (trace_state; fail)
 rw [bR, if_neg (by rw [h1_1]; decide)] at hi
 refine ap (bB rfl) rfl rfl ?_
 refine ab ?_
 refine aj ?_
 refine ax rfl ?_
 refine ao ?_
 refine aa ?_
 refine ap (aA dq rfl) rfl rfl ?_
 refine ap (aH 0 cV rfl rfl rfl) rfl rfl ?_
 refine ap (ak rfl) rfl rfl ?_
 refine ap (fS rfl rfl (by omega) (by omega)) rfl rfl ?_
 refine ap (ea Tryz.underlying3 Tryz.underlying202 rfl (dH (by omega) (by omega))) rfl rfl ?_
 refine ap (y_shr rfl rfl (by omega)) rfl rfl ?_
 refine ap (y_and rfl rfl) rfl rfl ?_
 refine ap (ai rfl) rfl rfl ?_
 refine ab ?_
 refine aj ?_
 refine aB ?_
 refine aw ?_
 refine aG (ts := [4]) rfl rfl rfl (fun w hw => ?_)
 refine ⟨?_, hw.base⟩
 show Ending.returned (.int .u64 _) = _
 congr 2
 focus first
   | (rw [e7, if_neg (by rw [h1_1]; decide), fB]; exact dR h.2.2 (by omega) (by omega))
   | (rw [e7, if_pos h1_1, if_pos (by omega), fB]; exact dR ⟨h.1, h.2.1⟩ (by omega) (by omega))
   | (rw [e7, if_pos h1_1, if_neg (by omega), fB]; exact dR h.2.2 (by omega) (by omega))
   | (trace_state; fail)

set_option maxRecDepth 100000 in
theorem c_ref05Check (r : Rg) (h : AdOk r.base) : Pure Tryz.prog 160 #[.agg (dX r).toArray] (.int .i64 (cy r)) := by
 intro w0
 refine aZ (ok0 := no) (S := []) (args := [.agg (dX r).toArray]) 35 Tryz.func160 rfl rfl rfl (by simp) (by simp) ?_
 refine ao ?_
 refine aa ?_
 refine bu rfl rfl rfl (fun b1 => ?_)
 refine ap (ai rfl) rfl rfl ?_
 refine ab ?_
 refine aj ?_
 refine ao ?_
 refine ao ?_
 refine dC 17 rfl mixed ?_
 refine ar (i := 0) rfl ah (aA cJ rfl) av av rfl (ae (ae aq)) (by kernel_rfl) rfl ?_
 refine ar (i := 1) rfl ah (aJ 0 aQ rfl rfl rfl rfl) av av rfl (ae (ae aq)) (by kernel_rfl) rfl ?_
 refine cK (i := 2) rfl rfl rfl (bg rfl ent_79) (by kernel_rfl) rfl ?_
 refine aU rfl ent_79 (c_ref04_Check r.base h.2.2.1) rfl ?_
 refine ab ?_
 refine cW av ?_
 refine ar (i := 3) rfl ah (b8 rfl rfl) av av rfl (ae (ae aq)) (by kernel_rfl) rfl ?_
 refine co (t := 7) rfl (fun h1_3 => ?_) (fun h1_3 => ?_)
 refine ar (i := 4) rfl ah (ak rfl) av av rfl (ae (ae aq)) (by kernel_rfl) rfl ?_
 refine aL (i := 5) rfl (az rfl rfl rfl) av rfl (ae (ae aq)) (by kernel_rfl) rfl ?_
 refine aL (i := 6) rfl (az rfl rfl rfl) av rfl (ae (ae aq)) (by kernel_rfl) rfl ?_
 refine aL (i := 7) rfl (az rfl rfl rfl) av rfl (ae (ae aq)) (by kernel_rfl) rfl ?_
 refine ar (i := 8) rfl ah (aT rfl rfl) av av rfl (ae (ae aq)) (by kernel_rfl) rfl ?_
 refine ar (i := 9) rfl ah (ak rfl) av av rfl (ae (ae aq)) (by kernel_rfl) rfl ?_
 refine aL (i := 10) rfl (az rfl rfl rfl) av rfl (ae (ae aq)) (by kernel_rfl) rfl ?_
 refine aL (i := 11) rfl (az rfl rfl rfl) av rfl (ae (ae aq)) (by kernel_rfl) rfl ?_
 refine aL (i := 12) rfl (az rfl rfl rfl) av rfl (ae (ae aq)) (by kernel_rfl) rfl ?_
 refine aL (i := 13) rfl (az rfl rfl rfl) av rfl (ae (ae aq)) (by kernel_rfl) rfl ?_
 refine aL (i := 14) rfl (az rfl rfl rfl) av rfl (ae (ae aq)) (by kernel_rfl) rfl ?_
 refine aL (i := 15) rfl (az rfl rfl rfl) av rfl (ae (ae aq)) (by kernel_rfl) rfl ?_
 refine ar (i := 16) rfl ah (aT rfl rfl) av av rfl (ae (ae aq)) (by kernel_rfl) rfl ?_
 refine bU (by kernel_rfl) ?_
 refine aj ?_
 refine ax rfl ?_
 refine ao ?_
 refine aa ?_
 refine ap (ai rfl) rfl rfl ?_
 refine ab ?_
 refine aj ?_
 refine aB ?_
 refine aw ?_
 refine aG (ts := [2]) rfl rfl rfl (fun w hw => ?_)
 focus first
   | (exact ⟨by rw [cy, if_pos (by first | exact .inl h1_3 | exact .inr (.inl h1_7) | exact .inr (.inr (.inl h1_15)))]; rfl, hw.base⟩)
   | (exact ⟨by rw [cy, if_pos (.inr (.inr (.inr (fun e => by have := hif.1 e k hI.1 (by omega); omega))))]; rfl, hw.base⟩)
   | (exact ⟨by rw [cy, if_neg (fun q => q.elim (fun q => q hck) (fun q => q.elim h1_7 (fun q => q.elim h1_15 (fun q => q (hif.2 fun i h1 h2 => hI.2.2 i h1 (by omega))))))]; rfl, hw.base⟩)
   | (trace_state; fail)
 refine ar (i := 4) rfl ah (ak rfl) av av rfl (ae (ae aq)) (by kernel_rfl) rfl ?_
 refine ar (i := 5) rfl (aV rfl rfl) (aA dO rfl) av av rfl (ae (ae aq)) (by kernel_rfl) rfl ?_
 refine ar (i := 6) rfl (aV rfl rfl) (aH 0 dY rfl rfl rfl) av av rfl (ae (ae aq)) (by kernel_rfl) rfl ?_
 refine ar (i := 7) rfl (aV rfl rfl) (ce rfl rfl) av av rfl (ae (ae aq)) (by kernel_rfl) rfl ?_
 refine co (t := 11) rfl (fun h1_7 => ?_) (fun h1_7 => ?_)
 refine ar (i := 8) rfl ah (aN rfl rfl) av av rfl (ae (ae aq)) (by kernel_rfl) rfl ?_
 refine ar (i := 9) rfl ah (ak rfl) av av rfl (ae (ae aq)) (by kernel_rfl) rfl ?_
 refine aL (i := 10) rfl (az rfl rfl rfl) av rfl (ae (ae aq)) (by kernel_rfl) rfl ?_
 refine aL (i := 11) rfl (az rfl rfl rfl) av rfl (ae (ae aq)) (by kernel_rfl) rfl ?_
 refine aL (i := 12) rfl (az rfl rfl rfl) av rfl (ae (ae aq)) (by kernel_rfl) rfl ?_
 refine aL (i := 13) rfl (az rfl rfl rfl) av rfl (ae (ae aq)) (by kernel_rfl) rfl ?_
 refine aL (i := 14) rfl (az rfl rfl rfl) av rfl (ae (ae aq)) (by kernel_rfl) rfl ?_
 refine aL (i := 15) rfl (az rfl rfl rfl) av rfl (ae (ae aq)) (by kernel_rfl) rfl ?_
 refine ar (i := 16) rfl ah (aT rfl rfl) av av rfl (ae (ae aq)) (by kernel_rfl) rfl ?_
 refine bU (by kernel_rfl) ?_
 refine aj ?_
 refine ax rfl ?_
 refine ao ?_
 refine aa ?_
 refine ap (ai rfl) rfl rfl ?_
 refine ab ?_
 refine aj ?_
 refine aB ?_
 refine aw ?_
 refine aG (ts := [2]) rfl rfl rfl (fun w hw => ?_)
 focus first
   | (exact ⟨by rw [cy, if_pos (by first | exact .inl h1_3 | exact .inr (.inl h1_7) | exact .inr (.inr (.inl h1_15)))]; rfl, hw.base⟩)
   | (exact ⟨by rw [cy, if_pos (.inr (.inr (.inr (fun e => by have := hif.1 e k hI.1 (by omega); omega))))]; rfl, hw.base⟩)
   | (exact ⟨by rw [cy, if_neg (fun q => q.elim (fun q => q hck) (fun q => q.elim h1_7 (fun q => q.elim h1_15 (fun q => q (hif.2 fun i h1 h2 => hI.2.2 i h1 (by omega))))))]; rfl, hw.base⟩)
   | (trace_state; fail)
 refine ar (i := 8) rfl ah (aN rfl rfl) av av rfl (ae (ae aq)) (by kernel_rfl) rfl ?_
 refine ar (i := 9) rfl ah (ak rfl) av av rfl (ae (ae aq)) (by kernel_rfl) rfl ?_
 refine ar (i := 10) rfl (aV rfl rfl) (aA dO rfl) av av rfl (ae (ae aq)) (by kernel_rfl) rfl ?_
 refine ar (i := 11) rfl (aV rfl rfl) (aH 0 dY rfl rfl rfl) av av rfl (ae (ae aq)) (by kernel_rfl) rfl ?_
 refine ar (i := 12) rfl (aV rfl rfl) (aA cJ rfl) av av rfl (ae (ae aq)) (by kernel_rfl) rfl ?_
 refine ar (i := 13) rfl (aV rfl rfl) (aJ 0 aQ rfl rfl rfl rfl) av av rfl (ae (ae aq)) (by kernel_rfl) rfl ?_
 refine cK (i := 14) rfl rfl rfl (bg rfl ent_161) (by kernel_rfl) rfl ?_
 refine ay rfl rfl ?_
 refine aU rfl ent_161 (c_wide5 _) rfl ?_
 refine ab ?_
 refine cW av ?_
 refine ar (i := 15) rfl (aV rfl rfl) (eA rfl rfl) av av rfl (ae (ae aq)) (by kernel_rfl) rfl ?_
 refine co (t := 19) rfl (fun h1_15 => ?_) (fun h1_15 => ?_)
 refine ar (i := 16) rfl ah (aN rfl rfl) av av rfl (ae (ae aq)) (by kernel_rfl) rfl ?_
 refine bU (by kernel_rfl) ?_
 refine aj ?_
 refine ax rfl ?_
 refine ao ?_
 refine aa ?_
 refine ap (ai rfl) rfl rfl ?_
 refine ab ?_
 refine aj ?_
 refine aB ?_
 refine aw ?_
 refine aG (ts := [2]) rfl rfl rfl (fun w hw => ?_)
 focus first
   | (exact ⟨by rw [cy, if_pos (by first | exact .inl h1_3 | exact .inr (.inl h1_7) | exact .inr (.inr (.inl h1_15)))]; rfl, hw.base⟩)
   | (exact ⟨by rw [cy, if_pos (.inr (.inr (.inr (fun e => by have := hif.1 e k hI.1 (by omega); omega))))]; rfl, hw.base⟩)
   | (exact ⟨by rw [cy, if_neg (fun q => q.elim (fun q => q hck) (fun q => q.elim h1_7 (fun q => q.elim h1_15 (fun q => q (hif.2 fun i h1 h2 => hI.2.2 i h1 (by omega))))))]; rfl, hw.base⟩)
   | (trace_state; fail)
 refine ar (i := 16) rfl ah (aN rfl rfl) av av rfl (ae (ae aq)) (by kernel_rfl) rfl ?_
 refine bU (by kernel_rfl) ?_
 refine aj ?_
 refine au rfl ?_
 refine aF ?_
 refine aj ?_
 refine ao ?_
 refine ao ?_
 have hwl := e5 r.base
 have hck : bV r.base = 0 := Decidable.not_not.1 h1_3
 obtain ⟨m, hm⟩ : ∃ m : Nat, r.bits = m := ⟨r.bits.toNat, by omega⟩
 have hif := head_iff (m := m) hck h (by omega)
 rw [← hm] at hif
 refine aa ?_
 refine ap (aA dO rfl) rfl rfl ?_
 refine ap (aH 0 dY rfl rfl rfl) rfl rfl ?_
 refine ap (ai rfl) rfl rfl ?_
 refine ab ?_
 refine aj ?_
 refine aP ?_
 refine cQ (σ := Nat) [2, 3, 23, 24, 25, 26, 27, 28, 29, 30, 31, 32, 33, 34] (fun k => m ≤ k ∧ (k : Int) ≤ bR r.base ∧ ∀ i : Nat, m ≤ i → i < k → e7 r.base i = 0) (fun k => (bR r.base).toNat - k) (fun k => [(3, .int .i64 k)]) (m) ?_ ⟨lk rfl (congrArg (Value.int .i64) hm), trivial⟩ (fun k hI => ?_)
 exact ⟨Nat.le_refl _, by omega, fun i h1 h2 => by omega⟩
 refine ao ?_
 refine ao ?_
 refine aa ?_
 refine ap (ak rfl) rfl rfl ?_
 refine ap (aA cJ rfl) rfl rfl ?_
 refine ap (aJ 0 aQ rfl rfl rfl rfl) rfl rfl ?_
 refine aU rfl ent_161 (c_wide5 _) rfl ?_
 refine ap (ce rfl rfl) rfl rfl ?_
 refine aC (t := 27) rfl (fun h4_4 => ?_) (fun h4_4 => ?_)
 refine ab ?_
 refine aj ?_
 refine ax rfl ?_
 refine aF ?_
 refine aj ?_
 refine ao ?_
 refine aP ?_
 refine ao ?_
 refine aa ?_
 refine ap (aA cJ rfl) rfl rfl ?_
 refine ap (aJ 0 aQ rfl rfl rfl rfl) rfl rfl ?_
 refine ap (ak rfl) rfl rfl ?_
 refine aU rfl ent_163 (c_bit5 r.base k h (by omega)) rfl ?_
 refine ap (b8 rfl rfl) rfl rfl ?_
 refine aC (t := 34) rfl (fun h6_4 => ?_) (fun h6_4 => ?_)
 refine ab ?_
 refine aj ?_
 refine ax rfl ?_
 refine ao ?_
 refine aa ?_
 refine ap (ai rfl) rfl rfl ?_
 refine ab ?_
 refine aj ?_
 refine aB ?_
 refine aM ?_
 refine aw ?_
 refine bk ?_
 refine aM ?_
 refine aw ?_
 refine aG (ts := [2]) rfl rfl rfl (fun w hw => ?_)
 focus first
   | (exact ⟨by rw [cy, if_pos (by first | exact .inl h1_3 | exact .inr (.inl h1_7) | exact .inr (.inr (.inl h1_15)))]; rfl, hw.base⟩)
   | (exact ⟨by rw [cy, if_pos (.inr (.inr (.inr (fun e => by have := hif.1 e k hI.1 (by omega); omega))))]; rfl, hw.base⟩)
   | (exact ⟨by rw [cy, if_neg (fun q => q.elim (fun q => q hck) (fun q => q.elim h1_7 (fun q => q.elim h1_15 (fun q => q (hif.2 fun i h1 h2 => hI.2.2 i h1 (by omega))))))]; rfl, hw.base⟩)
   | (trace_state; fail)
 refine ab ?_
 refine aj ?_
 refine au rfl ?_
 refine aF ?_
 refine bw ?_
 refine aj ?_
 refine aa ?_
 refine ap (ak rfl) rfl rfl ?_
 refine ap (bF rfl rfl (by omega) (by omega)) rfl rfl ?_
 refine ap (ai rfl) rfl rfl ?_
 refine ab ?_
 refine bH (k + 1) ?_ ?_ ⟨rfl, trivial⟩ (by repeat (first | exact trivial | refine ⟨rfl, ?_⟩)) av
 refine ⟨by omega, by omega, fun i h1 h2 => ?_⟩
 by_cases e : i = k
 · rw [e]; omega
 · exact hI.2.2 i h1 (by omega)
 omega
 refine ab ?_
 refine aj ?_
 refine au rfl ?_
 refine bP ?_
 refine bb ?_
 refine a6 ?_
 refine bc ?_
 refine aj ?_
 refine ao ?_
 refine aa ?_
 refine ap (ai rfl) rfl rfl ?_
 refine ab ?_
 refine aj ?_
 refine aB ?_
 refine aG (ts := [2]) rfl rfl rfl (fun w hw => ?_)
 focus first
   | (exact ⟨by rw [cy, if_pos (by first | exact .inl h1_3 | exact .inr (.inl h1_7) | exact .inr (.inr (.inl h1_15)))]; rfl, hw.base⟩)
   | (exact ⟨by rw [cy, if_pos (.inr (.inr (.inr (fun e => by have := hif.1 e k hI.1 (by omega); omega))))]; rfl, hw.base⟩)
   | (exact ⟨by rw [cy, if_neg (fun q => q.elim (fun q => q hck) (fun q => q.elim h1_7 (fun q => q.elim h1_15 (fun q => q (hif.2 fun i h1 h2 => hI.2.2 i h1 (by omega))))))]; rfl, hw.base⟩)
   | (trace_state; fail)

theorem pow16 {j : Nat} : 2 ^ j < 65536 ↔ j < 16 := by
  rw [show 65536 = 2 ^ 16 by decide]; exact Nat.pow_lt_pow_iff_right (by decide)
theorem c_ref05Size (r : Rg) (h : AdOk r.base) : Pure Tryz.prog 92 #[.agg (dX r).toArray] (.int .i64 (bE r)) := by
 intro w0
 refine aZ (ok0 := no) (S := []) (args := [.agg (dX r).toArray]) 24 Tryz.func92 rfl rfl rfl (by simp) (by simp) ?_
 refine ao ?_
 refine aa ?_
 refine bu rfl rfl rfl (fun b1 => ?_)
 refine ap (ai rfl) rfl rfl ?_
 refine ab ?_
 refine aj ?_
 refine ao ?_
 refine ao ?_
 refine aa ?_
 refine ap (aJ 0 cw rfl rfl rfl rfl) rfl rfl ?_
 refine aU rfl ent_160 (c_ref05Check r h) rfl ?_
 refine ap (b8 rfl rfl) rfl rfl ?_
 refine aC (t := 7) rfl (fun h1_2 => ?_) (fun h1_2 => ?_)
 refine ab ?_
 refine aj ?_
 refine ax rfl ?_
 refine ao ?_
 refine aa ?_
 refine ap (ai rfl) rfl rfl ?_
 refine ab ?_
 refine aj ?_
 refine aB ?_
 refine aw ?_
 refine aG (ts := [2]) rfl rfl rfl (fun w hw => ?_)
 focus first
   | (exact ⟨by rw [bE, if_pos h1_2]; rfl, hw.base⟩)
   | (have hE : bE r = 2 ^ j := by
        rw [bE, if_neg (fun q => q hz)]
        by_cases h9 : bR r.base - r.bits < 16
        · rw [if_pos h9]; congr 1; omega
        · rw [if_neg h9]
          obtain rfl : j = 16 := by omega
          decide
      exact ⟨by rw [hE]; rfl, hw.base⟩)
   | (trace_state; fail)
 refine ab ?_
 refine aj ?_
 refine au rfl ?_
 refine aF ?_
 refine aj ?_
 refine ao ?_
 have hz : cy r = 0 := Decidable.not_not.1 h1_2
 obtain ⟨hz1, hz2, hz3, hz4⟩ := f8 hz
 have hwl := e5 r.base
 refine aa ?_
 refine ap (ai rfl) rfl rfl ?_
 refine ab ?_
 refine aj ?_
 refine ao ?_
 refine ao ?_
 refine aa ?_
 refine ap (aA dO rfl) rfl rfl ?_
 refine ap (aH 0 dY rfl rfl rfl) rfl rfl ?_
 refine ap (ai rfl) rfl rfl ?_
 refine ab ?_
 refine aj ?_
 refine aP ?_
 refine cQ (σ := Nat) [3, 4, 10, 11, 12, 13, 14, 15, 16, 17, 18, 19, 20, 21, 22] (fun j => j ≤ 16 ∧ r.bits + j ≤ bR r.base) (fun j => 16 - j) (fun j => [(4, .int .i64 (r.bits + j)), (3, .int .i64 ((2 ^ j : Nat) : Int))]) (0) ?_ ⟨lk rfl (congrArg (Value.int .i64) (by omega)), rfl, trivial⟩ (fun j hI => ?_)
 exact ⟨by decide, by omega⟩
 have hpj := @pow16 j
 have hp9 : ((2 ^ j : Nat) : Int) ≤ 65536 := Int.ofNat_le.2 (Nat.le_trans (Nat.pow_le_pow_right (by decide) hI.1) (by decide : 2 ^ 16 ≤ 65536))
 have hp0 : (0 : Int) ≤ ((2 ^ j : Nat) : Int) := Int.natCast_nonneg _
 refine ao ?_
 refine ao ?_
 refine aa ?_
 refine ap (ak rfl) rfl rfl ?_
 refine ap (aA cJ rfl) rfl rfl ?_
 refine ap (aJ 0 aQ rfl rfl rfl rfl) rfl rfl ?_
 refine aU rfl ent_161 (c_wide5 _) rfl ?_
 refine ap (ce rfl rfl) rfl rfl ?_
 refine aC (t := 14) rfl (fun h5_4 => ?_) (fun h5_4 => ?_)
 refine ap (ak rfl) rfl rfl ?_
 refine ay rfl rfl ?_
 refine ap (ak rfl) rfl rfl ?_
 refine ay rfl rfl ?_
 refine ap (ce rfl rfl) rfl rfl ?_
 refine aC (t := 17) rfl (fun h5_7 => ?_) (fun h5_7 => ?_)
 refine ap (aT rfl rfl) rfl rfl ?_
 refine ab ?_
 refine aj ?_
 refine ax rfl ?_
 refine aF ?_
 refine aj ?_
 refine ao ?_
 refine aP ?_
 refine aa ?_
 refine ap (ak rfl) rfl rfl ?_
 refine ap (y_muli rfl rfl (by omega) (by omega)) rfl rfl ?_
 refine ap (ai rfl) rfl rfl ?_
 refine ab ?_
 refine bw ?_
 refine aj ?_
 refine aa ?_
 refine ap (ak rfl) rfl rfl ?_
 refine ap (bF rfl rfl (by omega) (by omega)) rfl rfl ?_
 refine ap (ai rfl) rfl rfl ?_
 refine ab ?_
 refine bH (j + 1) ?_ ?_ ⟨lk rfl (congrArg (Value.int .i64) (by omega)), lk rfl (congrArg (Value.int .i64) (by rw [Nat.pow_succ]; omega)), trivial⟩ (by repeat (first | exact trivial | refine ⟨rfl, ?_⟩)) av
 exact ⟨by omega, by omega⟩
 omega
 refine ap (aT rfl rfl) rfl rfl ?_
 refine ab ?_
 refine aj ?_
 refine au rfl ?_
 refine bP ?_
 refine bb ?_
 refine a6 ?_
 refine bc ?_
 refine aj ?_
 refine ao ?_
 refine aa ?_
 refine ap (ak rfl) rfl rfl ?_
 refine ap (ai rfl) rfl rfl ?_
 refine ab ?_
 refine aj ?_
 refine aB ?_
 refine aG (ts := [2]) rfl rfl rfl (fun w hw => ?_)
 focus first
   | (exact ⟨by rw [bE, if_pos h1_2]; rfl, hw.base⟩)
   | (have hE : bE r = 2 ^ j := by
        rw [bE, if_neg (fun q => q hz)]
        by_cases h9 : bR r.base - r.bits < 16
        · rw [if_pos h9]; congr 1; omega
        · rw [if_neg h9]
          obtain rfl : j = 16 := by omega
          decide
      exact ⟨by rw [hE]; rfl, hw.base⟩)
   | (trace_state; fail)
 refine ap (ak rfl) rfl rfl ?_
 refine aR rfl rfl rfl rfl ?_
 refine aR rfl rfl rfl rfl ?_
 refine ap (aN rfl rfl) rfl rfl ?_
 refine ab ?_
 refine aj ?_
 refine au rfl ?_
 refine bP ?_
 refine bb ?_
 refine a6 ?_
 refine bc ?_
 refine aj ?_
 refine ao ?_
 refine aa ?_
 refine ap (ak rfl) rfl rfl ?_
 refine ap (ai rfl) rfl rfl ?_
 refine ab ?_
 refine aj ?_
 refine aB ?_
 refine aG (ts := [2]) rfl rfl rfl (fun w hw => ?_)
 focus first
   | (exact ⟨by rw [bE, if_pos h1_2]; rfl, hw.base⟩)
   | (have hE : bE r = 2 ^ j := by
        rw [bE, if_neg (fun q => q hz)]
        by_cases h9 : bR r.base - r.bits < 16
        · rw [if_pos h9]; congr 1; omega
        · rw [if_neg h9]
          obtain rfl : j = 16 := by omega
          decide
      exact ⟨by rw [hE]; rfl, hw.base⟩)
   | (trace_state; fail)

end Go.Proofs.YtnpdgmoeoidppaaGreat

/- law 14: what is gone through -/
namespace Go.Proofs.YtnpdgmoeoidppaaGreat
open Go.RowKit Go.Shelf
set_option linter.unusedVariables false
set_option linter.unusedSimpArgs false

theorem ent_92 : Enters Tryz.prog 92 := enters_of Tryz.func92 (by kernel_rfl) rfl
theorem fa_85_1 : FA Tryz.prog 85 1 1 := fun b o w => by kernel_rfl
theorem fa_85_2 : FA Tryz.prog 85 2 2 := fun b o w => by kernel_rfl
theorem ty_85 : TyI Tryz.prog 85 true 6 72 (.agg #[.int .i64 0, .string ⟨#[]⟩, .slice none 0 0, .bool false, .int .u64 0, .int .u64 0]) := TyI.mk' (by kernel_rfl) (fun _ => by kernel_rfl)

/-- An act. -/
structure Ac where
  kind : Int
  host : aK
  hosts : List aK
  A : Option Addr
  c : Nat
  ad : Ad
def acC (a : Ac) : List Value := [.int .i64 a.kind, .string (ba a.host), .slice a.A a.hosts.length a.c, .bool a.ad.six, .int .u64 a.ad.hi, .int .u64 a.ad.lo]
theorem enc_ac : Enc acC 6 := ⟨fun _ => rfl, fun _ => rfl⟩
def ek : Ac := ⟨0, [], [], none, 0, ad0⟩
def acR (a : Ac) : List Ch := [Ch.rd a.A 1 dA a.hosts]
def c5 (l : List aK) : Bool := decide (l.length ≤ 20) && l.all fun n => decide (n.length ≤ 400)
def bv (a : Ac) : Bool := decide (a.host.length ≤ 400) && c5 a.hosts
def bf (rg : Rg) (nr : Nat) (acts : List Ac) : Bool := acts.all bv && (decide (acts.length ≤ 60) && (decide (nr ≤ 6) && decide (bE rg ≤ 128)))
theorem bY {α : Type} {f : α → Bool} {l : List α} {i : Nat} {d : α} (hi : i < l.length) (h : f (l.getD i d) = false) : l.all f = false := by
  rw [Bool.eq_false_iff]; intro e
  have := List.all_eq_true.1 e _ (cg (d := d) hi)
  rw [h] at this; cases this
theorem eG {α : Type} {f : α → Bool} {l : List α} {d : α} (h : ∀ q, q < l.length → f (l.getD q d) = true) : l.all f = true := List.all_eq_true.2 fun x hx => by
  obtain ⟨q, hq, rfl⟩ := List.mem_iff_getElem.1 hx
  have := h q hq
  rw [List.getD_eq_getElem?_getD, List.getElem?_eq_getElem hq] at this; exact this

set_option maxRecDepth 100000 in
theorem c_light14 (rg : Rg) (nr : Nat) (A : Option Addr) (c : Nat) (acts : List Ac) (F : Option Addr) (e : Nat) (hr : AdOk rg.base) (hn : nr ≤ 9223372036854775807) (hal : acts.length ≤ 9223372036854775807) : RC Tryz.prog 32 #[.agg (plC rg A nr c).toArray, .slice F acts.length e] [Ch.rd F 6 acC acts, Ch.rall (acts.flatMap acR)] (α := Unit) (fun _ => .bool (bf rg nr acts)) (fun _ => []) := by
 refine bd (args := [.agg (plC rg A nr c).toArray, .slice F acts.length e]) 64 Tryz.func32 rfl rfl rfl (fun w0 => ?_)
 refine ao ?_
 refine aa ?_
 refine bu rfl rfl rfl (fun b1 => ?_)
 refine ap (ai rfl) rfl rfl ?_
 refine ab ?_
 refine aj ?_
 refine ao ?_
 refine ao ?_
 refine aa ?_
 refine ap (ai rfl) rfl rfl ?_
 refine ab ?_
 refine aj ?_
 refine aP ?_
 refine cQ (σ := Nat) [4, 5, 6, 7, 8, 9, 10, 11, 12, 13, 14, 15, 16, 17, 18, 19, 20, 21, 22, 23, 24, 25, 26, 27, 28, 29, 30, 31, 32, 33, 34, 35, 36, 37, 38, 39, 40, 41, 42, 43, 44, 45, 46, 47, 48] (fun i => i ≤ acts.length ∧ ∀ q, q < i → bv (acts.getD q ek) = true) (fun i => acts.length - i) (fun i => [(5, .int .i64 i)]) (0) ?_ ⟨rfl, trivial⟩ (fun i hI => ?_)
 exact ⟨Nat.zero_le _, nofun⟩
 refine ao ?_
 refine ao ?_
 refine aa ?_
 refine ap (ak rfl) rfl rfl ?_
 refine ap (ak rfl) rfl rfl ?_
 refine ap (bL Tryz.underlying86 rfl) rfl rfl ?_
 refine ap (ce rfl rfl) rfl rfl ?_
 refine aC (t := 10) rfl (fun h2_3 => ?_) (fun h2_3 => ?_)
 have hi : i < acts.length := by omega
 refine ab ?_
 refine aj ?_
 refine ax rfl ?_
 refine aF ?_
 refine aj ?_
 refine ao ?_
 refine aP ?_
 refine ao ?_
 refine ao ?_
 refine aa ?_
 refine ap (ak rfl) rfl rfl ?_
 refine ap (ak rfl) rfl rfl ?_
 refine ap (cB  Tryz.underlying86 ty_85 rfl rfl (cF 0 rfl) rfl (by omega)) rfl rfl ?_
 refine ap (aA fa_85_1 rfl) rfl rfl ?_
 refine ap (y_ldm 1 enc_ac ek bQ rfl (cF 0 rfl) (by omega) rfl rfl) rfl rfl ?_
 refine ap (eY Tryz.underlying26 rfl) rfl rfl ?_
 refine ap (eA rfl rfl) rfl rfl ?_
 refine aC (t := 19) rfl (fun h4_6 => ?_) (fun h4_6 => ?_)
 refine ap (ak rfl) rfl rfl ?_
 refine aR rfl rfl rfl rfl ?_
 refine aR rfl rfl rfl rfl ?_
 refine aR rfl rfl rfl rfl ?_
 refine aR rfl rfl rfl rfl ?_
 refine aR rfl rfl rfl rfl ?_
 refine aR rfl rfl rfl rfl ?_
 refine aR rfl rfl rfl rfl ?_
 refine ap (aT rfl rfl) rfl rfl ?_
 refine ab ?_
 refine aj ?_
 refine ax rfl ?_
 refine ao ?_
 refine aa ?_
 refine ap (ai rfl) rfl rfl ?_
 refine ab ?_
 refine aj ?_
 refine aB ?_
 refine aw ?_
 refine aM ?_
 refine aw ?_
 refine bk ?_
 refine aM ?_
 refine aw ?_
 refine aG (ts := [4]) rfl rfl rfl (fun w hw => ?_)
 focus first
   | (have hE : bf rg nr acts = false := by rw [bf, bY (d := ek) hi (by rw [bv, decide_eq_false (by omega)]; rfl)]; rfl
      exact ⟨(), by rw [hE]; rfl, hw.base, (hw.weak (List.nil_sublist _) (fun s hs => hs)).toNews⟩)
   | (have hE : bf rg nr acts = false := by rw [bf, bY (d := ek) hi (by rw [bv, c5, decide_eq_false (p := (acts.getD i ek).hosts.length ≤ 20) (by omega), Bool.false_and, Bool.and_false])]; rfl
      exact ⟨(), by rw [hE]; rfl, hw.base, (hw.weak (List.nil_sublist _) (fun s hs => hs)).toNews⟩)
   | (have hE : bf rg nr acts = false := by rw [bf, bY (d := ek) hi (by rw [bv, c5, bY (d := ([] : aK)) hk (decide_eq_false (by omega)), Bool.and_false, Bool.and_false])]; rfl
      exact ⟨(), by rw [hE]; rfl, hw.base, (hw.weak (List.nil_sublist _) (fun s hs => hs)).toNews⟩)
   | (have hE : acts.all bv = true := eG (d := ek) (fun q hq => hI.2 q (by omega))
      refine ⟨(), ?_, hw.base, (hw.weak (List.nil_sublist _) (fun s hs => hs)).toNews⟩
      show Ending.returned (.bool _) = _
      congr 2
      rw [bf, hE, Bool.true_and]
      focus first
        | (rw [decide_eq_false (p := acts.length ≤ 60) (by omega)]; rfl)
        | (rw [decide_eq_true (p := acts.length ≤ 60) (by omega), decide_eq_false (p := nr ≤ 6) (by omega)]; rfl)
        | (rw [decide_eq_true (p := acts.length ≤ 60) (by omega), decide_eq_true (p := nr ≤ 6) (by omega), Bool.true_and, Bool.true_and, decide_eq_decide]; omega))
   | (trace_state; fail)
 refine ap (ak rfl) rfl rfl ?_
 refine ay rfl rfl ?_
 refine ap (ak rfl) rfl rfl ?_
 refine ay rfl rfl ?_
 refine ap (ak rfl) rfl rfl ?_
 refine ay rfl rfl ?_
 refine ap (cB  Tryz.underlying86 ty_85 rfl rfl (cF 0 rfl) rfl (by omega)) rfl rfl ?_
 refine ay rfl rfl ?_
 refine ap (aA fa_85_2 rfl) rfl rfl ?_
 refine ay rfl rfl ?_
 refine ap (y_ldm 2 enc_ac ek d7 rfl (cF 0 rfl) (by omega) rfl rfl) rfl rfl ?_
 refine ay rfl rfl ?_
 refine ap (bL Tryz.underlying59 rfl) rfl rfl ?_
 refine ay rfl rfl ?_
 refine ap (eA rfl rfl) rfl rfl ?_
 refine aC (t := 27) rfl (fun h4_14 => ?_) (fun h4_14 => ?_)
 refine ap (aN rfl rfl) rfl rfl ?_
 refine ab ?_
 refine aj ?_
 refine ax rfl ?_
 refine ao ?_
 refine aa ?_
 refine ap (ai rfl) rfl rfl ?_
 refine ab ?_
 refine aj ?_
 refine aB ?_
 refine aw ?_
 refine aM ?_
 refine aw ?_
 refine bk ?_
 refine aM ?_
 refine aw ?_
 refine aG (ts := [4]) rfl rfl rfl (fun w hw => ?_)
 focus first
   | (have hE : bf rg nr acts = false := by rw [bf, bY (d := ek) hi (by rw [bv, decide_eq_false (by omega)]; rfl)]; rfl
      exact ⟨(), by rw [hE]; rfl, hw.base, (hw.weak (List.nil_sublist _) (fun s hs => hs)).toNews⟩)
   | (have hE : bf rg nr acts = false := by rw [bf, bY (d := ek) hi (by rw [bv, c5, decide_eq_false (p := (acts.getD i ek).hosts.length ≤ 20) (by omega), Bool.false_and, Bool.and_false])]; rfl
      exact ⟨(), by rw [hE]; rfl, hw.base, (hw.weak (List.nil_sublist _) (fun s hs => hs)).toNews⟩)
   | (have hE : bf rg nr acts = false := by rw [bf, bY (d := ek) hi (by rw [bv, c5, bY (d := ([] : aK)) hk (decide_eq_false (by omega)), Bool.and_false, Bool.and_false])]; rfl
      exact ⟨(), by rw [hE]; rfl, hw.base, (hw.weak (List.nil_sublist _) (fun s hs => hs)).toNews⟩)
   | (have hE : acts.all bv = true := eG (d := ek) (fun q hq => hI.2 q (by omega))
      refine ⟨(), ?_, hw.base, (hw.weak (List.nil_sublist _) (fun s hs => hs)).toNews⟩
      show Ending.returned (.bool _) = _
      congr 2
      rw [bf, hE, Bool.true_and]
      focus first
        | (rw [decide_eq_false (p := acts.length ≤ 60) (by omega)]; rfl)
        | (rw [decide_eq_true (p := acts.length ≤ 60) (by omega), decide_eq_false (p := nr ≤ 6) (by omega)]; rfl)
        | (rw [decide_eq_true (p := acts.length ≤ 60) (by omega), decide_eq_true (p := nr ≤ 6) (by omega), Bool.true_and, Bool.true_and, decide_eq_decide]; omega))
   | (trace_state; fail)
 refine ap (aN rfl rfl) rfl rfl ?_
 refine ab ?_
 refine aj ?_
 refine au rfl ?_
 refine aF ?_
 refine aj ?_
 refine ao ?_
 have hIo := hI
 refine aa ?_
 refine ap (ai rfl) rfl rfl ?_
 refine ab ?_
 refine aj ?_
 refine aP ?_
 refine cQ (σ := Nat) [4, 6, 29, 30, 31, 32, 33, 34, 35, 36, 37, 38, 39, 40, 41, 42, 43, 44, 45, 46, 47, 48] (fun k => k ≤ (acts.getD i ek).hosts.length ∧ ∀ q, q < k → decide (((acts.getD i ek).hosts.getD q []).length ≤ 400) = true) (fun k => (acts.getD i ek).hosts.length - k) (fun k => [(6, .int .i64 k)]) (0) ?_ ⟨rfl, trivial⟩ (fun k hI => ?_)
 exact ⟨Nat.zero_le _, nofun⟩
 refine ao ?_
 refine ao ?_
 refine aa ?_
 refine ap (ak rfl) rfl rfl ?_
 refine ap (ak rfl) rfl rfl ?_
 refine ap (ak rfl) rfl rfl ?_
 refine ap (cB  Tryz.underlying86 ty_85 rfl rfl (cF 0 rfl) rfl (by omega)) rfl rfl ?_
 refine ap (aA fa_85_2 rfl) rfl rfl ?_
 refine ap (y_ldm 2 enc_ac ek d7 rfl (cF 0 rfl) (by omega) rfl rfl) rfl rfl ?_
 refine ap (bL Tryz.underlying59 rfl) rfl rfl ?_
 refine ap (ce rfl rfl) rfl rfl ?_
 refine aC (t := 36) rfl (fun h7_7 => ?_) (fun h7_7 => ?_)
 have hk : k < (acts.getD i ek).hosts.length := by omega
 refine ab ?_
 refine aj ?_
 refine ax rfl ?_
 refine aF ?_
 refine aj ?_
 refine ao ?_
 refine aP ?_
 refine ao ?_
 refine aa ?_
 refine ap (ak rfl) rfl rfl ?_
 refine ap (ak rfl) rfl rfl ?_
 refine ap (cB  Tryz.underlying86 ty_85 rfl rfl (cF 0 rfl) rfl (by omega)) rfl rfl ?_
 refine ap (aA fa_85_2 rfl) rfl rfl ?_
 refine ap (y_ldm 2 enc_ac ek d7 rfl (cF 0 rfl) (by omega) rfl rfl) rfl rfl ?_
 refine ap (ak rfl) rfl rfl ?_
 refine ap (cB  Tryz.underlying59 bQ rfl rfl (fun w hw => (rd_all (cL 1 rfl hw) ((List.mem_flatMap.2 ⟨_, cg (d := ek) hi, .head _⟩))).1) rfl (by omega)) rfl rfl ?_
 refine ap (c6 d6 ([] : aK) bQ rfl (fun w hw => (rd_all (cL 1 rfl hw) ((List.mem_flatMap.2 ⟨_, cg (d := ek) hi, .head _⟩))).1) (by omega) rfl rfl) rfl rfl ?_
 refine ap (eY Tryz.underlying26 rfl) rfl rfl ?_
 refine ap (eA rfl rfl) rfl rfl ?_
 refine aC (t := 48) rfl (fun h9_9 => ?_) (fun h9_9 => ?_)
 refine ab ?_
 refine aj ?_
 refine ax rfl ?_
 refine ao ?_
 refine aa ?_
 refine ap (ai rfl) rfl rfl ?_
 refine ab ?_
 refine aj ?_
 refine aB ?_
 refine aM ?_
 refine aw ?_
 refine bk ?_
 refine aM ?_
 refine aM ?_
 refine aw ?_
 refine bk ?_
 refine aM ?_
 refine aw ?_
 refine aG (ts := [4]) rfl rfl rfl (fun w hw => ?_)
 focus first
   | (have hE : bf rg nr acts = false := by rw [bf, bY (d := ek) hi (by rw [bv, decide_eq_false (by omega)]; rfl)]; rfl
      exact ⟨(), by rw [hE]; rfl, hw.base, (hw.weak (List.nil_sublist _) (fun s hs => hs)).toNews⟩)
   | (have hE : bf rg nr acts = false := by rw [bf, bY (d := ek) hi (by rw [bv, c5, decide_eq_false (p := (acts.getD i ek).hosts.length ≤ 20) (by omega), Bool.false_and, Bool.and_false])]; rfl
      exact ⟨(), by rw [hE]; rfl, hw.base, (hw.weak (List.nil_sublist _) (fun s hs => hs)).toNews⟩)
   | (have hE : bf rg nr acts = false := by rw [bf, bY (d := ek) hi (by rw [bv, c5, bY (d := ([] : aK)) hk (decide_eq_false (by omega)), Bool.and_false, Bool.and_false])]; rfl
      exact ⟨(), by rw [hE]; rfl, hw.base, (hw.weak (List.nil_sublist _) (fun s hs => hs)).toNews⟩)
   | (have hE : acts.all bv = true := eG (d := ek) (fun q hq => hI.2 q (by omega))
      refine ⟨(), ?_, hw.base, (hw.weak (List.nil_sublist _) (fun s hs => hs)).toNews⟩
      show Ending.returned (.bool _) = _
      congr 2
      rw [bf, hE, Bool.true_and]
      focus first
        | (rw [decide_eq_false (p := acts.length ≤ 60) (by omega)]; rfl)
        | (rw [decide_eq_true (p := acts.length ≤ 60) (by omega), decide_eq_false (p := nr ≤ 6) (by omega)]; rfl)
        | (rw [decide_eq_true (p := acts.length ≤ 60) (by omega), decide_eq_true (p := nr ≤ 6) (by omega), Bool.true_and, Bool.true_and, decide_eq_decide]; omega))
   | (trace_state; fail)
 refine ab ?_
 refine aj ?_
 refine au rfl ?_
 refine aF ?_
 refine bw ?_
 refine aj ?_
 refine aa ?_
 refine ap (ak rfl) rfl rfl ?_
 refine ap (bF rfl rfl (by omega) (by omega)) rfl rfl ?_
 refine ap (ai rfl) rfl rfl ?_
 refine ab ?_
 refine bH (k + 1) ?_ ?_ ⟨rfl, trivial⟩ (by repeat (first | exact trivial | refine ⟨rfl, ?_⟩)) av
 refine ⟨by omega, fun q hq => ?_⟩
 by_cases e9 : q = k
 · rw [e9]; exact decide_eq_true (by omega)
 · exact hI.2 q (by omega)
 omega
 refine ab ?_
 refine aj ?_
 refine au rfl ?_
 refine bP ?_
 refine bb ?_
 refine a6 ?_
 refine bc ?_
 refine bw ?_
 refine aj ?_
 refine aa ?_
 refine ap (ak rfl) rfl rfl ?_
 refine ap (bF rfl rfl (by omega) (by omega)) rfl rfl ?_
 refine ap (ai rfl) rfl rfl ?_
 refine ab ?_
 refine bH (i + 1) ?_ ?_ ⟨rfl, trivial⟩ (by repeat (first | exact trivial | refine ⟨rfl, ?_⟩)) av
 refine ⟨by omega, fun q hq => ?_⟩
 by_cases e9 : q = i
 · rw [e9, bv, decide_eq_true (by omega), c5, decide_eq_true (p := (acts.getD i ek).hosts.length ≤ 20) (by omega), eG (d := ([] : aK)) (fun q hq => hI.2 q (by omega))]; rfl
 · exact hIo.2 q (by omega)
 omega
 refine ab ?_
 refine aj ?_
 refine au rfl ?_
 refine bP ?_
 refine bb ?_
 refine a6 ?_
 refine bc ?_
 refine aj ?_
 refine ao ?_
 refine aa ?_
 refine ap (ak rfl) rfl rfl ?_
 refine ap (bL Tryz.underlying86 rfl) rfl rfl ?_
 refine ap (y_leq rfl rfl) rfl rfl ?_
 refine aC (t := 51) rfl (fun h11_2 => ?_) (fun h11_2 => ?_)
 refine ap (ak rfl) rfl rfl ?_
 refine ay rfl rfl ?_
 refine ap (aA fm rfl) rfl rfl ?_
 refine ay rfl rfl ?_
 refine ap (aH 0 ty_65 rfl rfl rfl) rfl rfl ?_
 refine ay rfl rfl ?_
 refine ap (bL Tryz.underlying65 rfl) rfl rfl ?_
 refine ay rfl rfl ?_
 refine ap (y_leq rfl rfl) rfl rfl ?_
 refine aC (t := 56) rfl (fun h11_7 => ?_) (fun h11_7 => ?_)
 refine ap (aT rfl rfl) rfl rfl ?_
 refine ap (ak rfl) rfl rfl ?_
 refine ay rfl rfl ?_
 refine ap (aA eH rfl) rfl rfl ?_
 refine ay rfl rfl ?_
 refine ap (aJ 0 cw rfl rfl rfl rfl) rfl rfl ?_
 refine ay rfl rfl ?_
 refine aU rfl ent_92 (c_ref05Size rg hr) rfl ?_
 refine ay rfl rfl ?_
 refine ap (y_leq rfl rfl) rfl rfl ?_
 refine ap (aT rfl rfl) rfl rfl ?_
 refine ap (ai rfl) rfl rfl ?_
 refine ab ?_
 refine aj ?_
 refine aB ?_
 refine aG (ts := [4]) rfl rfl rfl (fun w hw => ?_)
 focus first
   | (have hE : bf rg nr acts = false := by rw [bf, bY (d := ek) hi (by rw [bv, decide_eq_false (by omega)]; rfl)]; rfl
      exact ⟨(), by rw [hE]; rfl, hw.base, (hw.weak (List.nil_sublist _) (fun s hs => hs)).toNews⟩)
   | (have hE : bf rg nr acts = false := by rw [bf, bY (d := ek) hi (by rw [bv, c5, decide_eq_false (p := (acts.getD i ek).hosts.length ≤ 20) (by omega), Bool.false_and, Bool.and_false])]; rfl
      exact ⟨(), by rw [hE]; rfl, hw.base, (hw.weak (List.nil_sublist _) (fun s hs => hs)).toNews⟩)
   | (have hE : bf rg nr acts = false := by rw [bf, bY (d := ek) hi (by rw [bv, c5, bY (d := ([] : aK)) hk (decide_eq_false (by omega)), Bool.and_false, Bool.and_false])]; rfl
      exact ⟨(), by rw [hE]; rfl, hw.base, (hw.weak (List.nil_sublist _) (fun s hs => hs)).toNews⟩)
   | (have hE : acts.all bv = true := eG (d := ek) (fun q hq => hI.2 q (by omega))
      refine ⟨(), ?_, hw.base, (hw.weak (List.nil_sublist _) (fun s hs => hs)).toNews⟩
      show Ending.returned (.bool _) = _
      congr 2
      rw [bf, hE, Bool.true_and]
      focus first
        | (rw [decide_eq_false (p := acts.length ≤ 60) (by omega)]; rfl)
        | (rw [decide_eq_true (p := acts.length ≤ 60) (by omega), decide_eq_false (p := nr ≤ 6) (by omega)]; rfl)
        | (rw [decide_eq_true (p := acts.length ≤ 60) (by omega), decide_eq_true (p := nr ≤ 6) (by omega), Bool.true_and, Bool.true_and, decide_eq_decide]; omega))
   | (trace_state; fail)
 refine ap (aT rfl rfl) rfl rfl ?_
 refine ap (ak rfl) rfl rfl ?_
 refine aR rfl rfl rfl rfl ?_
 refine aR rfl rfl rfl rfl ?_
 refine aR rfl rfl rfl rfl ?_
 refine aR rfl rfl rfl rfl ?_
 refine ap (aN rfl rfl) rfl rfl ?_
 refine ap (ai rfl) rfl rfl ?_
 refine ab ?_
 refine aj ?_
 refine aB ?_
 refine aG (ts := [4]) rfl rfl rfl (fun w hw => ?_)
 focus first
   | (have hE : bf rg nr acts = false := by rw [bf, bY (d := ek) hi (by rw [bv, decide_eq_false (by omega)]; rfl)]; rfl
      exact ⟨(), by rw [hE]; rfl, hw.base, (hw.weak (List.nil_sublist _) (fun s hs => hs)).toNews⟩)
   | (have hE : bf rg nr acts = false := by rw [bf, bY (d := ek) hi (by rw [bv, c5, decide_eq_false (p := (acts.getD i ek).hosts.length ≤ 20) (by omega), Bool.false_and, Bool.and_false])]; rfl
      exact ⟨(), by rw [hE]; rfl, hw.base, (hw.weak (List.nil_sublist _) (fun s hs => hs)).toNews⟩)
   | (have hE : bf rg nr acts = false := by rw [bf, bY (d := ek) hi (by rw [bv, c5, bY (d := ([] : aK)) hk (decide_eq_false (by omega)), Bool.and_false, Bool.and_false])]; rfl
      exact ⟨(), by rw [hE]; rfl, hw.base, (hw.weak (List.nil_sublist _) (fun s hs => hs)).toNews⟩)
   | (have hE : acts.all bv = true := eG (d := ek) (fun q hq => hI.2 q (by omega))
      refine ⟨(), ?_, hw.base, (hw.weak (List.nil_sublist _) (fun s hs => hs)).toNews⟩
      show Ending.returned (.bool _) = _
      congr 2
      rw [bf, hE, Bool.true_and]
      focus first
        | (rw [decide_eq_false (p := acts.length ≤ 60) (by omega)]; rfl)
        | (rw [decide_eq_true (p := acts.length ≤ 60) (by omega), decide_eq_false (p := nr ≤ 6) (by omega)]; rfl)
        | (rw [decide_eq_true (p := acts.length ≤ 60) (by omega), decide_eq_true (p := nr ≤ 6) (by omega), Bool.true_and, Bool.true_and, decide_eq_decide]; omega))
   | (trace_state; fail)
 refine ap (ak rfl) rfl rfl ?_
 refine aR rfl rfl rfl rfl ?_
 refine aR rfl rfl rfl rfl ?_
 refine aR rfl rfl rfl rfl ?_
 refine aR rfl rfl rfl rfl ?_
 refine ap (aN rfl rfl) rfl rfl ?_
 refine ap (ak rfl) rfl rfl ?_
 refine aR rfl rfl rfl rfl ?_
 refine aR rfl rfl rfl rfl ?_
 refine aR rfl rfl rfl rfl ?_
 refine aR rfl rfl rfl rfl ?_
 refine ap (aN rfl rfl) rfl rfl ?_
 refine ap (ai rfl) rfl rfl ?_
 refine ab ?_
 refine aj ?_
 refine aB ?_
 refine aG (ts := [4]) rfl rfl rfl (fun w hw => ?_)
 focus first
   | (have hE : bf rg nr acts = false := by rw [bf, bY (d := ek) hi (by rw [bv, decide_eq_false (by omega)]; rfl)]; rfl
      exact ⟨(), by rw [hE]; rfl, hw.base, (hw.weak (List.nil_sublist _) (fun s hs => hs)).toNews⟩)
   | (have hE : bf rg nr acts = false := by rw [bf, bY (d := ek) hi (by rw [bv, c5, decide_eq_false (p := (acts.getD i ek).hosts.length ≤ 20) (by omega), Bool.false_and, Bool.and_false])]; rfl
      exact ⟨(), by rw [hE]; rfl, hw.base, (hw.weak (List.nil_sublist _) (fun s hs => hs)).toNews⟩)
   | (have hE : bf rg nr acts = false := by rw [bf, bY (d := ek) hi (by rw [bv, c5, bY (d := ([] : aK)) hk (decide_eq_false (by omega)), Bool.and_false, Bool.and_false])]; rfl
      exact ⟨(), by rw [hE]; rfl, hw.base, (hw.weak (List.nil_sublist _) (fun s hs => hs)).toNews⟩)
   | (have hE : acts.all bv = true := eG (d := ek) (fun q hq => hI.2 q (by omega))
      refine ⟨(), ?_, hw.base, (hw.weak (List.nil_sublist _) (fun s hs => hs)).toNews⟩
      show Ending.returned (.bool _) = _
      congr 2
      rw [bf, hE, Bool.true_and]
      focus first
        | (rw [decide_eq_false (p := acts.length ≤ 60) (by omega)]; rfl)
        | (rw [decide_eq_true (p := acts.length ≤ 60) (by omega), decide_eq_false (p := nr ≤ 6) (by omega)]; rfl)
        | (rw [decide_eq_true (p := acts.length ≤ 60) (by omega), decide_eq_true (p := nr ≤ 6) (by omega), Bool.true_and, Bool.true_and, decide_eq_decide]; omega))
   | (trace_state; fail)
end Go.Proofs.YtnpdgmoeoidppaaGreat

/- law 14: what is handed in -/
namespace Go.Proofs.YtnpdgmoeoidppaaGreat
open Go.RowKit Go.Shelf
set_option linter.unusedVariables false
set_option linter.unusedSimpArgs false

theorem dc_rg {w : World} : Dc Tryz.prog w 64 (α := Rg) (dX) (fun _ => []) (RgOk) := fun H enc base sp hd fuel cs x h => by
  obtain ⟨xs, n, rfl, _, hcl, hxl, hf⟩ := DataW.trod_struct Tryz.underlying64 h
  have hcl2 : cs.length = 4 := hcl.trans (by kernel_rfl)
  obtain ⟨x0, c0, r0, o0⟩ := dV hxl hf 0 (ft := 29) (off := 0) (k := 3) (by kernel_rfl) (by kernel_rfl) dc_ad
  obtain ⟨x1, c1, r1, o1⟩ := dV hxl hf 1 (ft := 3) (off := 3) (k := 1) (by kernel_rfl) (by kernel_rfl) (dc_int Tryz.underlying3)
  have hcs := cut0 (cutc c0 (cutc c1 (cutn hcl2) rfl) rfl)
  exact ⟨⟨x0, x1⟩, hcs, nofun, o0, o1.1, o1.2⟩

theorem dc_rgs {w : World} : Dc Tryz.prog w 65 (fun p : List Rg × Option Addr × Nat => [.slice p.2.1 p.1.length p.2.2]) (fun p => Ch.rd p.2.1 4 dX p.1 :: p.1.flatMap (fun _ => [])) (fun p => p.1.length ≤ 9223372036854775807 ∧ ∀ x ∈ p.1, RgOk x) := dc_slice Tryz.underlying65 (by kernel_rfl) (by decide) enc_rg dc_rg

theorem dc_pl {w : World} : Dc Tryz.prog w 67 (α := Rg × List Rg × Option Addr × Nat) (fun q => plC q.1 q.2.2.1 q.2.1.length q.2.2.2) (fun q => [Ch.rd q.2.2.1 4 dX q.2.1]) (fun q => RgOk q.1 ∧ q.2.1.length ≤ 9223372036854775807 ∧ ∀ x ∈ q.2.1, RgOk x) := fun H enc base sp hd fuel cs x h => by
  obtain ⟨xs, n, rfl, _, hcl, hxl, hf⟩ := DataW.trod_struct Tryz.underlying67 h
  have hcl2 : cs.length = 5 := hcl.trans (by kernel_rfl)
  obtain ⟨x0, c0, r0, o0⟩ := dV hxl hf 0 (ft := 64) (off := 0) (k := 4) (by kernel_rfl) (by kernel_rfl) dc_rg
  obtain ⟨⟨x1, A, c⟩, c1, r1, o1⟩ := dV hxl hf 1 (ft := 65) (off := 4) (k := 1) (by kernel_rfl) (by kernel_rfl) dc_rgs
  have hcs := cut0 (cutc c0 (cutc c1 (cutn hcl2) rfl) rfl)
  exact ⟨(x0, x1, A, c), hcs, aI (r1 _ List.mem_cons_self) nofun, o0, o1⟩

/-- A row of names. -/
abbrev Nr := List aK × Option Addr × Nat
def nrC (q : Nr) : List Value := [.slice q.2.1 q.1.length q.2.2]
def nr0 : Nr := ([], none, 0)
theorem enc_nr : Enc nrC 1 := ⟨fun _ => rfl, fun _ => rfl⟩
def nrR (q : Nr) : List Ch := [Ch.rd q.2.1 1 dA q.1]
theorem dc_nr {w : World} : Dc Tryz.prog w 59 nrC nrR (fun p => p.1.length ≤ 9223372036854775807 ∧ ∀ s ∈ p.1, s.length ≤ 9223372036854775807) := fun H enc base sp hd fuel cs x h => by
  obtain ⟨q, h1, h2, h3⟩ := dc_names H enc base sp hd fuel cs x h
  exact ⟨q, h1, aI (h2 _ List.mem_cons_self) nofun, h3⟩
theorem dc_nrs {w : World} : Dc Tryz.prog w 83 (fun p : List Nr × Option Addr × Nat => [.slice p.2.1 p.1.length p.2.2]) (fun p => Ch.rd p.2.1 1 nrC p.1 :: p.1.flatMap nrR) (fun p => p.1.length ≤ 9223372036854775807 ∧ ∀ q ∈ p.1, q.1.length ≤ 9223372036854775807 ∧ ∀ s ∈ q.1, s.length ≤ 9223372036854775807) := dc_slice Tryz.underlying83 (by kernel_rfl) (by decide) enc_nr dc_nr

end Go.Proofs.YtnpdgmoeoidppaaGreat
