import Derived.Test.YtnpdgmoeoidppaaGreatLlQa
import Derived.Test.YtnpdgmoeoidppaaGreatPcQa
/- addresses, entries -/
namespace Go.Proofs.YtnpdgmoeoidppaaGreat
open Go.RowKit Go.Shelf
set_option linter.unusedVariables false
set_option linter.unusedSimpArgs false

theorem ent_138 : Enters Tryz.prog 138 := enters_of Tryz.func138 (by kernel_rfl) rfl
theorem ent_144 : Enters Tryz.prog 144 := enters_of Tryz.func144 (by kernel_rfl) rfl
theorem ent_198 : Enters Tryz.prog 198 := enters_of Tryz.func198 (by kernel_rfl) rfl
theorem ent_199 : Enters Tryz.prog 199 := enters_of Tryz.func199 (by kernel_rfl) rfl
theorem ent_233 : Enters Tryz.prog 233 := enters_of Tryz.func233 (by kernel_rfl) rfl
theorem ent_234 : Enters Tryz.prog 234 := enters_of Tryz.func234 (by kernel_rfl) rfl
theorem ent_254 : Enters Tryz.prog 254 := enters_of Tryz.func254 (by kernel_rfl) rfl
theorem ent_263 : Enters Tryz.prog 263 := enters_of Tryz.func263 (by kernel_rfl) rfl
theorem ent_75 : Enters Tryz.prog 75 := enters_of Tryz.func75 (by kernel_rfl) rfl
theorem fa_29_0 : FA Tryz.prog 29 0 0 := fun b o w => by kernel_rfl
theorem fa_29_1 : FA Tryz.prog 29 1 1 := fun b o w => by kernel_rfl
theorem fa_29_2 : FA Tryz.prog 29 2 2 := fun b o w => by kernel_rfl
theorem cQ : FA Tryz.prog 34 0 0 := fun b o w => by kernel_rfl
theorem ea : FA Tryz.prog 34 1 1 := fun b o w => by kernel_rfl
theorem fV : FA Tryz.prog 34 2 2 := fun b o w => by kernel_rfl
theorem cH : FA Tryz.prog 34 3 3 := fun b o w => by kernel_rfl
theorem ep : FA Tryz.prog 34 4 4 := fun b o w => by kernel_rfl
theorem dq : FA Tryz.prog 34 5 5 := fun b o w => by kernel_rfl
theorem fa_34_6 : FA Tryz.prog 34 6 6 := fun b o w => by kernel_rfl
theorem ty_27 : TyI Tryz.prog 27 false 1 8 (.int .u64 0) := TyI.mk' (by kernel_rfl) (fun _ => by kernel_rfl)
theorem bu : TyI Tryz.prog 29 true 3 24 (.agg #[.bool false, .int .u64 0, .int .u64 0]) := TyI.mk' (by kernel_rfl) (fun _ => by kernel_rfl)
theorem dN : TyI Tryz.prog 30 false 1 24 (.slice none 0 0) := TyI.mk' (by kernel_rfl) (fun _ => by kernel_rfl)
theorem eP : TyI Tryz.prog 31 false 1 24 (.slice none 0 0) := TyI.mk' (by kernel_rfl) (fun _ => by kernel_rfl)
theorem ty_32 : TyI Tryz.prog 32 false 1 4 (.int .u32 0) := TyI.mk' (by kernel_rfl) (fun _ => by kernel_rfl)
theorem aR : TyI Tryz.prog 34 true 7 112 (.agg #[.string ⟨#[]⟩, .int .i64 0, .string ⟨#[]⟩, .slice none 0 0, .string ⟨#[]⟩, .slice none 0 0, .int .u32 0]) := TyI.mk' (by kernel_rfl) (fun _ => by kernel_rfl)
theorem jT : TyI Tryz.prog 4 false 1 1 (.bool false) := TyI.mk' (by kernel_rfl) (fun _ => by kernel_rfl)

/-- Addresses are compared field by field. -/
theorem jg (a b : Ad) : EqD Tryz.prog 2 29 (.agg (dT a).toArray) (.agg (dT b).toArray) (decide (a = b)) := by
  have h : EqD Tryz.prog 2 29 (.agg (dT a).toArray) (.agg (dT b).toArray) ((a.six == b.six) && ((a.hi == b.hi) && ((a.lo == b.lo) && true))) :=
    eqd_struct (n := 1) Tryz.underlying29 (by kernel_rfl) (eqf_cons (v := .bool a.six) (u := .bool b.six) (by kernel_rfl) (fun _ => by kernel_rfl) (fun _ => by kernel_rfl) (eqd_bool Tryz.underlying4) rfl (eqf_cons (v := .int .u64 a.hi) (u := .int .u64 b.hi) (by kernel_rfl) (fun _ => by kernel_rfl) (fun _ => by kernel_rfl) (eqd_int Tryz.underlying27) rfl (eqf_cons (v := .int .u64 a.lo) (u := .int .u64 b.lo) (by kernel_rfl) (fun _ => by kernel_rfl) (fun _ => by kernel_rfl) (eqd_int Tryz.underlying27) rfl eqf_nil)))
  have e : ((a.six == b.six) && ((a.hi == b.hi) && ((a.lo == b.lo) && true))) = decide (a = b) := by
    cases a; cases b
    rw [Bool.eq_iff_iff]
    simp
  rw [e] at h; exact h
theorem jo : KeyL Tryz.prog 29 (fun a : Ad => .agg (dT a).toArray) :=
  keyl_agg Tryz.underlying29 (fun e a w => by kernel_rfl) jg rfl (fun a => by simp [Instr.sameBits, dT])

theorem ck_six {a : Ad} (h : a.six = true) : cz a = 0 := by unfold cz; rw [if_neg (fun h2 => by rw [h] at h2; exact absurd h2.1 (by simp))]
theorem ck_bad {a : Ad} (h : a.six = false) (h2 : a.hi ≠ 0 ∨ 4294967296 ≤ a.lo) : cz a = 2 := by unfold cz; rw [if_pos ⟨h, h2⟩]
theorem ck_ok {a : Ad} (h : ¬ a.hi ≠ 0) (h2 : ¬ 4294967296 ≤ a.lo) : cz a = 0 := by unfold cz; rw [if_neg (fun h3 => by have := h3.2; omega)]

theorem fd (a : Ad) (h0 : 0 ≤ a.lo) : dQ Tryz.prog 75 #[.agg (dT a).toArray] (.int .i64 (cz a)) := by
 intro w0
 refine bH (ok0 := no) (S := []) (args := [.agg (dT a).toArray]) 17 Tryz.func75 rfl rfl rfl (by simp) (by simp) ?_
 refine ar ?_
 refine ai ?_
 refine cv rfl rfl rfl (fun b1 => ?_)
 refine au (ao rfl) rfl rfl ?_
 refine ah ?_
 refine aq ?_
 refine ar ?_
 refine ar ?_
 refine ai ?_
 refine au (aD fa_29_0 rfl) rfl rfl ?_
 refine au (aM 0 jT rfl rfl rfl) rfl rfl ?_
 refine bD (t := 4) rfl (fun h1_1 => ?_) (fun h1_1 => ?_)
 refine au (bC rfl) rfl rfl ?_
 refine au (ap rfl) rfl rfl ?_
 refine ax rfl rfl rfl rfl ?_
 refine ax rfl rfl rfl rfl ?_
 refine ax rfl rfl rfl rfl ?_
 refine ax rfl rfl rfl rfl ?_
 refine cY rfl rfl rfl ?_
 refine cY rfl rfl rfl ?_
 refine cY rfl rfl rfl ?_
 refine cY rfl rfl rfl ?_
 refine ax rfl rfl rfl rfl ?_
 refine au (aI rfl rfl) rfl rfl ?_
 refine ah ?_
 refine aq ?_
 refine aC rfl ?_
 refine aS ?_
 refine aq ?_
 refine ar ?_
 refine ai ?_
 refine au (ao rfl) rfl rfl ?_
 refine ah ?_
 refine aq ?_
 refine aQ ?_
 refine aV (ts := [2]) rfl rfl rfl (fun w hw => ?_)
 exact ⟨by rw [ck_six h1_1]; rfl, hw.base⟩
 refine au (bC rfl) rfl rfl ?_
 refine au (ap rfl) rfl rfl ?_
 refine az rfl rfl ?_
 refine au (aD fa_29_1 rfl) rfl rfl ?_
 refine az rfl rfl ?_
 refine au (aM 0 ty_27 rfl rfl rfl) rfl rfl ?_
 refine az rfl rfl ?_
 refine au (bX rfl rfl) rfl rfl ?_
 refine aB (t := 9) rfl (fun h1_6 => ?_) (fun h1_6 => ?_)
 refine az rfl rfl ?_
 refine au (ap rfl) rfl rfl ?_
 refine ax rfl rfl rfl rfl ?_
 refine ax rfl rfl rfl rfl ?_
 refine ax rfl rfl rfl rfl ?_
 refine ax rfl rfl rfl rfl ?_
 refine az rfl rfl ?_
 refine au (aG rfl rfl) rfl rfl ?_
 refine au (aG rfl rfl) rfl rfl ?_
 refine ah ?_
 refine aq ?_
 refine aA rfl ?_
 refine ar ?_
 refine ai ?_
 refine au (ao rfl) rfl rfl ?_
 refine ah ?_
 refine aq ?_
 refine aQ ?_
 refine ay ?_
 refine aV (ts := [2]) rfl rfl rfl (fun w hw => ?_)
 exact ⟨by rw [ck_bad h1_1 (.inl h1_6)]; rfl, hw.base⟩
 refine az rfl rfl ?_
 refine au (ap rfl) rfl rfl ?_
 refine az rfl rfl ?_
 refine au (aD fa_29_2 rfl) rfl rfl ?_
 refine az rfl rfl ?_
 refine au (aM 0 ty_27 rfl rfl rfl) rfl rfl ?_
 refine az rfl rfl ?_
 refine au (y_shr rfl rfl (by omega)) rfl rfl ?_
 refine az rfl rfl ?_
 refine au (bX rfl rfl) rfl rfl ?_
 refine aB (t := 14) rfl (fun h1_11 => ?_) (fun h1_11 => ?_)
 refine az rfl rfl ?_
 refine au (aI rfl rfl) rfl rfl ?_
 refine au (aG rfl rfl) rfl rfl ?_
 refine ah ?_
 refine aq ?_
 refine aA rfl ?_
 refine ar ?_
 refine ai ?_
 refine au (ao rfl) rfl rfl ?_
 refine ah ?_
 refine aq ?_
 refine aQ ?_
 refine ay ?_
 refine aV (ts := [2]) rfl rfl rfl (fun w hw => ?_)
 rw [shr32 h0] at h1_11
 exact ⟨by rw [ck_bad h1_1 (.inr h1_11)]; rfl, hw.base⟩
 refine az rfl rfl ?_
 refine au (aI rfl rfl) rfl rfl ?_
 refine au (aG rfl rfl) rfl rfl ?_
 refine ah ?_
 refine aq ?_
 refine aC rfl ?_
 refine aS ?_
 refine aq ?_
 refine ar ?_
 refine ai ?_
 refine au (ao rfl) rfl rfl ?_
 refine ah ?_
 refine aq ?_
 refine aQ ?_
 refine aV (ts := [2]) rfl rfl rfl (fun w hw => ?_)
 rw [shr32 h0] at h1_11
 exact ⟨by rw [ck_ok h1_6 h1_11]; rfl, hw.base⟩

theorem gw (a : Ad) (h0 : 0 ≤ a.lo) : dQ Tryz.prog 79 #[.agg (dT a).toArray] (.int .i64 (cz a)) := by
 intro w0
 refine bH (ok0 := no) (S := []) (args := [.agg (dT a).toArray]) 16 Tryz.func79 rfl rfl rfl (by simp) (by simp) ?_
 refine ar ?_
 refine ai ?_
 refine cv rfl rfl rfl (fun b1 => ?_)
 refine au (ao rfl) rfl rfl ?_
 refine ah ?_
 refine aq ?_
 refine ar ?_
 refine ar ?_
 refine ai ?_
 refine au (aD fa_29_0 rfl) rfl rfl ?_
 refine au (aM 0 jT rfl rfl rfl) rfl rfl ?_
 refine bD (t := 4) rfl (fun h1_1 => ?_) (fun h1_1 => ?_)
 refine au (bC rfl) rfl rfl ?_
 refine au (ap rfl) rfl rfl ?_
 refine ax rfl rfl rfl rfl ?_
 refine ax rfl rfl rfl rfl ?_
 refine ax rfl rfl rfl rfl ?_
 refine ax rfl rfl rfl rfl ?_
 refine cY rfl rfl rfl ?_
 refine cY rfl rfl rfl ?_
 refine cY rfl rfl rfl ?_
 refine ax rfl rfl rfl rfl ?_
 refine au (aI rfl rfl) rfl rfl ?_
 refine ah ?_
 refine aq ?_
 refine aC rfl ?_
 refine aS ?_
 refine aq ?_
 refine ar ?_
 refine ai ?_
 refine au (ao rfl) rfl rfl ?_
 refine ah ?_
 refine aq ?_
 refine aQ ?_
 refine aV (ts := [2]) rfl rfl rfl (fun w hw => ?_)
 exact ⟨by rw [ck_six h1_1]; rfl, hw.base⟩
 refine au (bC rfl) rfl rfl ?_
 refine au (ap rfl) rfl rfl ?_
 refine az rfl rfl ?_
 refine au (aD fa_29_1 rfl) rfl rfl ?_
 refine az rfl rfl ?_
 refine au (aM 0 ty_27 rfl rfl rfl) rfl rfl ?_
 refine az rfl rfl ?_
 refine au (bX rfl rfl) rfl rfl ?_
 refine aB (t := 9) rfl (fun h1_6 => ?_) (fun h1_6 => ?_)
 refine az rfl rfl ?_
 refine au (ap rfl) rfl rfl ?_
 refine ax rfl rfl rfl rfl ?_
 refine ax rfl rfl rfl rfl ?_
 refine ax rfl rfl rfl rfl ?_
 refine az rfl rfl ?_
 refine au (aG rfl rfl) rfl rfl ?_
 refine au (aG rfl rfl) rfl rfl ?_
 refine ah ?_
 refine aq ?_
 refine aA rfl ?_
 refine ar ?_
 refine ai ?_
 refine au (ao rfl) rfl rfl ?_
 refine ah ?_
 refine aq ?_
 refine aQ ?_
 refine ay ?_
 refine aV (ts := [2]) rfl rfl rfl (fun w hw => ?_)
 exact ⟨by rw [ck_bad h1_1 (.inl h1_6)]; rfl, hw.base⟩
 refine az rfl rfl ?_
 refine au (ap rfl) rfl rfl ?_
 refine az rfl rfl ?_
 refine au (aD fa_29_2 rfl) rfl rfl ?_
 refine az rfl rfl ?_
 refine au (aM 0 ty_27 rfl rfl rfl) rfl rfl ?_
 refine az rfl rfl ?_
 refine au (i5 rfl rfl) rfl rfl ?_
 refine aB (t := 13) rfl (fun h1_10 => ?_) (fun h1_10 => ?_)
 refine az rfl rfl ?_
 refine au (aI rfl rfl) rfl rfl ?_
 refine au (aG rfl rfl) rfl rfl ?_
 refine ah ?_
 refine aq ?_
 refine aA rfl ?_
 refine ar ?_
 refine ai ?_
 refine au (ao rfl) rfl rfl ?_
 refine ah ?_
 refine aq ?_
 refine aQ ?_
 refine ay ?_
 refine aV (ts := [2]) rfl rfl rfl (fun w hw => ?_)
 exact ⟨by rw [ck_bad h1_1 (.inr h1_10)]; rfl, hw.base⟩
 refine az rfl rfl ?_
 refine au (aI rfl rfl) rfl rfl ?_
 refine au (aG rfl rfl) rfl rfl ?_
 refine ah ?_
 refine aq ?_
 refine aC rfl ?_
 refine aS ?_
 refine aq ?_
 refine ar ?_
 refine ai ?_
 refine au (ao rfl) rfl rfl ?_
 refine ah ?_
 refine aq ?_
 refine aQ ?_
 refine aV (ts := [2]) rfl rfl rfl (fun w hw => ?_)
 exact ⟨by rw [ck_ok h1_6 h1_10]; rfl, hw.base⟩

theorem dS {l : List Int} {k : Nat} (hk : k < l.length) (h : ¬ ir l k) : cE l = false := by
  simp only [cE, Bool.and_eq_false_iff, decide_eq_false_iff_not]
  exact .inl fun h2 => h (h2 k hk)
theorem gP {l : List Int} (h : ∀ i, i < l.length → ir l i) : cE l = decide (l.length ≤ 8) := by
  rw [cE, decide_eq_true h, Bool.true_and]
theorem eH {p : Nat → Prop} {k : Nat} (h : ∀ i, i < k → p i) (hk : p k) : ∀ i, i < k + 1 → p i := fun i hi => by
  by_cases e : i = k
  · rw [e]; exact hk
  · exact h i (by omega)

theorem c_entry_ports (l : List Int) (B : Option Addr) (d : Nat) (hl : l.length ≤ 1000000000000) : RC Tryz.prog 198 #[.slice B l.length d] [Ch.rd B 1 eX l] (α := Unit) (fun _ => .bool (cE l)) (fun _ => []) := by
 refine bx (args := [.slice B l.length d]) 35 Tryz.func198 rfl rfl rfl (fun w0 => ?_)
 refine ar ?_
 refine ai ?_
 refine au (ao rfl) rfl rfl ?_
 refine ah ?_
 refine aq ?_
 refine ar ?_
 refine ar ?_
 refine ai ?_
 refine au (ap rfl) rfl rfl ?_
 refine au (bg Tryz.underlying31 rfl) rfl rfl ?_
 refine au (ap rfl) rfl rfl ?_
 refine ah ?_
 refine aq ?_
 refine aW ?_
 refine bV (σ := Nat) [2, 3, 4, 7, 8, 9, 10, 11, 12, 13, 14, 15, 16, 17, 18, 19, 20, 21, 22, 23, 24, 25, 26, 27, 28, 29, 30, 31] (fun k => k ≤ l.length ∧ ∀ i, i < k → ir l i) (fun k => l.length - k) (fun k => [(7, .int .i64 k)]) (0) ?_ ⟨rfl, trivial⟩ (fun k hI => ?_)
 exact ⟨Nat.zero_le _, nofun⟩
 refine ar ?_
 refine ai ?_
 refine au (bI rfl rfl) rfl rfl ?_
 refine aB (t := 8) rfl (fun h2_0 => ?_) (fun h2_0 => ?_)
 refine ah ?_
 refine aq ?_
 refine ar ?_
 refine aA rfl ?_
 refine aS ?_
 refine aq ?_
 refine ar ?_
 refine aW ?_
 refine ar ?_
 refine ai ?_
 refine au (ap rfl) rfl rfl ?_
 refine au (bz  Tryz.underlying31 de rfl rfl (bE 0 rfl) rfl (by omega)) rfl rfl ?_
 refine au (cf ga (0 : Int) de rfl (bE 0 rfl) (by omega) rfl rfl) rfl rfl ?_
 refine au (ao rfl) rfl rfl ?_
 refine au (ao rfl) rfl rfl ?_
 refine ah ?_
 refine aq ?_
 refine ar ?_
 refine ai ?_
 refine au (ap rfl) rfl rfl ?_
 refine au (bI rfl rfl) rfl rfl ?_
 refine aB (t := 13) rfl (fun h4_1 => ?_) (fun h4_1 => ?_)
 refine au (ap rfl) rfl rfl ?_
 refine ax rfl rfl rfl rfl ?_
 refine ax rfl rfl rfl rfl ?_
 refine au (aG rfl rfl) rfl rfl ?_
 refine au (ap rfl) rfl rfl ?_
 refine ax rfl rfl rfl rfl ?_
 refine ax rfl rfl rfl rfl ?_
 refine ax rfl rfl rfl rfl ?_
 refine cY rfl rfl rfl ?_
 refine cY rfl rfl rfl ?_
 refine cY rfl rfl rfl ?_
 refine cY rfl rfl rfl ?_
 refine cY rfl rfl rfl ?_
 refine cY rfl rfl rfl ?_
 refine cY rfl rfl rfl ?_
 refine ax rfl rfl rfl rfl ?_
 refine au (aG rfl rfl) rfl rfl ?_
 refine ah ?_
 refine aq ?_
 refine aA rfl ?_
 refine ar ?_
 refine ai ?_
 refine au (ao rfl) rfl rfl ?_
 refine ah ?_
 refine aq ?_
 refine aQ ?_
 refine aK ?_
 refine ay ?_
 refine a9 ?_
 refine aK ?_
 refine ay ?_
 refine aV (ts := [2]) rfl rfl rfl (fun w hw => ?_)
 focus first
   | exact ⟨(), by rw [dS (k := k) (by omega) (fun h => by have h1 := h.1; have h2 := h.2.1; have h3 := h.2.2; omega)]; rfl, hw.base, hw.toNews⟩
   | (have hk : k = l.length := by omega
      subst hk
      exact ⟨(), by rw [gP hI.2]; show Ending.returned (.bool _) = _; congr 2; rw [decide_eq_decide]; omega, hw.base, hw.toNews⟩)
 refine au (ap rfl) rfl rfl ?_
 refine az rfl rfl ?_
 refine au (ap rfl) rfl rfl ?_
 refine az rfl rfl ?_
 refine au (c9 rfl rfl) rfl rfl ?_
 refine aB (t := 16) rfl (fun h4_4 => ?_) (fun h4_4 => ?_)
 refine au (aI rfl rfl) rfl rfl ?_
 refine au (ap rfl) rfl rfl ?_
 refine ax rfl rfl rfl rfl ?_
 refine ax rfl rfl rfl rfl ?_
 refine ax rfl rfl rfl rfl ?_
 refine cY rfl rfl rfl ?_
 refine cY rfl rfl rfl ?_
 refine cY rfl rfl rfl ?_
 refine cY rfl rfl rfl ?_
 refine cY rfl rfl rfl ?_
 refine cY rfl rfl rfl ?_
 refine cY rfl rfl rfl ?_
 refine ax rfl rfl rfl rfl ?_
 refine au (aG rfl rfl) rfl rfl ?_
 refine ah ?_
 refine aq ?_
 refine aA rfl ?_
 refine ar ?_
 refine ai ?_
 refine au (ao rfl) rfl rfl ?_
 refine ah ?_
 refine aq ?_
 refine aQ ?_
 refine aK ?_
 refine ay ?_
 refine a9 ?_
 refine aK ?_
 refine ay ?_
 refine aV (ts := [2]) rfl rfl rfl (fun w hw => ?_)
 focus first
   | exact ⟨(), by rw [dS (k := k) (by omega) (fun h => by have h1 := h.1; have h2 := h.2.1; have h3 := h.2.2; omega)]; rfl, hw.base, hw.toNews⟩
   | (have hk : k = l.length := by omega
      subst hk
      exact ⟨(), by rw [gP hI.2]; show Ending.returned (.bool _) = _; congr 2; rw [decide_eq_decide]; omega, hw.base, hw.toNews⟩)
 refine au (aI rfl rfl) rfl rfl ?_
 refine au (ap rfl) rfl rfl ?_
 refine az rfl rfl ?_
 refine au (ap rfl) rfl rfl ?_
 refine az rfl rfl ?_
 refine au (c9 rfl rfl) rfl rfl ?_
 refine aB (t := 20) rfl (fun h4_8 => ?_) (fun h4_8 => ?_)
 refine az rfl rfl ?_
 refine au (ap rfl) rfl rfl ?_
 refine az rfl rfl ?_
 refine au (ap rfl) rfl rfl ?_
 refine az rfl rfl ?_
 refine au (ap rfl) rfl rfl ?_
 refine az rfl rfl ?_
 refine au (eg rfl rfl (by omega) (by omega)) rfl rfl ?_
 refine az rfl rfl ?_
 refine au (bz (k := k - 1) Tryz.underlying31 de rfl rfl (bE 0 rfl) (by omega) (by omega)) rfl rfl ?_
 refine az rfl rfl ?_
 refine au (cf ga (0 : Int) de rfl (bE 0 rfl) (by omega) rfl rfl) rfl rfl ?_
 refine az rfl rfl ?_
 refine au (ap rfl) rfl rfl ?_
 refine az rfl rfl ?_
 refine au (i5 rfl rfl) rfl rfl ?_
 refine aB (t := 28) rfl (fun h4_16 => ?_) (fun h4_16 => ?_)
 refine az rfl rfl ?_
 refine au (aG rfl rfl) rfl rfl ?_
 refine au (aI rfl rfl) rfl rfl ?_
 refine ah ?_
 refine aq ?_
 refine aA rfl ?_
 refine ar ?_
 refine ai ?_
 refine au (ao rfl) rfl rfl ?_
 refine ah ?_
 refine aq ?_
 refine aQ ?_
 refine aK ?_
 refine ay ?_
 refine a9 ?_
 refine aK ?_
 refine ay ?_
 refine aV (ts := [2]) rfl rfl rfl (fun w hw => ?_)
 focus first
   | exact ⟨(), by rw [dS (k := k) (by omega) (fun h => by have h1 := h.1; have h2 := h.2.1; have h3 := h.2.2; omega)]; rfl, hw.base, hw.toNews⟩
   | (have hk : k = l.length := by omega
      subst hk
      exact ⟨(), by rw [gP hI.2]; show Ending.returned (.bool _) = _; congr 2; rw [decide_eq_decide]; omega, hw.base, hw.toNews⟩)
 refine az rfl rfl ?_
 refine au (aG rfl rfl) rfl rfl ?_
 refine au (aI rfl rfl) rfl rfl ?_
 refine ah ?_
 refine aq ?_
 refine aC rfl ?_
 refine aS ?_
 refine bo ?_
 refine aq ?_
 refine ai ?_
 refine au (bl rfl rfl (by omega) (by omega)) rfl rfl ?_
 refine au (ap rfl) rfl rfl ?_
 refine ah ?_
 refine bq (k + 1) ?_ ?_ ⟨rfl, trivial⟩ (by repeat (first | exact trivial | refine ⟨rfl, ?_⟩)) aE
 exact ⟨by omega, eH hI.2 ⟨by omega, by omega, fun _ => by omega⟩⟩
 omega
 refine az rfl rfl ?_
 refine au (ap rfl) rfl rfl ?_
 refine ax rfl rfl rfl rfl ?_
 refine ax rfl rfl rfl rfl ?_
 refine ax rfl rfl rfl rfl ?_
 refine ax rfl rfl rfl rfl ?_
 refine ax rfl rfl rfl rfl ?_
 refine ax rfl rfl rfl rfl ?_
 refine ax rfl rfl rfl rfl ?_
 refine az rfl rfl ?_
 refine au (aI rfl rfl) rfl rfl ?_
 refine au (aI rfl rfl) rfl rfl ?_
 refine ah ?_
 refine aq ?_
 refine aC rfl ?_
 refine aS ?_
 refine bo ?_
 refine aq ?_
 refine ai ?_
 refine au (bl rfl rfl (by omega) (by omega)) rfl rfl ?_
 refine au (ap rfl) rfl rfl ?_
 refine ah ?_
 refine bq (k + 1) ?_ ?_ ⟨rfl, trivial⟩ (by repeat (first | exact trivial | refine ⟨rfl, ?_⟩)) aE
 exact ⟨by omega, eH hI.2 ⟨by omega, by omega, fun _ => by omega⟩⟩
 omega
 refine ah ?_
 refine aq ?_
 refine ar ?_
 refine aC rfl ?_
 refine bw ?_
 refine aY ?_
 refine aZ ?_
 refine a7 ?_
 refine aq ?_
 refine ar ?_
 refine ai ?_
 refine au (ap rfl) rfl rfl ?_
 refine au (bg Tryz.underlying31 rfl) rfl rfl ?_
 refine au (fp rfl rfl) rfl rfl ?_
 refine au (ao rfl) rfl rfl ?_
 refine ah ?_
 refine aq ?_
 refine aQ ?_
 refine aV (ts := [2]) rfl rfl rfl (fun w hw => ?_)
 focus first
   | exact ⟨(), by rw [dS (k := k) (by omega) (fun h => by have h1 := h.1; have h2 := h.2.1; have h3 := h.2.2; omega)]; rfl, hw.base, hw.toNews⟩
   | (have hk : k = l.length := by omega
      subst hk
      exact ⟨(), by rw [gP hI.2]; show Ending.returned (.bool _) = _; congr 2; rw [decide_eq_decide]; omega, hw.base, hw.toNews⟩)

theorem lkp_upd {α β : Type} [DecidableEq α] (a b : α) (v : β) : ∀ m : List (α × β), bT (upd m a v) b = if b = a then some v else bT m b
  | [] => by simp [upd, bT]
  | (c, u) :: r => by
    simp only [upd]
    by_cases h : a = c
    · subst h
      rw [if_pos rfl]
      simp only [bT]
      by_cases hb : b = a <;> simp [hb]
    · rw [if_neg h]
      simp only [bT, lkp_upd a b v r]
      by_cases hb : b = c
      · subst hb
        have : ¬ b = a := fun e => h e.symm
        simp [this]
      · simp [hb]
theorem ads_bad {l : List Ad} {k : Nat} (hk : k < l.length) (h : ¬ adOk l k) : jS l = false := by
  have : ¬ ∀ i, i < l.length → adOk l i := fun h2 => h (h2 k hk)
  rw [jS, decide_eq_false this]; rfl
theorem ads_end {l : List Ad} (h : ∀ i, i < l.length → adOk l i) : jS l = (decide (1 ≤ l.length) && decide (l.length ≤ 8)) := by
  rw [jS, decide_eq_true h, Bool.true_and]
theorem mem_take {l : List Ad} {k : Nat} (hk : k ≤ l.length) (a : Ad) : a ∈ l.take k ↔ ∃ j, j < k ∧ a = l.getD j eZ := by
  rw [List.mem_take_iff_getElem]
  constructor
  · rintro ⟨i, h, e⟩
    exact ⟨i, by omega, by rw [← e]; simp [List.getD_eq_getElem?_getD, show i < l.length by omega]⟩
  · rintro ⟨j, h, e⟩
    exact ⟨j, by omega, by rw [e]; simp [List.getD_eq_getElem?_getD, show j < l.length by omega]⟩
/-- What the map of those that were seen holds. -/
def Seen (m : List (Ad × Bool)) (l : List Ad) (k : Nat) : Prop := ∀ a, bT m a = if a ∈ l.take k then some true else none
theorem seen_zero (l : List Ad) : Seen [] l 0 := fun a => by simp [bT]
theorem seen_succ {m : List (Ad × Bool)} {l : List Ad} {k : Nat} (h : Seen m l k) (hk : k < l.length) : Seen (upd m (l.getD k eZ) true) l (k + 1) := fun a => by
  rw [lkp_upd, h a, bK l eZ k hk]
  by_cases e : a = l.getD k eZ
  · rw [if_pos e, if_pos (by simp only [List.mem_append, List.mem_singleton]; exact .inr e)]
  · rw [if_neg e]
    have h2 : (a ∈ l.take k ++ [l.getD k eZ]) ↔ a ∈ l.take k := by
      simp only [List.mem_append, List.mem_singleton]
      exact ⟨fun h => h.resolve_right e, .inl⟩
    simp only [h2]
theorem seen_val {m : List (Ad × Bool)} {l : List Ad} {k : Nat} (h : Seen m l k) (a : Ad) : ((bT m a).map fun b : Bool => Value.bool b).getD (.bool false) = .bool (decide (a ∈ l.take k)) := by
  rw [h a]; split
  · rename_i h1; rw [decide_eq_true h1]; rfl
  · rename_i h1; rw [decide_eq_false h1]; rfl
theorem jN {l : List Ad} {k : Nat} (h : k < l.length) : l.getD k eZ ∈ l := bA h

theorem c_entry_addrs (l : List Ad) (A : Option Addr) (c : Nat) (hl : l.length ≤ 1000000000000) (hw0 : ∀ a ∈ l, 0 ≤ a.lo) : RC Tryz.prog 233 #[.slice A l.length c] [Ch.rd A 3 dT l] (α := Unit) (fun _ => .bool (jS l)) (fun _ => []) := by
 refine bx (args := [.slice A l.length c]) 32 Tryz.func233 rfl rfl rfl (fun w0 => ?_)
 refine ar ?_
 refine ai ?_
 refine au (ao rfl) rfl rfl ?_
 refine ah ?_
 refine aq ?_
 refine ar ?_
 refine ai ?_
 refine eo (fun a : Ad => .agg (dT a).toArray) (fun b : Bool => .bool b) rfl (fun r0 => ?_)
 refine au (ao rfl) rfl rfl ?_
 refine ah ?_
 refine aq ?_
 refine ar ?_
 refine ar ?_
 refine ai ?_
 refine au (ap rfl) rfl rfl ?_
 refine au (bg Tryz.underlying30 rfl) rfl rfl ?_
 refine au (ap rfl) rfl rfl ?_
 refine ah ?_
 refine aq ?_
 refine aW ?_
 refine cP (σ := Nat × List (Ad × Bool)) [2, 5, 9, 10, 11, 12, 13, 14, 15, 16, 17, 18, 19, 20, 21, 22, 23] (fun q => q.1 ≤ l.length ∧ (∀ i, i < q.1 → adOk l i) ∧ Seen q.2 l q.1) (fun q => l.length - q.1) (fun q => [(9, .int .i64 q.1)]) (fun q => Ch.mp r0 (fun a : Ad => .agg (dT a).toArray) (fun b : Bool => .bool b) q.2) ((0, [])) ?_ ⟨rfl, trivial⟩ rfl (fun q hI => ?_)
 exact ⟨Nat.zero_le _, nofun, seen_zero l⟩
 obtain ⟨k, m⟩ := q
 obtain ⟨hk, hall, hseen⟩ := hI
 dsimp only at hk hall hseen ⊢
 refine ar ?_
 refine ai ?_
 refine au (bI rfl rfl) rfl rfl ?_
 refine aB (t := 10) rfl (fun h3_0 => ?_) (fun h3_0 => ?_)
 refine ah ?_
 refine aq ?_
 refine ar ?_
 refine aA rfl ?_
 refine aS ?_
 refine aq ?_
 refine ar ?_
 refine aW ?_
 refine ar ?_
 refine ai ?_
 refine au (bz  Tryz.underlying30 bu rfl rfl (bE 0 rfl) rfl (by omega)) rfl rfl ?_
 refine au (bW dI eZ bu rfl (bE 0 rfl) (by omega) rfl rfl rfl) rfl rfl ?_
 refine bj bu rfl rfl (fun b2 => ?_)
 refine a0 bu rfl rfl rfl .z rfl rfl rfl rfl ?_
 refine ah ?_
 refine aq ?_
 refine ar ?_
 refine ar ?_
 refine ai ?_
 refine au (ap rfl) rfl rfl ?_
 refine au (a6 0 bu rfl rfl rfl rfl) rfl rfl ?_
 refine au (y_lookup Tryz.underlying286 jo jT rfl rfl (fun w hw => hw.own _ (List.mem_of_getElem? (i := 1) rfl))) rfl rfl ?_
 refine cU (t := 15) (.bool (decide (l.getD k eZ ∈ l.take k))) rfl (seen_val hseen _) ?_
 refine bD (t := 15) rfl (fun h5_2 => ?_) (fun h5_2 => ?_)
 refine au (ap rfl) rfl rfl ?_
 refine ax rfl rfl rfl rfl ?_
 refine ax rfl rfl rfl rfl ?_
 refine ax rfl rfl rfl rfl ?_
 refine au (aG rfl rfl) rfl rfl ?_
 refine ah ?_
 refine aq ?_
 refine aA rfl ?_
 refine ar ?_
 refine ai ?_
 refine au (ao rfl) rfl rfl ?_
 refine ah ?_
 refine aq ?_
 refine aQ ?_
 refine ay ?_
 refine aK ?_
 refine ay ?_
 refine a9 ?_
 refine aK ?_
 refine ay ?_
 refine aV (ts := [2]) rfl rfl rfl (fun w hw => ?_)
 have hb : jS l = false := ads_bad (k := k) (by omega) (fun h => by obtain ⟨j, hj, e⟩ := (mem_take hk _).1 (of_decide_eq_true h5_2); exact h.2 j hj e)
 exact ⟨(), by rw [hb]; rfl, hw.base, (hw.weak (List.nil_sublist _) (fun s hs => hs)).toNews⟩
 refine au (ap rfl) rfl rfl ?_
 refine az rfl rfl ?_
 refine au (a6 0 bu rfl rfl rfl rfl) rfl rfl ?_
 refine az rfl rfl ?_
 refine bb rfl ent_75 (fd _ (hw0 _ (jN (by omega)))) rfl ?_
 refine az rfl rfl ?_
 refine au (bX rfl rfl) rfl rfl ?_
 refine aB (t := 19) rfl (fun h5_6 => ?_) (fun h5_6 => ?_)
 refine au (aI rfl rfl) rfl rfl ?_
 refine ah ?_
 refine aq ?_
 refine aA rfl ?_
 refine ar ?_
 refine ai ?_
 refine au (ao rfl) rfl rfl ?_
 refine ah ?_
 refine aq ?_
 refine aQ ?_
 refine ay ?_
 refine aK ?_
 refine ay ?_
 refine a9 ?_
 refine aK ?_
 refine ay ?_
 refine aV (ts := [2]) rfl rfl rfl (fun w hw => ?_)
 have hb : jS l = false := ads_bad (k := k) (by omega) (fun h => h5_6 h.1)
 exact ⟨(), by rw [hb]; rfl, hw.base, (hw.weak (List.nil_sublist _) (fun s hs => hs)).toNews⟩
 refine au (aI rfl rfl) rfl rfl ?_
 refine ah ?_
 refine aq ?_
 refine aC rfl ?_
 refine aS ?_
 refine aq ?_
 refine ai ?_
 refine au (ap rfl) rfl rfl ?_
 refine au (a6 0 bu rfl rfl rfl rfl) rfl rfl ?_
 refine gU Tryz.underlying286 jo rfl rfl rfl (.s (.z)) ?_
 refine ah ?_
 refine bo ?_
 refine aq ?_
 refine ai ?_
 refine au (bl rfl rfl (by omega) (by omega)) rfl rfl ?_
 refine au (ap rfl) rfl rfl ?_
 refine ah ?_
 refine bq ((k + 1, upd m (l.getD k eZ) true)) ?_ ?_ ⟨rfl, trivial⟩ (by repeat (first | exact trivial | refine ⟨rfl, ?_⟩)) (fun w h => h.weak (.cons _ (List.Sublist.refl _)) (fun s hs => hs))
 exact ⟨by show k + 1 ≤ _; omega, eH hall ⟨by omega, fun j hj e => of_decide_eq_false h5_2 ((mem_take (by omega) _).2 ⟨j, hj, e⟩)⟩, seen_succ hseen (by omega)⟩
 show l.length - (k + 1) < l.length - k
 omega
 refine ah ?_
 refine aq ?_
 refine ar ?_
 refine aC rfl ?_
 refine bw ?_
 refine aY ?_
 refine aZ ?_
 refine a7 ?_
 refine aq ?_
 refine ar ?_
 refine ai ?_
 refine au (ap rfl) rfl rfl ?_
 refine au (bg Tryz.underlying30 rfl) rfl rfl ?_
 refine au (i5 rfl rfl) rfl rfl ?_
 refine aB (t := 26) rfl (fun h9_2 => ?_) (fun h9_2 => ?_)
 refine au (ap rfl) rfl rfl ?_
 refine az rfl rfl ?_
 refine au (ap rfl) rfl rfl ?_
 refine az rfl rfl ?_
 refine au (bg Tryz.underlying30 rfl) rfl rfl ?_
 refine az rfl rfl ?_
 refine au (fp rfl rfl) rfl rfl ?_
 refine au (aG rfl rfl) rfl rfl ?_
 refine au (ao rfl) rfl rfl ?_
 refine ah ?_
 refine aq ?_
 refine aQ ?_
 refine aV (ts := [2]) rfl rfl rfl (fun w hw => ?_)
 obtain rfl : k = l.length := by omega
 exact ⟨(), by rw [ads_end hall, decide_eq_true (by omega : 1 ≤ l.length)]; show Ending.returned (.bool _) = _; congr 2; rw [Bool.true_and, decide_eq_decide]; omega, hw.base, (hw.weak (List.nil_sublist _) (fun s hs => hs)).toNews⟩
 refine au (ap rfl) rfl rfl ?_
 refine ax rfl rfl rfl rfl ?_
 refine ax rfl rfl rfl rfl ?_
 refine ax rfl rfl rfl rfl ?_
 refine au (aI rfl rfl) rfl rfl ?_
 refine au (ao rfl) rfl rfl ?_
 refine ah ?_
 refine aq ?_
 refine aQ ?_
 refine aV (ts := [2]) rfl rfl rfl (fun w hw => ?_)
 obtain rfl : k = l.length := by omega
 exact ⟨(), by rw [ads_end hall, decide_eq_false (by omega : ¬ 1 ≤ l.length)]; rfl, hw.base, (hw.weak (List.nil_sublist _) (fun s hs => hs)).toNews⟩

theorem c_slHasPrefix (s t : bf) : dQ Tryz.prog 263 #[.string (ba s), .string (ba t)] (.bool (decide (t <+: s))) := by
 intro w0
 refine bH (ok0 := no) (S := []) (args := [.string (ba s), .string (ba t)]) 18 Tryz.func263 rfl rfl rfl (by simp) (by simp) ?_
 refine ar ?_
 refine ai ?_
 refine au (ao rfl) rfl rfl ?_
 refine ah ?_
 refine aq ?_
 refine ar ?_
 refine ai ?_
 refine au (ap rfl) rfl rfl ?_
 refine au (cL Tryz.underlying9 rfl) rfl rfl ?_
 refine au (ap rfl) rfl rfl ?_
 refine au (cL Tryz.underlying9 rfl) rfl rfl ?_
 refine au (i5 rfl rfl) rfl rfl ?_
 refine aB (t := 9) rfl (fun h1_4 => ?_) (fun h1_4 => ?_)
 refine au (ap rfl) rfl rfl ?_
 refine az rfl rfl ?_
 refine au (ap rfl) rfl rfl ?_
 refine az rfl rfl ?_
 refine au (ap rfl) rfl rfl ?_
 refine az rfl rfl ?_
 refine au (cL Tryz.underlying9 rfl) rfl rfl ?_
 refine az rfl rfl ?_
 refine au (y_slices_hi (n := t.length) Tryz.underlying9 rfl rfl (by omega) (by omega)) rfl rfl ?_
 refine az rfl rfl ?_
 refine au (ap rfl) rfl rfl ?_
 refine az rfl rfl ?_
 refine au (d8 rfl rfl) rfl rfl ?_
 refine au (aG rfl rfl) rfl rfl ?_
 refine au (ao rfl) rfl rfl ?_
 refine ah ?_
 refine aq ?_
 refine aQ ?_
 refine aV (ts := [4]) rfl rfl rfl (fun w hw => ?_)
 refine ⟨?_, hw.base⟩
 show Ending.returned (.bool _) = _
 congr 2
 focus first
   | (rw [decide_eq_decide, List.prefix_iff_eq_take]; exact eq_comm)
   | (rw [decide_eq_false_iff_not]; intro h; have := h.length_le; omega)
   | (symm; rw [decide_eq_false_iff_not]; intro h; have := h.length_le; omega)
 refine au (ap rfl) rfl rfl ?_
 refine ax rfl rfl rfl rfl ?_
 refine ax rfl rfl rfl rfl ?_
 refine ax rfl rfl rfl rfl ?_
 refine ax rfl rfl rfl rfl ?_
 refine ax rfl rfl rfl rfl ?_
 refine ax rfl rfl rfl rfl ?_
 refine au (aI rfl rfl) rfl rfl ?_
 refine au (ao rfl) rfl rfl ?_
 refine ah ?_
 refine aq ?_
 refine aQ ?_
 refine aV (ts := [4]) rfl rfl rfl (fun w hw => ?_)
 refine ⟨?_, hw.base⟩
 show Ending.returned (.bool _) = _
 congr 2
 focus first
   | (rw [decide_eq_decide, List.prefix_iff_eq_take]; exact eq_comm)
   | (rw [decide_eq_false_iff_not]; intro h; have := h.length_le; omega)
   | (symm; rw [decide_eq_false_iff_not]; intro h; have := h.length_le; omega)

theorem c_HasPrefix (s t : bf) : dQ Tryz.prog 254 #[.string (ba s), .string (ba t)] (.bool (decide (t <+: s))) := by
 intro w0
 refine bH (ok0 := no) (S := []) (args := [.string (ba s), .string (ba t)]) 8 Tryz.func254 rfl rfl rfl (by simp) (by simp) ?_
 refine ar ?_
 refine ai ?_
 refine au (ao rfl) rfl rfl ?_
 refine ah ?_
 refine aq ?_
 refine ar ?_
 refine ai ?_
 refine au (ap rfl) rfl rfl ?_
 refine au (ap rfl) rfl rfl ?_
 refine bb rfl ent_263 (c_slHasPrefix _ _) rfl ?_
 refine au (ao rfl) rfl rfl ?_
 refine ah ?_
 refine aq ?_
 refine aQ ?_
 refine aV (ts := [4]) rfl rfl rfl (fun w hw => ?_)
 exact ⟨rfl, hw.base⟩

theorem c_name_Wild (n : bf) : dQ Tryz.prog 234 #[.string (ba n)] (.bool (fN n)) := by
 intro w0
 refine bH (ok0 := no) (S := []) (args := [.string (ba n)]) 10 Tryz.func234 rfl rfl rfl (by simp) (by simp) ?_
 refine ar ?_
 refine ai ?_
 refine au (ao rfl) rfl rfl ?_
 refine ah ?_
 refine aq ?_
 refine ar ?_
 refine ai ?_
 refine au (ap rfl) rfl rfl ?_
 refine bb rfl fK (cX _) rfl ?_
 refine au (dk rfl rfl) rfl rfl ?_
 refine aB (t := 5) rfl (fun h1_2 => ?_) (fun h1_2 => ?_)
 refine au (ap rfl) rfl rfl ?_
 refine az rfl rfl ?_
 refine au (ap rfl) rfl rfl ?_
 refine az rfl rfl ?_
 refine bb rfl ent_254 (c_HasPrefix _ [1, 42]) rfl ?_
 refine au (aG rfl rfl) rfl rfl ?_
 refine au (ao rfl) rfl rfl ?_
 refine ah ?_
 refine aq ?_
 refine aQ ?_
 refine aV (ts := [2]) rfl rfl rfl (fun w hw => ?_)
 refine ⟨?_, hw.base⟩
 show Ending.returned (.bool _) = _
 congr 2
 focus first
   | (rw [fN, decide_eq_true (by omega : a8 n = 0), Bool.true_and])
   | (rw [fN, decide_eq_false (by omega : ¬ a8 n = 0)]; rfl)
 refine au (ap rfl) rfl rfl ?_
 refine ax rfl rfl rfl rfl ?_
 refine ax rfl rfl rfl rfl ?_
 refine au (aI rfl rfl) rfl rfl ?_
 refine au (ao rfl) rfl rfl ?_
 refine ah ?_
 refine aq ?_
 refine aQ ?_
 refine aV (ts := [2]) rfl rfl rfl (fun w hw => ?_)
 refine ⟨?_, hw.base⟩
 show Ending.returned (.bool _) = _
 congr 2
 focus first
   | (rw [fN, decide_eq_true (by omega : a8 n = 0), Bool.true_and])
   | (rw [fN, decide_eq_false (by omega : ¬ a8 n = 0)]; rfl)

theorem c_entry_may (e : En) (A B : Option Addr) (c d : Nat) (hwa : ∀ a ∈ e.addrs, 0 ≤ a.lo) (hla : e.addrs.length ≤ 1000000000000) (hlp : e.ports.length ≤ 1000000000000) (hk : -9223372036854775808 ≤ e.kind ∧ e.kind ≤ 9223372036854775807) : RC Tryz.prog 199 #[.agg (enC e A B c d).toArray] [Ch.rd A 3 dT e.addrs, Ch.rd B 1 eX e.ports] (α := Unit) (fun _ => .bool (aT e)) (fun _ => []) := by
 refine bx (args := [.agg (enC e A B c d).toArray]) 63 Tryz.func199 rfl rfl rfl (fun w0 => ?_)
 refine ar ?_
 refine ai ?_
 refine cv rfl rfl rfl (fun b1 => ?_)
 refine au (ao rfl) rfl rfl ?_
 refine ah ?_
 refine aq ?_
 refine ar ?_
 refine ar ?_
 refine ai ?_
 refine au (aD ea rfl) rfl rfl ?_
 refine au (aM 0 de rfl rfl rfl) rfl rfl ?_
 refine ah ?_
 refine aq ?_
 refine aW ?_
 refine ar ?_
 refine aW ?_
 refine ar ?_
 refine aW ?_
 refine ar ?_
 refine aW ?_
 refine ar ?_
 refine ar ?_
 refine ar ?_
 refine ai ?_
 refine au (dk rfl rfl) rfl rfl ?_
 refine aB (t := 6) rfl (fun h2_0 => ?_) (fun h2_0 => ?_)
 refine au (ao rfl) rfl rfl ?_
 refine ah ?_
 refine aq ?_
 refine aA rfl ?_
 refine bw ?_
 refine aY ?_
 refine aY ?_
 refine a7 ?_
 refine aq ?_
 refine ar ?_
 refine ar ?_
 refine ai ?_
 refine au (aD cH rfl) rfl rfl ?_
 refine au (aM 0 dN rfl rfl rfl) rfl rfl ?_
 refine bp rfl ent_233 rfl (c_entry_addrs _ _ _ (by omega) hwa) (fun w hw => (aO (bJ 0 rfl hw) bd)) ?_
 refine bD (t := 13) rfl (fun h5_2 => ?_) (fun h5_2 => ?_)
 refine au (bC rfl) rfl rfl ?_
 refine ah ?_
 refine aq ?_
 refine aC rfl ?_
 refine aS ?_
 refine aq ?_
 refine ai ?_
 refine au (aD cH rfl) rfl rfl ?_
 refine a0 dN rfl rfl rfl .z rfl rfl rfl rfl ?_
 refine ah ?_
 refine bo ?_
 refine aq ?_
 refine ar ?_
 refine ar ?_
 refine ai ?_
 refine au (aD cH rfl) rfl rfl ?_
 refine au (aM 0 dN rfl rfl rfl) rfl rfl ?_
 refine au (bg Tryz.underlying30 rfl) rfl rfl ?_
 refine au (dk rfl rfl) rfl rfl ?_
 refine aB (t := 19) rfl (fun h8_3 => ?_) (fun h8_3 => ?_)
 refine au (ap rfl) rfl rfl ?_
 refine az rfl rfl ?_
 refine au (aD ep rfl) rfl rfl ?_
 refine az rfl rfl ?_
 refine au (aM 0 bN rfl rfl rfl) rfl rfl ?_
 refine az rfl rfl ?_
 refine au (d8 rfl rfl) rfl rfl ?_
 refine aB (t := 23) rfl (fun h8_7 => ?_) (fun h8_7 => ?_)
 refine au (aG rfl rfl) rfl rfl ?_
 refine au (ap rfl) rfl rfl ?_
 refine az rfl rfl ?_
 refine au (aD fV rfl) rfl rfl ?_
 refine az rfl rfl ?_
 refine au (aM 0 cB rfl rfl rfl) rfl rfl ?_
 refine az rfl rfl ?_
 refine bb rfl ent_205 (gB _) rfl ?_
 refine az rfl rfl ?_
 refine au (dk rfl rfl) rfl rfl ?_
 refine au (aG rfl rfl) rfl rfl ?_
 refine au (ao rfl) rfl rfl ?_
 refine ah ?_
 refine aq ?_
 refine aQ ?_
 refine ay ?_
 refine aK ?_
 refine ay ?_
 refine aK ?_
 refine ay ?_
 refine aV (ts := [2]) rfl rfl rfl (fun w hw => ?_)
 refine ⟨(), ?_, hw.base, (hw.weak (List.nil_sublist _) (fun s hs => hs)).toNews⟩
 show Ending.returned (.bool _) = _
 congr 2
 focus first
   | (exfalso; omega)
   | (simp [aT, *]
      done)
   | (have q0 : e.addrs = [] := List.length_eq_zero_iff.1 (by omega)
      simp [aT, *]
      done)
   | (have q0 : ¬ e.addrs = [] := by
        intro h; have h9 := congrArg List.length h; rw [List.length_nil] at h9; omega
      simp [aT, *]
      done)
   | (have q0 : e.ports = [] := List.length_eq_zero_iff.1 (by omega)
      simp [aT, *]
      done)
   | (have q0 : ¬ e.ports = [] := by
        intro h; have h9 := congrArg List.length h; rw [List.length_nil] at h9; omega
      simp [aT, *]
      done)
   | (have q0 : e.addrs = [] := List.length_eq_zero_iff.1 (by omega)
      have q1 : e.ports = [] := List.length_eq_zero_iff.1 (by omega)
      simp [aT, *]
      done)
   | (have q0 : e.addrs = [] := List.length_eq_zero_iff.1 (by omega)
      have q1 : ¬ e.ports = [] := by
        intro h; have h9 := congrArg List.length h; rw [List.length_nil] at h9; omega
      simp [aT, *]
      done)
   | (have q0 : ¬ e.addrs = [] := by
        intro h; have h9 := congrArg List.length h; rw [List.length_nil] at h9; omega
      have q1 : e.ports = [] := List.length_eq_zero_iff.1 (by omega)
      simp [aT, *]
      done)
   | (have q0 : ¬ e.addrs = [] := by
        intro h; have h9 := congrArg List.length h; rw [List.length_nil] at h9; omega
      have q1 : ¬ e.ports = [] := by
        intro h; have h9 := congrArg List.length h; rw [List.length_nil] at h9; omega
      simp [aT, *]
      done)
   | (trace_state; fail)
 refine au (aG rfl rfl) rfl rfl ?_
 refine au (ap rfl) rfl rfl ?_
 refine ax rfl rfl rfl rfl ?_
 refine ax rfl rfl rfl rfl ?_
 refine ax rfl rfl rfl rfl ?_
 refine ax rfl rfl rfl rfl ?_
 refine au (aI rfl rfl) rfl rfl ?_
 refine au (ao rfl) rfl rfl ?_
 refine ah ?_
 refine aq ?_
 refine aQ ?_
 refine ay ?_
 refine aK ?_
 refine ay ?_
 refine aK ?_
 refine ay ?_
 refine aV (ts := [2]) rfl rfl rfl (fun w hw => ?_)
 refine ⟨(), ?_, hw.base, (hw.weak (List.nil_sublist _) (fun s hs => hs)).toNews⟩
 show Ending.returned (.bool _) = _
 congr 2
 focus first
   | (exfalso; omega)
   | (simp [aT, *]
      done)
   | (have q0 : e.addrs = [] := List.length_eq_zero_iff.1 (by omega)
      simp [aT, *]
      done)
   | (have q0 : ¬ e.addrs = [] := by
        intro h; have h9 := congrArg List.length h; rw [List.length_nil] at h9; omega
      simp [aT, *]
      done)
   | (have q0 : e.ports = [] := List.length_eq_zero_iff.1 (by omega)
      simp [aT, *]
      done)
   | (have q0 : ¬ e.ports = [] := by
        intro h; have h9 := congrArg List.length h; rw [List.length_nil] at h9; omega
      simp [aT, *]
      done)
   | (have q0 : e.addrs = [] := List.length_eq_zero_iff.1 (by omega)
      have q1 : e.ports = [] := List.length_eq_zero_iff.1 (by omega)
      simp [aT, *]
      done)
   | (have q0 : e.addrs = [] := List.length_eq_zero_iff.1 (by omega)
      have q1 : ¬ e.ports = [] := by
        intro h; have h9 := congrArg List.length h; rw [List.length_nil] at h9; omega
      simp [aT, *]
      done)
   | (have q0 : ¬ e.addrs = [] := by
        intro h; have h9 := congrArg List.length h; rw [List.length_nil] at h9; omega
      have q1 : e.ports = [] := List.length_eq_zero_iff.1 (by omega)
      simp [aT, *]
      done)
   | (have q0 : ¬ e.addrs = [] := by
        intro h; have h9 := congrArg List.length h; rw [List.length_nil] at h9; omega
      have q1 : ¬ e.ports = [] := by
        intro h; have h9 := congrArg List.length h; rw [List.length_nil] at h9; omega
      simp [aT, *]
      done)
   | (trace_state; fail)
 refine au (ap rfl) rfl rfl ?_
 refine ax rfl rfl rfl rfl ?_
 refine ax rfl rfl rfl rfl ?_
 refine ax rfl rfl rfl rfl ?_
 refine au (aI rfl rfl) rfl rfl ?_
 refine au (ap rfl) rfl rfl ?_
 refine ax rfl rfl rfl rfl ?_
 refine ax rfl rfl rfl rfl ?_
 refine ax rfl rfl rfl rfl ?_
 refine ax rfl rfl rfl rfl ?_
 refine au (aI rfl rfl) rfl rfl ?_
 refine au (ao rfl) rfl rfl ?_
 refine ah ?_
 refine aq ?_
 refine aQ ?_
 refine ay ?_
 refine aK ?_
 refine ay ?_
 refine aK ?_
 refine ay ?_
 refine aV (ts := [2]) rfl rfl rfl (fun w hw => ?_)
 refine ⟨(), ?_, hw.base, (hw.weak (List.nil_sublist _) (fun s hs => hs)).toNews⟩
 show Ending.returned (.bool _) = _
 congr 2
 focus first
   | (exfalso; omega)
   | (simp [aT, *]
      done)
   | (have q0 : e.addrs = [] := List.length_eq_zero_iff.1 (by omega)
      simp [aT, *]
      done)
   | (have q0 : ¬ e.addrs = [] := by
        intro h; have h9 := congrArg List.length h; rw [List.length_nil] at h9; omega
      simp [aT, *]
      done)
   | (have q0 : e.ports = [] := List.length_eq_zero_iff.1 (by omega)
      simp [aT, *]
      done)
   | (have q0 : ¬ e.ports = [] := by
        intro h; have h9 := congrArg List.length h; rw [List.length_nil] at h9; omega
      simp [aT, *]
      done)
   | (have q0 : e.addrs = [] := List.length_eq_zero_iff.1 (by omega)
      have q1 : e.ports = [] := List.length_eq_zero_iff.1 (by omega)
      simp [aT, *]
      done)
   | (have q0 : e.addrs = [] := List.length_eq_zero_iff.1 (by omega)
      have q1 : ¬ e.ports = [] := by
        intro h; have h9 := congrArg List.length h; rw [List.length_nil] at h9; omega
      simp [aT, *]
      done)
   | (have q0 : ¬ e.addrs = [] := by
        intro h; have h9 := congrArg List.length h; rw [List.length_nil] at h9; omega
      have q1 : e.ports = [] := List.length_eq_zero_iff.1 (by omega)
      simp [aT, *]
      done)
   | (have q0 : ¬ e.addrs = [] := by
        intro h; have h9 := congrArg List.length h; rw [List.length_nil] at h9; omega
      have q1 : ¬ e.ports = [] := by
        intro h; have h9 := congrArg List.length h; rw [List.length_nil] at h9; omega
      simp [aT, *]
      done)
   | (trace_state; fail)
 refine au (bC rfl) rfl rfl ?_
 refine ah ?_
 refine aq ?_
 refine aA rfl ?_
 refine ar ?_
 refine ai ?_
 refine au (ao rfl) rfl rfl ?_
 refine ah ?_
 refine aq ?_
 refine aQ ?_
 refine ay ?_
 refine aK ?_
 refine ay ?_
 refine aK ?_
 refine ay ?_
 refine aK ?_
 refine ay ?_
 refine aV (ts := [2]) rfl rfl rfl (fun w hw => ?_)
 refine ⟨(), ?_, hw.base, (hw.weak (List.nil_sublist _) (fun s hs => hs)).toNews⟩
 show Ending.returned (.bool _) = _
 congr 2
 focus first
   | (exfalso; omega)
   | (simp [aT, *]
      done)
   | (have q0 : e.addrs = [] := List.length_eq_zero_iff.1 (by omega)
      simp [aT, *]
      done)
   | (have q0 : ¬ e.addrs = [] := by
        intro h; have h9 := congrArg List.length h; rw [List.length_nil] at h9; omega
      simp [aT, *]
      done)
   | (have q0 : e.ports = [] := List.length_eq_zero_iff.1 (by omega)
      simp [aT, *]
      done)
   | (have q0 : ¬ e.ports = [] := by
        intro h; have h9 := congrArg List.length h; rw [List.length_nil] at h9; omega
      simp [aT, *]
      done)
   | (have q0 : e.addrs = [] := List.length_eq_zero_iff.1 (by omega)
      have q1 : e.ports = [] := List.length_eq_zero_iff.1 (by omega)
      simp [aT, *]
      done)
   | (have q0 : e.addrs = [] := List.length_eq_zero_iff.1 (by omega)
      have q1 : ¬ e.ports = [] := by
        intro h; have h9 := congrArg List.length h; rw [List.length_nil] at h9; omega
      simp [aT, *]
      done)
   | (have q0 : ¬ e.addrs = [] := by
        intro h; have h9 := congrArg List.length h; rw [List.length_nil] at h9; omega
      have q1 : e.ports = [] := List.length_eq_zero_iff.1 (by omega)
      simp [aT, *]
      done)
   | (have q0 : ¬ e.addrs = [] := by
        intro h; have h9 := congrArg List.length h; rw [List.length_nil] at h9; omega
      have q1 : ¬ e.ports = [] := by
        intro h; have h9 := congrArg List.length h; rw [List.length_nil] at h9; omega
      simp [aT, *]
      done)
   | (trace_state; fail)
 refine au (ao rfl) rfl rfl ?_
 refine ah ?_
 refine aq ?_
 refine aC rfl ?_
 refine aS ?_
 refine aq ?_
 refine ar ?_
 refine ar ?_
 refine ai ?_
 refine au (dk rfl rfl) rfl rfl ?_
 refine aB (t := 8) rfl (fun h3_0 => ?_) (fun h3_0 => ?_)
 refine au (ao rfl) rfl rfl ?_
 refine ah ?_
 refine aq ?_
 refine aA rfl ?_
 refine bw ?_
 refine aY ?_
 refine aY ?_
 refine eT rfl ?_
 refine aY ?_
 refine a7 ?_
 refine aq ?_
 refine ar ?_
 refine ar ?_
 refine ai ?_
 refine au (aD cH rfl) rfl rfl ?_
 refine au (aM 0 dN rfl rfl rfl) rfl rfl ?_
 refine au (bg Tryz.underlying30 rfl) rfl rfl ?_
 refine au (dk rfl rfl) rfl rfl ?_
 refine aB (t := 19) rfl (fun h8_3 => ?_) (fun h8_3 => ?_)
 refine au (ap rfl) rfl rfl ?_
 refine az rfl rfl ?_
 refine au (aD ep rfl) rfl rfl ?_
 refine az rfl rfl ?_
 refine au (aM 0 bN rfl rfl rfl) rfl rfl ?_
 refine az rfl rfl ?_
 refine au (d8 rfl rfl) rfl rfl ?_
 refine aB (t := 23) rfl (fun h8_7 => ?_) (fun h8_7 => ?_)
 refine au (aG rfl rfl) rfl rfl ?_
 refine au (ap rfl) rfl rfl ?_
 refine az rfl rfl ?_
 refine au (aD fV rfl) rfl rfl ?_
 refine az rfl rfl ?_
 refine au (aM 0 cB rfl rfl rfl) rfl rfl ?_
 refine az rfl rfl ?_
 refine bb rfl ent_205 (gB _) rfl ?_
 refine az rfl rfl ?_
 refine au (dk rfl rfl) rfl rfl ?_
 refine au (aG rfl rfl) rfl rfl ?_
 refine au (ao rfl) rfl rfl ?_
 refine ah ?_
 refine aq ?_
 refine aQ ?_
 refine ay ?_
 refine aK ?_
 refine ay ?_
 refine aK ?_
 refine ay ?_
 refine aV (ts := [2]) rfl rfl rfl (fun w hw => ?_)
 refine ⟨(), ?_, hw.base, (hw.weak (List.nil_sublist _) (fun s hs => hs)).toNews⟩
 show Ending.returned (.bool _) = _
 congr 2
 focus first
   | (exfalso; omega)
   | (simp [aT, *]
      done)
   | (have q0 : e.addrs = [] := List.length_eq_zero_iff.1 (by omega)
      simp [aT, *]
      done)
   | (have q0 : ¬ e.addrs = [] := by
        intro h; have h9 := congrArg List.length h; rw [List.length_nil] at h9; omega
      simp [aT, *]
      done)
   | (have q0 : e.ports = [] := List.length_eq_zero_iff.1 (by omega)
      simp [aT, *]
      done)
   | (have q0 : ¬ e.ports = [] := by
        intro h; have h9 := congrArg List.length h; rw [List.length_nil] at h9; omega
      simp [aT, *]
      done)
   | (have q0 : e.addrs = [] := List.length_eq_zero_iff.1 (by omega)
      have q1 : e.ports = [] := List.length_eq_zero_iff.1 (by omega)
      simp [aT, *]
      done)
   | (have q0 : e.addrs = [] := List.length_eq_zero_iff.1 (by omega)
      have q1 : ¬ e.ports = [] := by
        intro h; have h9 := congrArg List.length h; rw [List.length_nil] at h9; omega
      simp [aT, *]
      done)
   | (have q0 : ¬ e.addrs = [] := by
        intro h; have h9 := congrArg List.length h; rw [List.length_nil] at h9; omega
      have q1 : e.ports = [] := List.length_eq_zero_iff.1 (by omega)
      simp [aT, *]
      done)
   | (have q0 : ¬ e.addrs = [] := by
        intro h; have h9 := congrArg List.length h; rw [List.length_nil] at h9; omega
      have q1 : ¬ e.ports = [] := by
        intro h; have h9 := congrArg List.length h; rw [List.length_nil] at h9; omega
      simp [aT, *]
      done)
   | (trace_state; fail)
 refine au (aG rfl rfl) rfl rfl ?_
 refine au (ap rfl) rfl rfl ?_
 refine ax rfl rfl rfl rfl ?_
 refine ax rfl rfl rfl rfl ?_
 refine ax rfl rfl rfl rfl ?_
 refine ax rfl rfl rfl rfl ?_
 refine au (aI rfl rfl) rfl rfl ?_
 refine au (ao rfl) rfl rfl ?_
 refine ah ?_
 refine aq ?_
 refine aQ ?_
 refine ay ?_
 refine aK ?_
 refine ay ?_
 refine aK ?_
 refine ay ?_
 refine aV (ts := [2]) rfl rfl rfl (fun w hw => ?_)
 refine ⟨(), ?_, hw.base, (hw.weak (List.nil_sublist _) (fun s hs => hs)).toNews⟩
 show Ending.returned (.bool _) = _
 congr 2
 focus first
   | (exfalso; omega)
   | (simp [aT, *]
      done)
   | (have q0 : e.addrs = [] := List.length_eq_zero_iff.1 (by omega)
      simp [aT, *]
      done)
   | (have q0 : ¬ e.addrs = [] := by
        intro h; have h9 := congrArg List.length h; rw [List.length_nil] at h9; omega
      simp [aT, *]
      done)
   | (have q0 : e.ports = [] := List.length_eq_zero_iff.1 (by omega)
      simp [aT, *]
      done)
   | (have q0 : ¬ e.ports = [] := by
        intro h; have h9 := congrArg List.length h; rw [List.length_nil] at h9; omega
      simp [aT, *]
      done)
   | (have q0 : e.addrs = [] := List.length_eq_zero_iff.1 (by omega)
      have q1 : e.ports = [] := List.length_eq_zero_iff.1 (by omega)
      simp [aT, *]
      done)
   | (have q0 : e.addrs = [] := List.length_eq_zero_iff.1 (by omega)
      have q1 : ¬ e.ports = [] := by
        intro h; have h9 := congrArg List.length h; rw [List.length_nil] at h9; omega
      simp [aT, *]
      done)
   | (have q0 : ¬ e.addrs = [] := by
        intro h; have h9 := congrArg List.length h; rw [List.length_nil] at h9; omega
      have q1 : e.ports = [] := List.length_eq_zero_iff.1 (by omega)
      simp [aT, *]
      done)
   | (have q0 : ¬ e.addrs = [] := by
        intro h; have h9 := congrArg List.length h; rw [List.length_nil] at h9; omega
      have q1 : ¬ e.ports = [] := by
        intro h; have h9 := congrArg List.length h; rw [List.length_nil] at h9; omega
      simp [aT, *]
      done)
   | (trace_state; fail)
 refine au (ap rfl) rfl rfl ?_
 refine ax rfl rfl rfl rfl ?_
 refine ax rfl rfl rfl rfl ?_
 refine ax rfl rfl rfl rfl ?_
 refine au (aI rfl rfl) rfl rfl ?_
 refine au (ap rfl) rfl rfl ?_
 refine ax rfl rfl rfl rfl ?_
 refine ax rfl rfl rfl rfl ?_
 refine ax rfl rfl rfl rfl ?_
 refine ax rfl rfl rfl rfl ?_
 refine au (aI rfl rfl) rfl rfl ?_
 refine au (ao rfl) rfl rfl ?_
 refine ah ?_
 refine aq ?_
 refine aQ ?_
 refine ay ?_
 refine aK ?_
 refine ay ?_
 refine aK ?_
 refine ay ?_
 refine aV (ts := [2]) rfl rfl rfl (fun w hw => ?_)
 refine ⟨(), ?_, hw.base, (hw.weak (List.nil_sublist _) (fun s hs => hs)).toNews⟩
 show Ending.returned (.bool _) = _
 congr 2
 focus first
   | (exfalso; omega)
   | (simp [aT, *]
      done)
   | (have q0 : e.addrs = [] := List.length_eq_zero_iff.1 (by omega)
      simp [aT, *]
      done)
   | (have q0 : ¬ e.addrs = [] := by
        intro h; have h9 := congrArg List.length h; rw [List.length_nil] at h9; omega
      simp [aT, *]
      done)
   | (have q0 : e.ports = [] := List.length_eq_zero_iff.1 (by omega)
      simp [aT, *]
      done)
   | (have q0 : ¬ e.ports = [] := by
        intro h; have h9 := congrArg List.length h; rw [List.length_nil] at h9; omega
      simp [aT, *]
      done)
   | (have q0 : e.addrs = [] := List.length_eq_zero_iff.1 (by omega)
      have q1 : e.ports = [] := List.length_eq_zero_iff.1 (by omega)
      simp [aT, *]
      done)
   | (have q0 : e.addrs = [] := List.length_eq_zero_iff.1 (by omega)
      have q1 : ¬ e.ports = [] := by
        intro h; have h9 := congrArg List.length h; rw [List.length_nil] at h9; omega
      simp [aT, *]
      done)
   | (have q0 : ¬ e.addrs = [] := by
        intro h; have h9 := congrArg List.length h; rw [List.length_nil] at h9; omega
      have q1 : e.ports = [] := List.length_eq_zero_iff.1 (by omega)
      simp [aT, *]
      done)
   | (have q0 : ¬ e.addrs = [] := by
        intro h; have h9 := congrArg List.length h; rw [List.length_nil] at h9; omega
      have q1 : ¬ e.ports = [] := by
        intro h; have h9 := congrArg List.length h; rw [List.length_nil] at h9; omega
      simp [aT, *]
      done)
   | (trace_state; fail)
 refine au (ao rfl) rfl rfl ?_
 refine ah ?_
 refine aq ?_
 refine aC rfl ?_
 refine aS ?_
 refine aq ?_
 refine ar ?_
 refine ai ?_
 refine au (dk rfl rfl) rfl rfl ?_
 refine aB (t := 10) rfl (fun h4_0 => ?_) (fun h4_0 => ?_)
 refine au (ao rfl) rfl rfl ?_
 refine ah ?_
 refine aq ?_
 refine aA rfl ?_
 refine bw ?_
 refine aY ?_
 refine eT rfl ?_
 refine aY ?_
 refine eT rfl ?_
 refine aY ?_
 refine a7 ?_
 refine aq ?_
 refine ar ?_
 refine ar ?_
 refine ai ?_
 refine au (aD cH rfl) rfl rfl ?_
 refine au (aM 0 dN rfl rfl rfl) rfl rfl ?_
 refine au (bg Tryz.underlying30 rfl) rfl rfl ?_
 refine au (dk rfl rfl) rfl rfl ?_
 refine aB (t := 34) rfl (fun h9_3 => ?_) (fun h9_3 => ?_)
 refine au (ap rfl) rfl rfl ?_
 refine az rfl rfl ?_
 refine au (aD dq rfl) rfl rfl ?_
 refine az rfl rfl ?_
 refine au (aM 0 eP rfl rfl rfl) rfl rfl ?_
 refine az rfl rfl ?_
 refine au (bg Tryz.underlying31 rfl) rfl rfl ?_
 refine az rfl rfl ?_
 refine au (dk rfl rfl) rfl rfl ?_
 refine aB (t := 39) rfl (fun h9_8 => ?_) (fun h9_8 => ?_)
 refine au (aG rfl rfl) rfl rfl ?_
 refine au (ap rfl) rfl rfl ?_
 refine az rfl rfl ?_
 refine au (aD fV rfl) rfl rfl ?_
 refine az rfl rfl ?_
 refine au (aM 0 cB rfl rfl rfl) rfl rfl ?_
 refine az rfl rfl ?_
 refine au (d8 rfl rfl) rfl rfl ?_
 refine aB (t := 44) rfl (fun h9_13 => ?_) (fun h9_13 => ?_)
 refine au (aG rfl rfl) rfl rfl ?_
 refine au (ap rfl) rfl rfl ?_
 refine az rfl rfl ?_
 refine au (aD ep rfl) rfl rfl ?_
 refine az rfl rfl ?_
 refine au (aM 0 bN rfl rfl rfl) rfl rfl ?_
 refine az rfl rfl ?_
 refine au (jb rfl rfl) rfl rfl ?_
 refine aB (t := 49) rfl (fun h9_18 => ?_) (fun h9_18 => ?_)
 refine au (aG rfl rfl) rfl rfl ?_
 refine au (ap rfl) rfl rfl ?_
 refine az rfl rfl ?_
 refine au (aD ep rfl) rfl rfl ?_
 refine az rfl rfl ?_
 refine au (aM 0 bN rfl rfl rfl) rfl rfl ?_
 refine az rfl rfl ?_
 refine bb rfl fK (cX _) rfl ?_
 refine az rfl rfl ?_
 refine au (dk rfl rfl) rfl rfl ?_
 refine aB (t := 55) rfl (fun h9_24 => ?_) (fun h9_24 => ?_)
 refine au (aG rfl rfl) rfl rfl ?_
 refine au (ap rfl) rfl rfl ?_
 refine az rfl rfl ?_
 refine au (aD ep rfl) rfl rfl ?_
 refine az rfl rfl ?_
 refine au (aM 0 bN rfl rfl rfl) rfl rfl ?_
 refine az rfl rfl ?_
 refine bb rfl ent_234 (c_name_Wild _) rfl ?_
 refine az rfl rfl ?_
 refine au (bC rfl) rfl rfl ?_
 refine au (aG rfl rfl) rfl rfl ?_
 refine au (ao rfl) rfl rfl ?_
 refine ah ?_
 refine aq ?_
 refine aQ ?_
 refine ay ?_
 refine aK ?_
 refine ay ?_
 refine aV (ts := [2]) rfl rfl rfl (fun w hw => ?_)
 refine ⟨(), ?_, hw.base, (hw.weak (List.nil_sublist _) (fun s hs => hs)).toNews⟩
 show Ending.returned (.bool _) = _
 congr 2
 focus first
   | (exfalso; omega)
   | (simp [aT, *]
      done)
   | (have q0 : e.addrs = [] := List.length_eq_zero_iff.1 (by omega)
      simp [aT, *]
      done)
   | (have q0 : ¬ e.addrs = [] := by
        intro h; have h9 := congrArg List.length h; rw [List.length_nil] at h9; omega
      simp [aT, *]
      done)
   | (have q0 : e.ports = [] := List.length_eq_zero_iff.1 (by omega)
      simp [aT, *]
      done)
   | (have q0 : ¬ e.ports = [] := by
        intro h; have h9 := congrArg List.length h; rw [List.length_nil] at h9; omega
      simp [aT, *]
      done)
   | (have q0 : e.addrs = [] := List.length_eq_zero_iff.1 (by omega)
      have q1 : e.ports = [] := List.length_eq_zero_iff.1 (by omega)
      simp [aT, *]
      done)
   | (have q0 : e.addrs = [] := List.length_eq_zero_iff.1 (by omega)
      have q1 : ¬ e.ports = [] := by
        intro h; have h9 := congrArg List.length h; rw [List.length_nil] at h9; omega
      simp [aT, *]
      done)
   | (have q0 : ¬ e.addrs = [] := by
        intro h; have h9 := congrArg List.length h; rw [List.length_nil] at h9; omega
      have q1 : e.ports = [] := List.length_eq_zero_iff.1 (by omega)
      simp [aT, *]
      done)
   | (have q0 : ¬ e.addrs = [] := by
        intro h; have h9 := congrArg List.length h; rw [List.length_nil] at h9; omega
      have q1 : ¬ e.ports = [] := by
        intro h; have h9 := congrArg List.length h; rw [List.length_nil] at h9; omega
      simp [aT, *]
      done)
   | (trace_state; fail)
 refine au (aG rfl rfl) rfl rfl ?_
 refine au (ap rfl) rfl rfl ?_
 refine ax rfl rfl rfl rfl ?_
 refine ax rfl rfl rfl rfl ?_
 refine ax rfl rfl rfl rfl ?_
 refine ax rfl rfl rfl rfl ?_
 refine au (aI rfl rfl) rfl rfl ?_
 refine au (ao rfl) rfl rfl ?_
 refine ah ?_
 refine aq ?_
 refine aQ ?_
 refine ay ?_
 refine aK ?_
 refine ay ?_
 refine aV (ts := [2]) rfl rfl rfl (fun w hw => ?_)
 refine ⟨(), ?_, hw.base, (hw.weak (List.nil_sublist _) (fun s hs => hs)).toNews⟩
 show Ending.returned (.bool _) = _
 congr 2
 focus first
   | (exfalso; omega)
   | (simp [aT, *]
      done)
   | (have q0 : e.addrs = [] := List.length_eq_zero_iff.1 (by omega)
      simp [aT, *]
      done)
   | (have q0 : ¬ e.addrs = [] := by
        intro h; have h9 := congrArg List.length h; rw [List.length_nil] at h9; omega
      simp [aT, *]
      done)
   | (have q0 : e.ports = [] := List.length_eq_zero_iff.1 (by omega)
      simp [aT, *]
      done)
   | (have q0 : ¬ e.ports = [] := by
        intro h; have h9 := congrArg List.length h; rw [List.length_nil] at h9; omega
      simp [aT, *]
      done)
   | (have q0 : e.addrs = [] := List.length_eq_zero_iff.1 (by omega)
      have q1 : e.ports = [] := List.length_eq_zero_iff.1 (by omega)
      simp [aT, *]
      done)
   | (have q0 : e.addrs = [] := List.length_eq_zero_iff.1 (by omega)
      have q1 : ¬ e.ports = [] := by
        intro h; have h9 := congrArg List.length h; rw [List.length_nil] at h9; omega
      simp [aT, *]
      done)
   | (have q0 : ¬ e.addrs = [] := by
        intro h; have h9 := congrArg List.length h; rw [List.length_nil] at h9; omega
      have q1 : e.ports = [] := List.length_eq_zero_iff.1 (by omega)
      simp [aT, *]
      done)
   | (have q0 : ¬ e.addrs = [] := by
        intro h; have h9 := congrArg List.length h; rw [List.length_nil] at h9; omega
      have q1 : ¬ e.ports = [] := by
        intro h; have h9 := congrArg List.length h; rw [List.length_nil] at h9; omega
      simp [aT, *]
      done)
   | (trace_state; fail)
 refine au (aG rfl rfl) rfl rfl ?_
 refine au (ap rfl) rfl rfl ?_
 refine ax rfl rfl rfl rfl ?_
 refine ax rfl rfl rfl rfl ?_
 refine ax rfl rfl rfl rfl ?_
 refine ax rfl rfl rfl rfl ?_
 refine au (aI rfl rfl) rfl rfl ?_
 refine au (ap rfl) rfl rfl ?_
 refine ax rfl rfl rfl rfl ?_
 refine ax rfl rfl rfl rfl ?_
 refine ax rfl rfl rfl rfl ?_
 refine ax rfl rfl rfl rfl ?_
 refine au (aI rfl rfl) rfl rfl ?_
 refine au (ao rfl) rfl rfl ?_
 refine ah ?_
 refine aq ?_
 refine aQ ?_
 refine ay ?_
 refine aK ?_
 refine ay ?_
 refine aV (ts := [2]) rfl rfl rfl (fun w hw => ?_)
 refine ⟨(), ?_, hw.base, (hw.weak (List.nil_sublist _) (fun s hs => hs)).toNews⟩
 show Ending.returned (.bool _) = _
 congr 2
 focus first
   | (exfalso; omega)
   | (simp [aT, *]
      done)
   | (have q0 : e.addrs = [] := List.length_eq_zero_iff.1 (by omega)
      simp [aT, *]
      done)
   | (have q0 : ¬ e.addrs = [] := by
        intro h; have h9 := congrArg List.length h; rw [List.length_nil] at h9; omega
      simp [aT, *]
      done)
   | (have q0 : e.ports = [] := List.length_eq_zero_iff.1 (by omega)
      simp [aT, *]
      done)
   | (have q0 : ¬ e.ports = [] := by
        intro h; have h9 := congrArg List.length h; rw [List.length_nil] at h9; omega
      simp [aT, *]
      done)
   | (have q0 : e.addrs = [] := List.length_eq_zero_iff.1 (by omega)
      have q1 : e.ports = [] := List.length_eq_zero_iff.1 (by omega)
      simp [aT, *]
      done)
   | (have q0 : e.addrs = [] := List.length_eq_zero_iff.1 (by omega)
      have q1 : ¬ e.ports = [] := by
        intro h; have h9 := congrArg List.length h; rw [List.length_nil] at h9; omega
      simp [aT, *]
      done)
   | (have q0 : ¬ e.addrs = [] := by
        intro h; have h9 := congrArg List.length h; rw [List.length_nil] at h9; omega
      have q1 : e.ports = [] := List.length_eq_zero_iff.1 (by omega)
      simp [aT, *]
      done)
   | (have q0 : ¬ e.addrs = [] := by
        intro h; have h9 := congrArg List.length h; rw [List.length_nil] at h9; omega
      have q1 : ¬ e.ports = [] := by
        intro h; have h9 := congrArg List.length h; rw [List.length_nil] at h9; omega
      simp [aT, *]
      done)
   | (trace_state; fail)
 refine au (aG rfl rfl) rfl rfl ?_
 refine au (ap rfl) rfl rfl ?_
 refine ax rfl rfl rfl rfl ?_
 refine ax rfl rfl rfl rfl ?_
 refine ax rfl rfl rfl rfl ?_
 refine au (aI rfl rfl) rfl rfl ?_
 refine au (ap rfl) rfl rfl ?_
 refine ax rfl rfl rfl rfl ?_
 refine ax rfl rfl rfl rfl ?_
 refine ax rfl rfl rfl rfl ?_
 refine ax rfl rfl rfl rfl ?_
 refine au (aI rfl rfl) rfl rfl ?_
 refine au (ap rfl) rfl rfl ?_
 refine ax rfl rfl rfl rfl ?_
 refine ax rfl rfl rfl rfl ?_
 refine ax rfl rfl rfl rfl ?_
 refine ax rfl rfl rfl rfl ?_
 refine au (aI rfl rfl) rfl rfl ?_
 refine au (ao rfl) rfl rfl ?_
 refine ah ?_
 refine aq ?_
 refine aQ ?_
 refine ay ?_
 refine aK ?_
 refine ay ?_
 refine aV (ts := [2]) rfl rfl rfl (fun w hw => ?_)
 refine ⟨(), ?_, hw.base, (hw.weak (List.nil_sublist _) (fun s hs => hs)).toNews⟩
 show Ending.returned (.bool _) = _
 congr 2
 focus first
   | (exfalso; omega)
   | (simp [aT, *]
      done)
   | (have q0 : e.addrs = [] := List.length_eq_zero_iff.1 (by omega)
      simp [aT, *]
      done)
   | (have q0 : ¬ e.addrs = [] := by
        intro h; have h9 := congrArg List.length h; rw [List.length_nil] at h9; omega
      simp [aT, *]
      done)
   | (have q0 : e.ports = [] := List.length_eq_zero_iff.1 (by omega)
      simp [aT, *]
      done)
   | (have q0 : ¬ e.ports = [] := by
        intro h; have h9 := congrArg List.length h; rw [List.length_nil] at h9; omega
      simp [aT, *]
      done)
   | (have q0 : e.addrs = [] := List.length_eq_zero_iff.1 (by omega)
      have q1 : e.ports = [] := List.length_eq_zero_iff.1 (by omega)
      simp [aT, *]
      done)
   | (have q0 : e.addrs = [] := List.length_eq_zero_iff.1 (by omega)
      have q1 : ¬ e.ports = [] := by
        intro h; have h9 := congrArg List.length h; rw [List.length_nil] at h9; omega
      simp [aT, *]
      done)
   | (have q0 : ¬ e.addrs = [] := by
        intro h; have h9 := congrArg List.length h; rw [List.length_nil] at h9; omega
      have q1 : e.ports = [] := List.length_eq_zero_iff.1 (by omega)
      simp [aT, *]
      done)
   | (have q0 : ¬ e.addrs = [] := by
        intro h; have h9 := congrArg List.length h; rw [List.length_nil] at h9; omega
      have q1 : ¬ e.ports = [] := by
        intro h; have h9 := congrArg List.length h; rw [List.length_nil] at h9; omega
      simp [aT, *]
      done)
   | (trace_state; fail)
 refine au (aG rfl rfl) rfl rfl ?_
 refine au (ap rfl) rfl rfl ?_
 refine ax rfl rfl rfl rfl ?_
 refine ax rfl rfl rfl rfl ?_
 refine ax rfl rfl rfl rfl ?_
 refine au (aI rfl rfl) rfl rfl ?_
 refine au (ap rfl) rfl rfl ?_
 refine ax rfl rfl rfl rfl ?_
 refine ax rfl rfl rfl rfl ?_
 refine ax rfl rfl rfl rfl ?_
 refine au (aI rfl rfl) rfl rfl ?_
 refine au (ap rfl) rfl rfl ?_
 refine ax rfl rfl rfl rfl ?_
 refine ax rfl rfl rfl rfl ?_
 refine ax rfl rfl rfl rfl ?_
 refine ax rfl rfl rfl rfl ?_
 refine au (aI rfl rfl) rfl rfl ?_
 refine au (ap rfl) rfl rfl ?_
 refine ax rfl rfl rfl rfl ?_
 refine ax rfl rfl rfl rfl ?_
 refine ax rfl rfl rfl rfl ?_
 refine ax rfl rfl rfl rfl ?_
 refine au (aI rfl rfl) rfl rfl ?_
 refine au (ao rfl) rfl rfl ?_
 refine ah ?_
 refine aq ?_
 refine aQ ?_
 refine ay ?_
 refine aK ?_
 refine ay ?_
 refine aV (ts := [2]) rfl rfl rfl (fun w hw => ?_)
 refine ⟨(), ?_, hw.base, (hw.weak (List.nil_sublist _) (fun s hs => hs)).toNews⟩
 show Ending.returned (.bool _) = _
 congr 2
 focus first
   | (exfalso; omega)
   | (simp [aT, *]
      done)
   | (have q0 : e.addrs = [] := List.length_eq_zero_iff.1 (by omega)
      simp [aT, *]
      done)
   | (have q0 : ¬ e.addrs = [] := by
        intro h; have h9 := congrArg List.length h; rw [List.length_nil] at h9; omega
      simp [aT, *]
      done)
   | (have q0 : e.ports = [] := List.length_eq_zero_iff.1 (by omega)
      simp [aT, *]
      done)
   | (have q0 : ¬ e.ports = [] := by
        intro h; have h9 := congrArg List.length h; rw [List.length_nil] at h9; omega
      simp [aT, *]
      done)
   | (have q0 : e.addrs = [] := List.length_eq_zero_iff.1 (by omega)
      have q1 : e.ports = [] := List.length_eq_zero_iff.1 (by omega)
      simp [aT, *]
      done)
   | (have q0 : e.addrs = [] := List.length_eq_zero_iff.1 (by omega)
      have q1 : ¬ e.ports = [] := by
        intro h; have h9 := congrArg List.length h; rw [List.length_nil] at h9; omega
      simp [aT, *]
      done)
   | (have q0 : ¬ e.addrs = [] := by
        intro h; have h9 := congrArg List.length h; rw [List.length_nil] at h9; omega
      have q1 : e.ports = [] := List.length_eq_zero_iff.1 (by omega)
      simp [aT, *]
      done)
   | (have q0 : ¬ e.addrs = [] := by
        intro h; have h9 := congrArg List.length h; rw [List.length_nil] at h9; omega
      have q1 : ¬ e.ports = [] := by
        intro h; have h9 := congrArg List.length h; rw [List.length_nil] at h9; omega
      simp [aT, *]
      done)
   | (trace_state; fail)
 refine au (ap rfl) rfl rfl ?_
 refine ax rfl rfl rfl rfl ?_
 refine ax rfl rfl rfl rfl ?_
 refine ax rfl rfl rfl rfl ?_
 refine ax rfl rfl rfl rfl ?_
 refine au (aI rfl rfl) rfl rfl ?_
 refine au (ap rfl) rfl rfl ?_
 refine ax rfl rfl rfl rfl ?_
 refine ax rfl rfl rfl rfl ?_
 refine ax rfl rfl rfl rfl ?_
 refine au (aI rfl rfl) rfl rfl ?_
 refine au (ap rfl) rfl rfl ?_
 refine ax rfl rfl rfl rfl ?_
 refine ax rfl rfl rfl rfl ?_
 refine ax rfl rfl rfl rfl ?_
 refine au (aI rfl rfl) rfl rfl ?_
 refine au (ap rfl) rfl rfl ?_
 refine ax rfl rfl rfl rfl ?_
 refine ax rfl rfl rfl rfl ?_
 refine ax rfl rfl rfl rfl ?_
 refine ax rfl rfl rfl rfl ?_
 refine au (aI rfl rfl) rfl rfl ?_
 refine au (ap rfl) rfl rfl ?_
 refine ax rfl rfl rfl rfl ?_
 refine ax rfl rfl rfl rfl ?_
 refine ax rfl rfl rfl rfl ?_
 refine ax rfl rfl rfl rfl ?_
 refine au (aI rfl rfl) rfl rfl ?_
 refine au (ao rfl) rfl rfl ?_
 refine ah ?_
 refine aq ?_
 refine aQ ?_
 refine ay ?_
 refine aK ?_
 refine ay ?_
 refine aV (ts := [2]) rfl rfl rfl (fun w hw => ?_)
 refine ⟨(), ?_, hw.base, (hw.weak (List.nil_sublist _) (fun s hs => hs)).toNews⟩
 show Ending.returned (.bool _) = _
 congr 2
 focus first
   | (exfalso; omega)
   | (simp [aT, *]
      done)
   | (have q0 : e.addrs = [] := List.length_eq_zero_iff.1 (by omega)
      simp [aT, *]
      done)
   | (have q0 : ¬ e.addrs = [] := by
        intro h; have h9 := congrArg List.length h; rw [List.length_nil] at h9; omega
      simp [aT, *]
      done)
   | (have q0 : e.ports = [] := List.length_eq_zero_iff.1 (by omega)
      simp [aT, *]
      done)
   | (have q0 : ¬ e.ports = [] := by
        intro h; have h9 := congrArg List.length h; rw [List.length_nil] at h9; omega
      simp [aT, *]
      done)
   | (have q0 : e.addrs = [] := List.length_eq_zero_iff.1 (by omega)
      have q1 : e.ports = [] := List.length_eq_zero_iff.1 (by omega)
      simp [aT, *]
      done)
   | (have q0 : e.addrs = [] := List.length_eq_zero_iff.1 (by omega)
      have q1 : ¬ e.ports = [] := by
        intro h; have h9 := congrArg List.length h; rw [List.length_nil] at h9; omega
      simp [aT, *]
      done)
   | (have q0 : ¬ e.addrs = [] := by
        intro h; have h9 := congrArg List.length h; rw [List.length_nil] at h9; omega
      have q1 : e.ports = [] := List.length_eq_zero_iff.1 (by omega)
      simp [aT, *]
      done)
   | (have q0 : ¬ e.addrs = [] := by
        intro h; have h9 := congrArg List.length h; rw [List.length_nil] at h9; omega
      have q1 : ¬ e.ports = [] := by
        intro h; have h9 := congrArg List.length h; rw [List.length_nil] at h9; omega
      simp [aT, *]
      done)
   | (trace_state; fail)
 refine au (ao rfl) rfl rfl ?_
 refine ah ?_
 refine aq ?_
 refine aC rfl ?_
 refine aS ?_
 refine aq ?_
 refine bw ?_
 refine eT rfl ?_
 refine aY ?_
 refine eT rfl ?_
 refine aY ?_
 refine eT rfl ?_
 refine aY ?_
 refine a7 ?_
 refine aq ?_
 refine ar ?_
 refine ai ?_
 refine au (ao rfl) rfl rfl ?_
 refine ah ?_
 refine aq ?_
 refine aQ ?_
 refine aV (ts := [2]) rfl rfl rfl (fun w hw => ?_)
 refine ⟨(), ?_, hw.base, (hw.weak (List.nil_sublist _) (fun s hs => hs)).toNews⟩
 show Ending.returned (.bool _) = _
 congr 2
 focus first
   | (exfalso; omega)
   | (simp [aT, *]
      done)
   | (have q0 : e.addrs = [] := List.length_eq_zero_iff.1 (by omega)
      simp [aT, *]
      done)
   | (have q0 : ¬ e.addrs = [] := by
        intro h; have h9 := congrArg List.length h; rw [List.length_nil] at h9; omega
      simp [aT, *]
      done)
   | (have q0 : e.ports = [] := List.length_eq_zero_iff.1 (by omega)
      simp [aT, *]
      done)
   | (have q0 : ¬ e.ports = [] := by
        intro h; have h9 := congrArg List.length h; rw [List.length_nil] at h9; omega
      simp [aT, *]
      done)
   | (have q0 : e.addrs = [] := List.length_eq_zero_iff.1 (by omega)
      have q1 : e.ports = [] := List.length_eq_zero_iff.1 (by omega)
      simp [aT, *]
      done)
   | (have q0 : e.addrs = [] := List.length_eq_zero_iff.1 (by omega)
      have q1 : ¬ e.ports = [] := by
        intro h; have h9 := congrArg List.length h; rw [List.length_nil] at h9; omega
      simp [aT, *]
      done)
   | (have q0 : ¬ e.addrs = [] := by
        intro h; have h9 := congrArg List.length h; rw [List.length_nil] at h9; omega
      have q1 : e.ports = [] := List.length_eq_zero_iff.1 (by omega)
      simp [aT, *]
      done)
   | (have q0 : ¬ e.addrs = [] := by
        intro h; have h9 := congrArg List.length h; rw [List.length_nil] at h9; omega
      have q1 : ¬ e.ports = [] := by
        intro h; have h9 := congrArg List.length h; rw [List.length_nil] at h9; omega
      simp [aT, *]
      done)
   | (trace_state; fail)

theorem gR {e : En} (h1 : ¬ a8 e.host ≠ 0) (h2 : e.host = []) : 2 = cJ e := by rw [cJ, if_neg h1, if_pos (.inl h2)]

theorem i4 (e : En) (A B : Option Addr) (c d : Nat) (hwa : ∀ a ∈ e.addrs, 0 ≤ a.lo) (hla : e.addrs.length ≤ 1000000000000) (hlp : e.ports.length ≤ 1000000000000) (hk : -9223372036854775808 ≤ e.kind ∧ e.kind ≤ 9223372036854775807) : RC Tryz.prog 138 #[.agg (enC e A B c d).toArray] [Ch.rd A 3 dT e.addrs, Ch.rd B 1 eX e.ports] (α := Unit) (fun _ => .int .i64 (cJ e)) (fun _ => []) := by
 refine bx (args := [.agg (enC e A B c d).toArray]) 29 Tryz.func138 rfl rfl rfl (fun w0 => ?_)
 refine ar ?_
 refine ai ?_
 refine cv rfl rfl rfl (fun b1 => ?_)
 refine au (ao rfl) rfl rfl ?_
 refine ah ?_
 refine aq ?_
 refine ar ?_
 refine ar ?_
 refine ai ?_
 refine au (aD cQ rfl) rfl rfl ?_
 refine au (aM 0 bN rfl rfl rfl) rfl rfl ?_
 refine bb rfl fK (cX _) rfl ?_
 refine au (ao rfl) rfl rfl ?_
 refine ah ?_
 refine aq ?_
 refine ar ?_
 refine ai ?_
 refine au (ap rfl) rfl rfl ?_
 refine au (bX rfl rfl) rfl rfl ?_
 refine aB (t := 8) rfl (fun h2_1 => ?_) (fun h2_1 => ?_)
 refine ah ?_
 refine aq ?_
 refine aA rfl ?_
 refine ar ?_
 refine ai ?_
 refine au (ap rfl) rfl rfl ?_
 refine au (ao rfl) rfl rfl ?_
 refine ah ?_
 refine aq ?_
 refine aQ ?_
 refine ay ?_
 refine aV (ts := [2]) rfl rfl rfl (fun w hw => ?_)
 refine ⟨(), ?_, hw.base, (hw.weak (List.nil_sublist _) (fun s hs => hs)).toNews⟩
 show Ending.returned (.int _ _) = _
 congr 2
 focus first
   | exact gR h2_1 h4_2
   | (simp [cJ, *]
      done)
   | (have q1 : 2147483647 < e.ttl := by omega
      simp [cJ, *]
      done)
   | (have q1 : ¬ 2147483647 < e.ttl := by omega
      simp [cJ, *]
      done)
   | (trace_state; fail)
 refine ah ?_
 refine aq ?_
 refine aC rfl ?_
 refine aS ?_
 refine aq ?_
 refine ar ?_
 refine ar ?_
 refine ai ?_
 refine au (aD cQ rfl) rfl rfl ?_
 refine au (aM 0 bN rfl rfl rfl) rfl rfl ?_
 refine au (d8 rfl rfl) rfl rfl ?_
 refine aB (t := 12) rfl (fun h4_2 => ?_) (fun h4_2 => ?_)
 refine au (ap rfl) rfl rfl ?_
 refine ax rfl rfl rfl rfl ?_
 refine ax rfl rfl rfl rfl ?_
 refine ax rfl rfl rfl rfl ?_
 refine au (aG rfl rfl) rfl rfl ?_
 refine au (ap rfl) rfl rfl ?_
 refine ax rfl rfl rfl rfl ?_
 refine ax rfl rfl rfl rfl ?_
 refine ax rfl rfl rfl rfl ?_
 refine ax rfl rfl rfl rfl ?_
 refine au (aG rfl rfl) rfl rfl ?_
 refine au (ap rfl) rfl rfl ?_
 refine ax rfl rfl rfl rfl ?_
 refine ax rfl rfl rfl rfl ?_
 refine ax rfl rfl rfl rfl ?_
 refine au (aG rfl rfl) rfl rfl ?_
 refine ah ?_
 refine aq ?_
 refine aA rfl ?_
 refine ar ?_
 refine ai ?_
 refine au (ao rfl) rfl rfl ?_
 refine ah ?_
 refine aq ?_
 refine aQ ?_
 refine ay ?_
 refine aV (ts := [2]) rfl rfl rfl (fun w hw => ?_)
 refine ⟨(), ?_, hw.base, (hw.weak (List.nil_sublist _) (fun s hs => hs)).toNews⟩
 show Ending.returned (.int _ _) = _
 congr 2
 focus first
   | exact gR h2_1 h4_2
   | (simp [cJ, *]
      done)
   | (have q1 : 2147483647 < e.ttl := by omega
      simp [cJ, *]
      done)
   | (have q1 : ¬ 2147483647 < e.ttl := by omega
      simp [cJ, *]
      done)
   | (trace_state; fail)
 refine au (ap rfl) rfl rfl ?_
 refine az rfl rfl ?_
 refine au (aD fa_34_6 rfl) rfl rfl ?_
 refine az rfl rfl ?_
 refine au (aM 0 ty_32 rfl rfl rfl) rfl rfl ?_
 refine az rfl rfl ?_
 refine au (c9 rfl rfl) rfl rfl ?_
 refine aB (t := 16) rfl (fun h4_6 => ?_) (fun h4_6 => ?_)
 refine au (aI rfl rfl) rfl rfl ?_
 refine au (ap rfl) rfl rfl ?_
 refine ax rfl rfl rfl rfl ?_
 refine ax rfl rfl rfl rfl ?_
 refine ax rfl rfl rfl rfl ?_
 refine ax rfl rfl rfl rfl ?_
 refine au (aG rfl rfl) rfl rfl ?_
 refine au (ap rfl) rfl rfl ?_
 refine ax rfl rfl rfl rfl ?_
 refine ax rfl rfl rfl rfl ?_
 refine ax rfl rfl rfl rfl ?_
 refine au (aG rfl rfl) rfl rfl ?_
 refine ah ?_
 refine aq ?_
 refine aA rfl ?_
 refine ar ?_
 refine ai ?_
 refine au (ao rfl) rfl rfl ?_
 refine ah ?_
 refine aq ?_
 refine aQ ?_
 refine ay ?_
 refine aV (ts := [2]) rfl rfl rfl (fun w hw => ?_)
 refine ⟨(), ?_, hw.base, (hw.weak (List.nil_sublist _) (fun s hs => hs)).toNews⟩
 show Ending.returned (.int _ _) = _
 congr 2
 focus first
   | exact gR h2_1 h4_2
   | (simp [cJ, *]
      done)
   | (have q1 : 2147483647 < e.ttl := by omega
      simp [cJ, *]
      done)
   | (have q1 : ¬ 2147483647 < e.ttl := by omega
      simp [cJ, *]
      done)
   | (trace_state; fail)
 refine au (aI rfl rfl) rfl rfl ?_
 refine au (ap rfl) rfl rfl ?_
 refine az rfl rfl ?_
 refine au (aD dq rfl) rfl rfl ?_
 refine az rfl rfl ?_
 refine au (aM 0 eP rfl rfl rfl) rfl rfl ?_
 refine az rfl rfl ?_
 refine bp rfl ent_198 rfl (c_entry_ports _ _ _ (by omega)) (fun w hw => (aO (bJ 1 rfl hw) bd)) ?_
 refine bD (t := 21) rfl (fun h4_11 => ?_) (fun h4_11 => ?_)
 refine az rfl rfl ?_
 refine au (bC rfl) rfl rfl ?_
 refine au (aI rfl rfl) rfl rfl ?_
 refine au (ap rfl) rfl rfl ?_
 refine az rfl rfl ?_
 refine au (a6 0 aR rfl rfl rfl rfl) rfl rfl ?_
 refine az rfl rfl ?_
 refine bp rfl ent_199 rfl (c_entry_may _ _ _ _ _ hwa hla hlp hk) (fun w hw => (aO (bJ 0 rfl hw) (aO (bJ 1 rfl hw) bd))) ?_
 refine bD (t := 26) rfl (fun h4_16 => ?_) (fun h4_16 => ?_)
 refine az rfl rfl ?_
 refine au (bC rfl) rfl rfl ?_
 refine au (aI rfl rfl) rfl rfl ?_
 refine ah ?_
 refine aq ?_
 refine aC rfl ?_
 refine aS ?_
 refine aq ?_
 refine ar ?_
 refine ai ?_
 refine au (ao rfl) rfl rfl ?_
 refine ah ?_
 refine aq ?_
 refine aQ ?_
 refine aV (ts := [2]) rfl rfl rfl (fun w hw => ?_)
 refine ⟨(), ?_, hw.base, (hw.weak (List.nil_sublist _) (fun s hs => hs)).toNews⟩
 show Ending.returned (.int _ _) = _
 congr 2
 focus first
   | exact gR h2_1 h4_2
   | (simp [cJ, *]
      done)
   | (have q1 : 2147483647 < e.ttl := by omega
      simp [cJ, *]
      done)
   | (have q1 : ¬ 2147483647 < e.ttl := by omega
      simp [cJ, *]
      done)
   | (trace_state; fail)
 refine az rfl rfl ?_
 refine au (bC rfl) rfl rfl ?_
 refine au (aI rfl rfl) rfl rfl ?_
 refine ah ?_
 refine aq ?_
 refine aA rfl ?_
 refine ar ?_
 refine ai ?_
 refine au (ao rfl) rfl rfl ?_
 refine ah ?_
 refine aq ?_
 refine aQ ?_
 refine ay ?_
 refine aV (ts := [2]) rfl rfl rfl (fun w hw => ?_)
 refine ⟨(), ?_, hw.base, (hw.weak (List.nil_sublist _) (fun s hs => hs)).toNews⟩
 show Ending.returned (.int _ _) = _
 congr 2
 focus first
   | exact gR h2_1 h4_2
   | (simp [cJ, *]
      done)
   | (have q1 : 2147483647 < e.ttl := by omega
      simp [cJ, *]
      done)
   | (have q1 : ¬ 2147483647 < e.ttl := by omega
      simp [cJ, *]
      done)
   | (trace_state; fail)
 refine az rfl rfl ?_
 refine au (bC rfl) rfl rfl ?_
 refine au (aI rfl rfl) rfl rfl ?_
 refine au (ap rfl) rfl rfl ?_
 refine ax rfl rfl rfl rfl ?_
 refine ax rfl rfl rfl rfl ?_
 refine ax rfl rfl rfl rfl ?_
 refine au (aG rfl rfl) rfl rfl ?_
 refine ah ?_
 refine aq ?_
 refine aA rfl ?_
 refine ar ?_
 refine ai ?_
 refine au (ao rfl) rfl rfl ?_
 refine ah ?_
 refine aq ?_
 refine aQ ?_
 refine ay ?_
 refine aV (ts := [2]) rfl rfl rfl (fun w hw => ?_)
 refine ⟨(), ?_, hw.base, (hw.weak (List.nil_sublist _) (fun s hs => hs)).toNews⟩
 show Ending.returned (.int _ _) = _
 congr 2
 focus first
   | exact gR h2_1 h4_2
   | (simp [cJ, *]
      done)
   | (have q1 : 2147483647 < e.ttl := by omega
      simp [cJ, *]
      done)
   | (have q1 : ¬ 2147483647 < e.ttl := by omega
      simp [cJ, *]
      done)
   | (trace_state; fail)

theorem rs_none {A : Option Addr} {n sz : Nat} {cs : List Value} {w : World} (h : RsP A n sz cs w) (hA : A.isNone = true) : n = 0 := by
  rcases h.at_ with h0 | ⟨b, o, rfl, _⟩
  · exact h0
  · cases hA
theorem filter_yes {α : Type} {F : α → Bool} {l : List α} {d : α} {k : Nat} (hk : k < l.length) (h : F (l.getD k d) = true) : (l.take (k + 1)).filter F = (l.take k).filter F ++ [l.getD k d] := by
  rw [bK l d k hk, List.filter_append]
  congr 1
  simp only [List.filter_cons, h, if_true, List.filter_nil]
theorem filter_no {α : Type} {F : α → Bool} {l : List α} {d : α} {k : Nat} (hk : k < l.length) (h : F (l.getD k d) = false) : (l.take (k + 1)).filter F = (l.take k).filter F := by
  rw [bK l d k hk, List.filter_append]
  simp only [List.filter_cons, h, List.filter_nil]
  simp
theorem im {α : Type} (F : α → Bool) (l : List α) (k : Nat) : ((l.take k).filter F).length ≤ l.length := Nat.le_trans (List.length_filter_le _ _) (by simp; omega)

theorem c_Clone_ad (l : List Ad) (A : Option Addr) (c : Nat) (hl : l.length ≤ 1000000000000) : RC Tryz.prog 144 #[.slice A l.length c] [Ch.rd A 3 dT l] (α := Option Addr × Nat) (fun p => .slice p.1 l.length p.2) (fun p => [Ch.ls p.1 p.2 29 3 dT l]) := by
 refine bx (args := [.slice A l.length c]) 8 Tryz.func144 rfl rfl rfl (fun w0 => ?_)
 refine ar ?_
 refine ai ?_
 refine au (ao rfl) rfl rfl ?_
 refine ah ?_
 refine aq ?_
 refine ar ?_
 refine ar ?_
 refine ai ?_
 refine au (ap rfl) rfl rfl ?_
 refine au (y_eqsn Tryz.underlying30 rfl rfl) rfl rfl ?_
 refine bD (t := 4) rfl (fun h1_1 => ?_) (fun h1_1 => ?_)
 refine ah ?_
 refine aq ?_
 refine aA rfl ?_
 refine ar ?_
 refine ai ?_
 refine au (ao rfl) rfl rfl ?_
 refine ah ?_
 refine aq ?_
 refine aQ ?_
 refine ay ?_
 refine aV (ts := [2]) rfl rfl rfl (fun w hw => ?_)
 have hr : RsP A l.length 3 _ w := hw.sh _ List.mem_cons_self
 have h0 : l = [] := List.length_eq_zero_iff.1 (rs_none hr h1_1)
 subst h0
 exact ⟨(none, 0), rfl, hw.base, (hw.nilsl 29 3).toNews⟩
 refine ah ?_
 refine aq ?_
 refine aC rfl ?_
 refine aS ?_
 refine aq ?_
 refine ar ?_
 refine ai ?_
 refine cD (vs := []) ([] : List (Ad)) dI Tryz.underlying30 bu rfl rfl rfl rfl rfl rfl (fun As1 => ?_)
 refine au (ap rfl) rfl rfl ?_
 refine cC (enc := dT) (sz := 3) l Tryz.underlying30 bu rfl rfl rfl (fun A c => .z) (ic 0 Tryz.underlying30 rfl) (by simp only [List.length_cons, List.length_nil, Nat.zero_add]; omega) (by simp only [List.length_cons, List.length_nil, Nat.zero_add]; omega) rfl (fun A1 c1 => ?_)
 refine au (ao rfl) rfl rfl ?_
 refine ah ?_
 refine aq ?_
 refine aQ ?_
 refine aV (ts := [2]) rfl rfl rfl (fun w hw => ?_)
 exact ⟨(A1, c1), rfl, hw.base, hw.toNews⟩

theorem c_Clone_int (l : List Int) (A : Option Addr) (c : Nat) (hl : l.length ≤ 1000000000000) : RC Tryz.prog 145 #[.slice A l.length c] [Ch.rd A 1 eX l] (α := Option Addr × Nat) (fun p => .slice p.1 l.length p.2) (fun p => [Ch.ls p.1 p.2 3 1 eX l]) := by
 refine bx (args := [.slice A l.length c]) 8 Tryz.func145 rfl rfl rfl (fun w0 => ?_)
 refine ar ?_
 refine ai ?_
 refine au (ao rfl) rfl rfl ?_
 refine ah ?_
 refine aq ?_
 refine ar ?_
 refine ar ?_
 refine ai ?_
 refine au (ap rfl) rfl rfl ?_
 refine au (y_eqsn Tryz.underlying31 rfl rfl) rfl rfl ?_
 refine bD (t := 4) rfl (fun h1_1 => ?_) (fun h1_1 => ?_)
 refine ah ?_
 refine aq ?_
 refine aA rfl ?_
 refine ar ?_
 refine ai ?_
 refine au (ao rfl) rfl rfl ?_
 refine ah ?_
 refine aq ?_
 refine aQ ?_
 refine ay ?_
 refine aV (ts := [2]) rfl rfl rfl (fun w hw => ?_)
 have hr : RsP A l.length 1 _ w := hw.sh _ List.mem_cons_self
 have h0 : l = [] := List.length_eq_zero_iff.1 (rs_none hr h1_1)
 subst h0
 exact ⟨(none, 0), rfl, hw.base, (hw.nilsl 3 1).toNews⟩
 refine ah ?_
 refine aq ?_
 refine aC rfl ?_
 refine aS ?_
 refine aq ?_
 refine ar ?_
 refine ai ?_
 refine cD (vs := []) ([] : List (Int)) ga Tryz.underlying31 de rfl rfl rfl rfl rfl rfl (fun As1 => ?_)
 refine au (ap rfl) rfl rfl ?_
 refine cC (enc := eX) (sz := 1) l Tryz.underlying31 de rfl rfl rfl (fun A c => .z) (ic 0 Tryz.underlying31 rfl) (by simp only [List.length_cons, List.length_nil, Nat.zero_add]; omega) (by simp only [List.length_cons, List.length_nil, Nat.zero_add]; omega) rfl (fun A1 c1 => ?_)
 refine au (ao rfl) rfl rfl ?_
 refine ah ?_
 refine aq ?_
 refine aQ ?_
 refine aV (ts := [2]) rfl rfl rfl (fun w hw => ?_)
 exact ⟨(A1, c1), rfl, hw.base, hw.toNews⟩

theorem iW (e : En) (A B : Option Addr) (c d : Nat) (H : Option Addr) (h : Nat) (held : List Ad) (hwh : ∀ a ∈ held, 0 ≤ a.lo) (hlh : held.length ≤ 1000000000000) (hwa : ∀ a ∈ e.addrs, 0 ≤ a.lo) (hla : e.addrs.length ≤ 1000000000000) (hlp : e.ports.length ≤ 1000000000000) (hk : -9223372036854775808 ≤ e.kind ∧ e.kind ≤ 9223372036854775807) : RC Tryz.prog 87 #[.agg (enC e A B c d).toArray, .slice H held.length h] [Ch.rd A 3 dT e.addrs, Ch.rd B 1 eX e.ports, Ch.rd H 3 dT held] (α := Option Addr × Nat) (fun p => .slice p.1 (di e held).length p.2) (fun p => [Ch.ls p.1 p.2 29 3 dT (di e held)]) := by
 refine bx (args := [.agg (enC e A B c d).toArray, .slice H held.length h]) 38 Tryz.func87 rfl rfl rfl (fun w0 => ?_)
 refine ar ?_
 refine ai ?_
 refine cv rfl rfl rfl (fun b1 => ?_)
 refine au (ao rfl) rfl rfl ?_
 refine ah ?_
 refine aq ?_
 refine ar ?_
 refine aW ?_
 refine ar ?_
 refine ai ?_
 refine au (a6 0 aR rfl rfl rfl rfl) rfl rfl ?_
 refine bp rfl ent_138 rfl (i4 _ _ _ _ _ hwa hla hlp hk) (fun w hw => (aO (bJ 0 rfl hw) (aO (bJ 1 rfl hw) bd))) ?_
 refine au (bX rfl rfl) rfl rfl ?_
 refine aB (t := 11) rfl (fun h1_2 => ?_) (fun h1_2 => ?_)
 refine au (ao rfl) rfl rfl ?_
 refine ah ?_
 refine aq ?_
 refine aA rfl ?_
 refine ar ?_
 refine ai ?_
 refine au (ao rfl) rfl rfl ?_
 refine ah ?_
 refine aq ?_
 refine aQ ?_
 refine aK ?_
 refine ay ?_
 refine aV (ts := [4]) rfl rfl rfl (fun w hw => ?_)
 have hq : di e held = [] := if_pos h1_2
 rw [hq]
 exact ⟨(none, 0), rfl, hw.base, ((hw.weak (List.nil_sublist _) (fun s hs => hs)).nilsl 29 3).toNews⟩
 refine au (ao rfl) rfl rfl ?_
 refine ah ?_
 refine aq ?_
 refine aC rfl ?_
 refine ar ?_
 refine ai ?_
 refine au (aD ea rfl) rfl rfl ?_
 refine au (aM 0 de rfl rfl rfl) rfl rfl ?_
 refine au (dk rfl rfl) rfl rfl ?_
 refine aB (t := 15) rfl (fun h3_2 => ?_) (fun h3_2 => ?_)
 refine au (ao rfl) rfl rfl ?_
 refine ah ?_
 refine aq ?_
 refine aA rfl ?_
 refine ar ?_
 refine ai ?_
 refine au (aD cH rfl) rfl rfl ?_
 refine au (aM 0 dN rfl rfl rfl) rfl rfl ?_
 refine bM rfl ent_144 rfl (c_Clone_ad _ _ _ (by omega)) (fun w hw => (aO (bJ 0 rfl hw) bd)) (fun ⟨A1, c1⟩ => ?_)
 refine au (ao rfl) rfl rfl ?_
 refine ah ?_
 refine aq ?_
 refine aQ ?_
 refine aK ?_
 refine ay ?_
 refine aV (ts := [4]) rfl rfl rfl (fun w hw => ?_)
 have hq : di e held = e.addrs := by rw [di, if_neg h1_2, if_pos h3_2]
 rw [hq]
 exact ⟨(A1, c1), rfl, hw.base, (hw.weak (.cons_cons _ (List.nil_sublist _)) (fun s hs => hs)).toNews⟩
 refine au (ao rfl) rfl rfl ?_
 refine ah ?_
 refine aq ?_
 refine aC rfl ?_
 refine ar ?_
 refine ai ?_
 refine au (aD ea rfl) rfl rfl ?_
 refine au (aM 0 de rfl rfl rfl) rfl rfl ?_
 refine au (bX rfl rfl) rfl rfl ?_
 refine aB (t := 22) rfl (fun h5_2 => ?_) (fun h5_2 => ?_)
 refine au (ao rfl) rfl rfl ?_
 refine ah ?_
 refine aq ?_
 refine aA rfl ?_
 refine ar ?_
 refine ai ?_
 refine au (ao rfl) rfl rfl ?_
 refine ah ?_
 refine aq ?_
 refine aQ ?_
 refine aK ?_
 refine ay ?_
 refine aV (ts := [4]) rfl rfl rfl (fun w hw => ?_)
 have hq : di e held = [] := by rw [di, if_neg h1_2, if_neg h3_2, if_pos h5_2]
 rw [hq]
 exact ⟨(none, 0), rfl, hw.base, ((hw.weak (List.nil_sublist _) (fun s hs => hs)).nilsl 29 3).toNews⟩
 refine au (ao rfl) rfl rfl ?_
 refine ah ?_
 refine aq ?_
 refine aC rfl ?_
 refine aS ?_
 refine bo ?_
 refine aq ?_
 refine ar ?_
 refine ai ?_
 refine au (ao rfl) rfl rfl ?_
 refine ah ?_
 refine aq ?_
 refine ar ?_
 refine ar ?_
 refine ai ?_
 refine au (ap rfl) rfl rfl ?_
 refine au (bg Tryz.underlying30 rfl) rfl rfl ?_
 refine au (ap rfl) rfl rfl ?_
 refine ah ?_
 refine aq ?_
 refine aW ?_
 refine bF (fun w h => h.nilsl 29 3) ?_
 refine cP (σ := Nat × Option Addr × Nat) [5, 7, 25, 26, 27, 28, 29, 30, 31, 32, 33, 34, 35, 36] (fun q => q.1 ≤ held.length) (fun q => held.length - q.1) (fun q => [(25, .int .i64 q.1), (5, .slice q.2.1 ((held.take q.1).filter (fun a => decide (cz a = 0))).length q.2.2)]) (fun q => Ch.ls q.2.1 q.2.2 29 3 dT ((held.take q.1).filter (fun a => decide (cz a = 0)))) ((0, none, 0)) ?_ ⟨rfl, rfl, trivial⟩ rfl (fun q hI => ?_)
 exact Nat.zero_le _
 obtain ⟨k, Aq, cq⟩ := q
 dsimp only at hI ⊢
 have hfl := im (fun a => decide (cz a = 0)) held k
 refine ar ?_
 refine ai ?_
 refine au (bI rfl rfl) rfl rfl ?_
 refine aB (t := 26) rfl (fun h9_0 => ?_) (fun h9_0 => ?_)
 refine ah ?_
 refine aq ?_
 refine ar ?_
 refine aA rfl ?_
 refine aS ?_
 refine aq ?_
 refine ar ?_
 refine aW ?_
 refine ar ?_
 refine ai ?_
 refine au (bz  Tryz.underlying30 bu rfl rfl (bE 2 rfl) rfl (by omega)) rfl rfl ?_
 refine au (bW dI eZ bu rfl (bE 2 rfl) (by omega) rfl rfl rfl) rfl rfl ?_
 refine bj bu rfl rfl (fun b3 => ?_)
 refine a0 bu rfl rfl rfl .z rfl rfl rfl rfl ?_
 refine ah ?_
 refine aq ?_
 refine ar ?_
 refine ai ?_
 refine au (a6 0 bu rfl rfl rfl rfl) rfl rfl ?_
 refine bb rfl ent_75 (fd _ (hwh _ (jN (by omega)))) rfl ?_
 refine au (dk rfl rfl) rfl rfl ?_
 refine aB (t := 31) rfl (fun h11_2 => ?_) (fun h11_2 => ?_)
 refine ah ?_
 refine aq ?_
 refine aA rfl ?_
 refine ai ?_
 refine au (ap rfl) rfl rfl ?_
 refine au (a6 0 bu rfl rfl rfl rfl) rfl rfl ?_
 refine cD (vs := [_]) ([_] : List (Ad)) dI Tryz.underlying30 bu rfl rfl rfl rfl rfl rfl (fun As4 => ?_)
 refine cC (enc := dT) (sz := 3) _ Tryz.underlying30 bu rfl rfl rfl (fun A c => (.s (.s (.z)))) (d5 0 Tryz.underlying30 rfl) (by simp only [List.length_cons, List.length_nil, Nat.zero_add]; omega) (by simp only [List.length_cons, List.length_nil, Nat.zero_add]; omega) rfl (fun A4 c4 => ?_)
 refine au (ao rfl) rfl rfl ?_
 refine ah ?_
 refine bo ?_
 refine aq ?_
 refine ai ?_
 refine au (bl rfl rfl (by omega) (by omega)) rfl rfl ?_
 refine au (ap rfl) rfl rfl ?_
 refine ah ?_
 have hfs := filter_yes (F := (fun a => decide (cz a = 0))) (l := held) (d := eZ) (k := k) (by omega) (by simpa using h11_2)
 refine bq ((k + 1, A4, c4)) ?_ ?_ ⟨rfl, lk rfl (by rw [hfs]), trivial⟩ (by repeat (first | exact trivial | refine ⟨rfl, ?_⟩)) (fun w h => by show Hp _ _ (Ch.ls _ _ _ _ _ ((held.take (k + 1)).filter (fun a => decide (cz a = 0))) :: _) _ _; rw [hfs]; exact h.weak (.cons _ (.cons _ (List.Sublist.refl _))) (fun s hs => hs))
 show k + 1 ≤ _
 omega
 show held.length - (k + 1) < held.length - k
 omega
 refine ah ?_
 refine aq ?_
 refine aC rfl ?_
 refine aS ?_
 refine bo ?_
 refine aq ?_
 refine ai ?_
 refine au (bl rfl rfl (by omega) (by omega)) rfl rfl ?_
 refine au (ap rfl) rfl rfl ?_
 refine ah ?_
 have hfs := filter_no (F := (fun a => decide (cz a = 0))) (l := held) (d := eZ) (k := k) (by omega) (by simpa using h11_2)
 refine bq ((k + 1, Aq, cq)) ?_ ?_ ⟨rfl, lk rfl (by rw [hfs]), trivial⟩ (by repeat (first | exact trivial | refine ⟨rfl, ?_⟩)) (fun w h => by show Hp _ _ (Ch.ls _ _ _ _ _ ((held.take (k + 1)).filter (fun a => decide (cz a = 0))) :: _) _ _; rw [hfs]; exact h.weak (.cons _ (List.Sublist.refl _)) (fun s hs => hs))
 show k + 1 ≤ _
 omega
 show held.length - (k + 1) < held.length - k
 omega
 refine ah ?_
 refine aq ?_
 refine ar ?_
 refine aC rfl ?_
 refine bw ?_
 refine aY ?_
 refine aZ ?_
 refine a7 ?_
 refine aq ?_
 refine ar ?_
 refine ai ?_
 refine au (ap rfl) rfl rfl ?_
 refine au (ao rfl) rfl rfl ?_
 refine ah ?_
 refine aq ?_
 refine aQ ?_
 refine aV (ts := [4]) rfl rfl rfl (fun w hw => ?_)
 have hq : di e held = held.filter fun a => decide (cz a = 0) := by rw [di, if_neg h1_2, if_neg h3_2, if_neg h5_2]
 obtain rfl : k = held.length := by omega
 rw [hq]
 rw [List.take_length] at hw ⊢
 exact ⟨(Aq, cq), rfl, hw.base, (hw.weak (.cons_cons _ (List.nil_sublist _)) (fun s hs => hs)).toNews⟩

theorem cI (e : En) (A B : Option Addr) (c d : Nat) (hn : e.host.length ≤ 1000000000) : dQ Tryz.prog 71 #[.agg (enC e A B c d).toArray] (.string (ba (aX e.host))) := by
 intro w0
 refine bH (ok0 := no) (S := []) (args := [.agg (enC e A B c d).toArray]) 6 Tryz.func71 rfl rfl rfl (by simp) (by simp) ?_
 refine ar ?_
 refine ai ?_
 refine cv rfl rfl rfl (fun b1 => ?_)
 refine au (ao rfl) rfl rfl ?_
 refine ah ?_
 refine aq ?_
 refine ar ?_
 refine ai ?_
 refine au (aD cQ rfl) rfl rfl ?_
 refine au (aM 0 bN rfl rfl rfl) rfl rfl ?_
 refine bb rfl il (eW _ (by omega)) rfl ?_
 refine au (ao rfl) rfl rfl ?_
 refine ah ?_
 refine aq ?_
 refine aQ ?_
 refine aV (ts := [2]) rfl rfl rfl (fun w hw => ?_)
 exact ⟨rfl, hw.base⟩
end Go.Proofs.YtnpdgmoeoidppaaGreat
