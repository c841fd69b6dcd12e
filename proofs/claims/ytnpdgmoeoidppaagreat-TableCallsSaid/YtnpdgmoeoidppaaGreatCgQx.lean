import Derived.Test.YtnpdgmoeoidppaaGreatLlQx
import Derived.Test.YtnpdgmoeoidppaaGreatPcQx
/- addresses, entries -/
namespace Go.Proofs.YtnpdgmoeoidppaaGreat
open Go.RowKit Go.Shelf
set_option linter.unusedVariables false
set_option linter.unusedSimpArgs false

theorem ent_138 : Enters Tryz.prog 138 := enters_of Tryz.func138 (by kernel_rfl) rfl
theorem ent_144 : Enters Tryz.prog 144 := enters_of Tryz.func144 (by kernel_rfl) rfl
theorem ent_198 : Enters Tryz.prog 198 := enters_of Tryz.func198 (by kernel_rfl) rfl
theorem ent_199 : Enters Tryz.prog 199 := enters_of Tryz.func199 (by kernel_rfl) rfl
theorem ent_233 : Enters Tryz.prog 233 := enters_of Tryz.func233 (by kernel_rfl) rfl
theorem ent_234 : Enters Tryz.prog 234 := enters_of Tryz.func234 (by kernel_rfl) rfl
theorem ent_254 : Enters Tryz.prog 254 := enters_of Tryz.func254 (by kernel_rfl) rfl
theorem ent_263 : Enters Tryz.prog 263 := enters_of Tryz.func263 (by kernel_rfl) rfl
theorem ent_75 : Enters Tryz.prog 75 := enters_of Tryz.func75 (by kernel_rfl) rfl
theorem fa_29_0 : FA Tryz.prog 29 0 0 := fun b o w => by kernel_rfl
theorem fa_29_1 : FA Tryz.prog 29 1 1 := fun b o w => by kernel_rfl
theorem fa_29_2 : FA Tryz.prog 29 2 2 := fun b o w => by kernel_rfl
theorem cM : FA Tryz.prog 34 0 0 := fun b o w => by kernel_rfl
theorem gH : FA Tryz.prog 34 1 1 := fun b o w => by kernel_rfl
theorem fx : FA Tryz.prog 34 2 2 := fun b o w => by kernel_rfl
theorem du : FA Tryz.prog 34 3 3 := fun b o w => by kernel_rfl
theorem ez : FA Tryz.prog 34 4 4 := fun b o w => by kernel_rfl
theorem dy : FA Tryz.prog 34 5 5 := fun b o w => by kernel_rfl
theorem iZ : FA Tryz.prog 34 6 6 := fun b o w => by kernel_rfl
theorem ty_27 : TyI Tryz.prog 27 false 1 8 (.int .u64 0) := TyI.mk' (by kernel_rfl) (fun _ => by kernel_rfl)
theorem eh : TyI Tryz.prog 29 true 3 24 (.agg #[.bool false, .int .u64 0, .int .u64 0]) := TyI.mk' (by kernel_rfl) (fun _ => by kernel_rfl)
theorem eF : TyI Tryz.prog 30 false 1 24 (.slice none 0 0) := TyI.mk' (by kernel_rfl) (fun _ => by kernel_rfl)
theorem eN : TyI Tryz.prog 31 false 1 24 (.slice none 0 0) := TyI.mk' (by kernel_rfl) (fun _ => by kernel_rfl)
theorem ty_32 : TyI Tryz.prog 32 false 1 4 (.int .u32 0) := TyI.mk' (by kernel_rfl) (fun _ => by kernel_rfl)
theorem aU : TyI Tryz.prog 34 true 7 112 (.agg #[.string ⟨#[]⟩, .int .i64 0, .string ⟨#[]⟩, .slice none 0 0, .string ⟨#[]⟩, .slice none 0 0, .int .u32 0]) := TyI.mk' (by kernel_rfl) (fun _ => by kernel_rfl)
theorem iu : TyI Tryz.prog 4 false 1 1 (.bool false) := TyI.mk' (by kernel_rfl) (fun _ => by kernel_rfl)

/-- Addresses are compared field by field. -/
theorem eqd_ad (a b : Ad) : EqD Tryz.prog 2 29 (.agg (gw a).toArray) (.agg (gw b).toArray) (decide (a = b)) := by
  have h : EqD Tryz.prog 2 29 (.agg (gw a).toArray) (.agg (gw b).toArray) ((a.six == b.six) && ((a.hi == b.hi) && ((a.lo == b.lo) && true))) :=
    eqd_struct (n := 1) Tryz.underlying29 (by kernel_rfl) (eqf_cons (v := .bool a.six) (u := .bool b.six) (by kernel_rfl) (fun _ => by kernel_rfl) (fun _ => by kernel_rfl) (eqd_bool Tryz.underlying4) rfl (eqf_cons (v := .int .u64 a.hi) (u := .int .u64 b.hi) (by kernel_rfl) (fun _ => by kernel_rfl) (fun _ => by kernel_rfl) (eqd_int Tryz.underlying27) rfl (eqf_cons (v := .int .u64 a.lo) (u := .int .u64 b.lo) (by kernel_rfl) (fun _ => by kernel_rfl) (fun _ => by kernel_rfl) (eqd_int Tryz.underlying27) rfl eqf_nil)))
  have e : ((a.six == b.six) && ((a.hi == b.hi) && ((a.lo == b.lo) && true))) = decide (a = b) := by
    cases a; cases b
    rw [Bool.eq_iff_iff]
    simp
  rw [e] at h; exact h
theorem keyl_ad : KeyL Tryz.prog 29 (fun a : Ad => .agg (gw a).toArray) :=
  keyl_agg Tryz.underlying29 (fun e a w => by kernel_rfl) eqd_ad rfl (fun a => by simp [Instr.sameBits, gw])

theorem ck_six {a : Ad} (h : a.six = true) : gr a = 0 := by unfold gr; rw [if_neg (fun h2 => by rw [h] at h2; exact absurd h2.1 (by simp))]
theorem ck_bad {a : Ad} (h : a.six = false) (h2 : a.hi ≠ 0 ∨ 4294967296 ≤ a.lo) : gr a = 2 := by unfold gr; rw [if_pos ⟨h, h2⟩]
theorem ck_ok {a : Ad} (h : ¬ a.hi ≠ 0) (h2 : ¬ 4294967296 ≤ a.lo) : gr a = 0 := by unfold gr; rw [if_neg (fun h3 => by have := h3.2; omega)]

theorem c_addr_Check (a : Ad) (h0 : 0 ≤ a.lo) : eC Tryz.prog 75 #[.agg (gw a).toArray] (.int .i64 (gr a)) := by
 intro w0
 refine bT (ok0 := no) (S := []) (args := [.agg (gw a).toArray]) 17 Tryz.func75 rfl rfl rfl (by simp) (by simp) ?_
 refine ap ?_
 refine ae ?_
 refine cL rfl rfl rfl (fun b1 => ?_)
 refine aq (ai rfl) rfl rfl ?_
 refine aa ?_
 refine aj ?_
 refine ap ?_
 refine ap ?_
 refine ae ?_
 refine aq (aB fa_29_0 rfl) rfl rfl ?_
 refine aq (aC 0 iu rfl rfl rfl) rfl rfl ?_
 refine bN (t := 4) rfl (fun h1_1 => ?_) (fun h1_1 => ?_)
 refine aq (bS rfl) rfl rfl ?_
 refine aq (am rfl) rfl rfl ?_
 refine ar rfl rfl rfl rfl ?_
 refine ar rfl rfl rfl rfl ?_
 refine ar rfl rfl rfl rfl ?_
 refine ar rfl rfl rfl rfl ?_
 refine cT rfl rfl rfl ?_
 refine cT rfl rfl rfl ?_
 refine cT rfl rfl rfl ?_
 refine cT rfl rfl rfl ?_
 refine ar rfl rfl rfl rfl ?_
 refine aq (aF rfl rfl) rfl rfl ?_
 refine aa ?_
 refine aj ?_
 refine aD rfl ?_
 refine aQ ?_
 refine aj ?_
 refine ap ?_
 refine ae ?_
 refine aq (ai rfl) rfl rfl ?_
 refine aa ?_
 refine aj ?_
 refine aN ?_
 refine aR (ts := [2]) rfl rfl rfl (fun w hw => ?_)
 exact ⟨by rw [ck_six h1_1]; rfl, hw.base⟩
 refine aq (bS rfl) rfl rfl ?_
 refine aq (am rfl) rfl rfl ?_
 refine au rfl rfl ?_
 refine aq (aB fa_29_1 rfl) rfl rfl ?_
 refine au rfl rfl ?_
 refine aq (aC 0 ty_27 rfl rfl rfl) rfl rfl ?_
 refine au rfl rfl ?_
 refine aq (cO rfl rfl) rfl rfl ?_
 refine ay (t := 9) rfl (fun h1_6 => ?_) (fun h1_6 => ?_)
 refine au rfl rfl ?_
 refine aq (am rfl) rfl rfl ?_
 refine ar rfl rfl rfl rfl ?_
 refine ar rfl rfl rfl rfl ?_
 refine ar rfl rfl rfl rfl ?_
 refine ar rfl rfl rfl rfl ?_
 refine au rfl rfl ?_
 refine aq (aH rfl rfl) rfl rfl ?_
 refine aq (aH rfl rfl) rfl rfl ?_
 refine aa ?_
 refine aj ?_
 refine aA rfl ?_
 refine ap ?_
 refine ae ?_
 refine aq (ai rfl) rfl rfl ?_
 refine aa ?_
 refine aj ?_
 refine aN ?_
 refine ax ?_
 refine aR (ts := [2]) rfl rfl rfl (fun w hw => ?_)
 exact ⟨by rw [ck_bad h1_1 (.inl h1_6)]; rfl, hw.base⟩
 refine au rfl rfl ?_
 refine aq (am rfl) rfl rfl ?_
 refine au rfl rfl ?_
 refine aq (aB fa_29_2 rfl) rfl rfl ?_
 refine au rfl rfl ?_
 refine aq (aC 0 ty_27 rfl rfl rfl) rfl rfl ?_
 refine au rfl rfl ?_
 refine aq (y_shr rfl rfl (by omega)) rfl rfl ?_
 refine au rfl rfl ?_
 refine aq (cO rfl rfl) rfl rfl ?_
 refine ay (t := 14) rfl (fun h1_11 => ?_) (fun h1_11 => ?_)
 refine au rfl rfl ?_
 refine aq (aF rfl rfl) rfl rfl ?_
 refine aq (aH rfl rfl) rfl rfl ?_
 refine aa ?_
 refine aj ?_
 refine aA rfl ?_
 refine ap ?_
 refine ae ?_
 refine aq (ai rfl) rfl rfl ?_
 refine aa ?_
 refine aj ?_
 refine aN ?_
 refine ax ?_
 refine aR (ts := [2]) rfl rfl rfl (fun w hw => ?_)
 rw [shr32 h0] at h1_11
 exact ⟨by rw [ck_bad h1_1 (.inr h1_11)]; rfl, hw.base⟩
 refine au rfl rfl ?_
 refine aq (aF rfl rfl) rfl rfl ?_
 refine aq (aH rfl rfl) rfl rfl ?_
 refine aa ?_
 refine aj ?_
 refine aD rfl ?_
 refine aQ ?_
 refine aj ?_
 refine ap ?_
 refine ae ?_
 refine aq (ai rfl) rfl rfl ?_
 refine aa ?_
 refine aj ?_
 refine aN ?_
 refine aR (ts := [2]) rfl rfl rfl (fun w hw => ?_)
 rw [shr32 h0] at h1_11
 exact ⟨by rw [ck_ok h1_6 h1_11]; rfl, hw.base⟩

theorem c_ref04_Check (a : Ad) (h0 : 0 ≤ a.lo) : eC Tryz.prog 79 #[.agg (gw a).toArray] (.int .i64 (gr a)) := by
 intro w0
 refine bT (ok0 := no) (S := []) (args := [.agg (gw a).toArray]) 16 Tryz.func79 rfl rfl rfl (by simp) (by simp) ?_
 refine ap ?_
 refine ae ?_
 refine cL rfl rfl rfl (fun b1 => ?_)
 refine aq (ai rfl) rfl rfl ?_
 refine aa ?_
 refine aj ?_
 refine ap ?_
 refine ap ?_
 refine ae ?_
 refine aq (aB fa_29_0 rfl) rfl rfl ?_
 refine aq (aC 0 iu rfl rfl rfl) rfl rfl ?_
 refine bN (t := 4) rfl (fun h1_1 => ?_) (fun h1_1 => ?_)
 refine aq (bS rfl) rfl rfl ?_
 refine aq (am rfl) rfl rfl ?_
 refine ar rfl rfl rfl rfl ?_
 refine ar rfl rfl rfl rfl ?_
 refine ar rfl rfl rfl rfl ?_
 refine ar rfl rfl rfl rfl ?_
 refine cT rfl rfl rfl ?_
 refine cT rfl rfl rfl ?_
 refine cT rfl rfl rfl ?_
 refine ar rfl rfl rfl rfl ?_
 refine aq (aF rfl rfl) rfl rfl ?_
 refine aa ?_
 refine aj ?_
 refine aD rfl ?_
 refine aQ ?_
 refine aj ?_
 refine ap ?_
 refine ae ?_
 refine aq (ai rfl) rfl rfl ?_
 refine aa ?_
 refine aj ?_
 refine aN ?_
 refine aR (ts := [2]) rfl rfl rfl (fun w hw => ?_)
 exact ⟨by rw [ck_six h1_1]; rfl, hw.base⟩
 refine aq (bS rfl) rfl rfl ?_
 refine aq (am rfl) rfl rfl ?_
 refine au rfl rfl ?_
 refine aq (aB fa_29_1 rfl) rfl rfl ?_
 refine au rfl rfl ?_
 refine aq (aC 0 ty_27 rfl rfl rfl) rfl rfl ?_
 refine au rfl rfl ?_
 refine aq (cO rfl rfl) rfl rfl ?_
 refine ay (t := 9) rfl (fun h1_6 => ?_) (fun h1_6 => ?_)
 refine au rfl rfl ?_
 refine aq (am rfl) rfl rfl ?_
 refine ar rfl rfl rfl rfl ?_
 refine ar rfl rfl rfl rfl ?_
 refine ar rfl rfl rfl rfl ?_
 refine au rfl rfl ?_
 refine aq (aH rfl rfl) rfl rfl ?_
 refine aq (aH rfl rfl) rfl rfl ?_
 refine aa ?_
 refine aj ?_
 refine aA rfl ?_
 refine ap ?_
 refine ae ?_
 refine aq (ai rfl) rfl rfl ?_
 refine aa ?_
 refine aj ?_
 refine aN ?_
 refine ax ?_
 refine aR (ts := [2]) rfl rfl rfl (fun w hw => ?_)
 exact ⟨by rw [ck_bad h1_1 (.inl h1_6)]; rfl, hw.base⟩
 refine au rfl rfl ?_
 refine aq (am rfl) rfl rfl ?_
 refine au rfl rfl ?_
 refine aq (aB fa_29_2 rfl) rfl rfl ?_
 refine au rfl rfl ?_
 refine aq (aC 0 ty_27 rfl rfl rfl) rfl rfl ?_
 refine au rfl rfl ?_
 refine aq (gD rfl rfl) rfl rfl ?_
 refine ay (t := 13) rfl (fun h1_10 => ?_) (fun h1_10 => ?_)
 refine au rfl rfl ?_
 refine aq (aF rfl rfl) rfl rfl ?_
 refine aq (aH rfl rfl) rfl rfl ?_
 refine aa ?_
 refine aj ?_
 refine aA rfl ?_
 refine ap ?_
 refine ae ?_
 refine aq (ai rfl) rfl rfl ?_
 refine aa ?_
 refine aj ?_
 refine aN ?_
 refine ax ?_
 refine aR (ts := [2]) rfl rfl rfl (fun w hw => ?_)
 exact ⟨by rw [ck_bad h1_1 (.inr h1_10)]; rfl, hw.base⟩
 refine au rfl rfl ?_
 refine aq (aF rfl rfl) rfl rfl ?_
 refine aq (aH rfl rfl) rfl rfl ?_
 refine aa ?_
 refine aj ?_
 refine aD rfl ?_
 refine aQ ?_
 refine aj ?_
 refine ap ?_
 refine ae ?_
 refine aq (ai rfl) rfl rfl ?_
 refine aa ?_
 refine aj ?_
 refine aN ?_
 refine aR (ts := [2]) rfl rfl rfl (fun w hw => ?_)
 exact ⟨by rw [ck_ok h1_6 h1_10]; rfl, hw.base⟩

theorem en {l : List Int} {k : Nat} (hk : k < l.length) (h : ¬ iH l k) : cU l = false := by
  simp only [cU, Bool.and_eq_false_iff, decide_eq_false_iff_not]
  exact .inl fun h2 => h (h2 k hk)
theorem gX {l : List Int} (h : ∀ i, i < l.length → iH l i) : cU l = decide (l.length ≤ 8) := by
  rw [cU, decide_eq_true h, Bool.true_and]
theorem fo {p : Nat → Prop} {k : Nat} (h : ∀ i, i < k → p i) (hk : p k) : ∀ i, i < k + 1 → p i := fun i hi => by
  by_cases e : i = k
  · rw [e]; exact hk
  · exact h i (by omega)

theorem c_entry_ports (l : List Int) (B : Option Addr) (d : Nat) (hl : l.length ≤ 1000000000000) : RC Tryz.prog 198 #[.slice B l.length d] [Ch.rd B 1 fh l] (α := Unit) (fun _ => .bool (cU l)) (fun _ => []) := by
 refine bK (args := [.slice B l.length d]) 35 Tryz.func198 rfl rfl rfl (fun w0 => ?_)
 refine ap ?_
 refine ae ?_
 refine aq (ai rfl) rfl rfl ?_
 refine aa ?_
 refine aj ?_
 refine ap ?_
 refine ap ?_
 refine ae ?_
 refine aq (am rfl) rfl rfl ?_
 refine aq (bg Tryz.underlying31 rfl) rfl rfl ?_
 refine aq (am rfl) rfl rfl ?_
 refine aa ?_
 refine aj ?_
 refine aS ?_
 refine cC (σ := Nat) [2, 3, 4, 7, 8, 9, 10, 11, 12, 13, 14, 15, 16, 17, 18, 19, 20, 21, 22, 23, 24, 25, 26, 27, 28, 29, 30, 31] (fun k => k ≤ l.length ∧ ∀ i, i < k → iH l i) (fun k => l.length - k) (fun k => [(7, .int .i64 k)]) (0) ?_ ⟨rfl, trivial⟩ (fun k hI => ?_)
 exact ⟨Nat.zero_le _, nofun⟩
 refine ap ?_
 refine ae ?_
 refine aq (bW rfl rfl) rfl rfl ?_
 refine ay (t := 8) rfl (fun h2_0 => ?_) (fun h2_0 => ?_)
 refine aa ?_
 refine aj ?_
 refine ap ?_
 refine aA rfl ?_
 refine aQ ?_
 refine aj ?_
 refine ap ?_
 refine aS ?_
 refine ap ?_
 refine ae ?_
 refine aq (am rfl) rfl rfl ?_
 refine aq (bB  Tryz.underlying31 cX rfl rfl (bF 0 rfl) rfl (by omega)) rfl rfl ?_
 refine aq (bZ fL (0 : Int) cX rfl (bF 0 rfl) (by omega) rfl rfl) rfl rfl ?_
 refine aq (ai rfl) rfl rfl ?_
 refine aq (ai rfl) rfl rfl ?_
 refine aa ?_
 refine aj ?_
 refine ap ?_
 refine ae ?_
 refine aq (am rfl) rfl rfl ?_
 refine aq (bW rfl rfl) rfl rfl ?_
 refine ay (t := 13) rfl (fun h4_1 => ?_) (fun h4_1 => ?_)
 refine aq (am rfl) rfl rfl ?_
 refine ar rfl rfl rfl rfl ?_
 refine ar rfl rfl rfl rfl ?_
 refine aq (aH rfl rfl) rfl rfl ?_
 refine aq (am rfl) rfl rfl ?_
 refine ar rfl rfl rfl rfl ?_
 refine ar rfl rfl rfl rfl ?_
 refine ar rfl rfl rfl rfl ?_
 refine cT rfl rfl rfl ?_
 refine cT rfl rfl rfl ?_
 refine cT rfl rfl rfl ?_
 refine cT rfl rfl rfl ?_
 refine cT rfl rfl rfl ?_
 refine cT rfl rfl rfl ?_
 refine cT rfl rfl rfl ?_
 refine ar rfl rfl rfl rfl ?_
 refine aq (aH rfl rfl) rfl rfl ?_
 refine aa ?_
 refine aj ?_
 refine aA rfl ?_
 refine ap ?_
 refine ae ?_
 refine aq (ai rfl) rfl rfl ?_
 refine aa ?_
 refine aj ?_
 refine aN ?_
 refine aJ ?_
 refine ax ?_
 refine bh ?_
 refine aJ ?_
 refine ax ?_
 refine aR (ts := [2]) rfl rfl rfl (fun w hw => ?_)
 focus first
   | exact ⟨(), by rw [en (k := k) (by omega) (fun h => by have h1 := h.1; have h2 := h.2.1; have h3 := h.2.2; omega)]; rfl, hw.base, hw.toNews⟩
   | (have hk : k = l.length := by omega
      subst hk
      exact ⟨(), by rw [gX hI.2]; show Ending.returned (.bool _) = _; congr 2; rw [decide_eq_decide]; omega, hw.base, hw.toNews⟩)
 refine aq (am rfl) rfl rfl ?_
 refine au rfl rfl ?_
 refine aq (am rfl) rfl rfl ?_
 refine au rfl rfl ?_
 refine aq (dB rfl rfl) rfl rfl ?_
 refine ay (t := 16) rfl (fun h4_4 => ?_) (fun h4_4 => ?_)
 refine aq (aF rfl rfl) rfl rfl ?_
 refine aq (am rfl) rfl rfl ?_
 refine ar rfl rfl rfl rfl ?_
 refine ar rfl rfl rfl rfl ?_
 refine ar rfl rfl rfl rfl ?_
 refine cT rfl rfl rfl ?_
 refine cT rfl rfl rfl ?_
 refine cT rfl rfl rfl ?_
 refine cT rfl rfl rfl ?_
 refine cT rfl rfl rfl ?_
 refine cT rfl rfl rfl ?_
 refine cT rfl rfl rfl ?_
 refine ar rfl rfl rfl rfl ?_
 refine aq (aH rfl rfl) rfl rfl ?_
 refine aa ?_
 refine aj ?_
 refine aA rfl ?_
 refine ap ?_
 refine ae ?_
 refine aq (ai rfl) rfl rfl ?_
 refine aa ?_
 refine aj ?_
 refine aN ?_
 refine aJ ?_
 refine ax ?_
 refine bh ?_
 refine aJ ?_
 refine ax ?_
 refine aR (ts := [2]) rfl rfl rfl (fun w hw => ?_)
 focus first
   | exact ⟨(), by rw [en (k := k) (by omega) (fun h => by have h1 := h.1; have h2 := h.2.1; have h3 := h.2.2; omega)]; rfl, hw.base, hw.toNews⟩
   | (have hk : k = l.length := by omega
      subst hk
      exact ⟨(), by rw [gX hI.2]; show Ending.returned (.bool _) = _; congr 2; rw [decide_eq_decide]; omega, hw.base, hw.toNews⟩)
 refine aq (aF rfl rfl) rfl rfl ?_
 refine aq (am rfl) rfl rfl ?_
 refine au rfl rfl ?_
 refine aq (am rfl) rfl rfl ?_
 refine au rfl rfl ?_
 refine aq (dB rfl rfl) rfl rfl ?_
 refine ay (t := 20) rfl (fun h4_8 => ?_) (fun h4_8 => ?_)
 refine au rfl rfl ?_
 refine aq (am rfl) rfl rfl ?_
 refine au rfl rfl ?_
 refine aq (am rfl) rfl rfl ?_
 refine au rfl rfl ?_
 refine aq (am rfl) rfl rfl ?_
 refine au rfl rfl ?_
 refine aq (fd rfl rfl (by omega) (by omega)) rfl rfl ?_
 refine au rfl rfl ?_
 refine aq (bB (k := k - 1) Tryz.underlying31 cX rfl rfl (bF 0 rfl) (by omega) (by omega)) rfl rfl ?_
 refine au rfl rfl ?_
 refine aq (bZ fL (0 : Int) cX rfl (bF 0 rfl) (by omega) rfl rfl) rfl rfl ?_
 refine au rfl rfl ?_
 refine aq (am rfl) rfl rfl ?_
 refine au rfl rfl ?_
 refine aq (gD rfl rfl) rfl rfl ?_
 refine ay (t := 28) rfl (fun h4_16 => ?_) (fun h4_16 => ?_)
 refine au rfl rfl ?_
 refine aq (aH rfl rfl) rfl rfl ?_
 refine aq (aF rfl rfl) rfl rfl ?_
 refine aa ?_
 refine aj ?_
 refine aA rfl ?_
 refine ap ?_
 refine ae ?_
 refine aq (ai rfl) rfl rfl ?_
 refine aa ?_
 refine aj ?_
 refine aN ?_
 refine aJ ?_
 refine ax ?_
 refine bh ?_
 refine aJ ?_
 refine ax ?_
 refine aR (ts := [2]) rfl rfl rfl (fun w hw => ?_)
 focus first
   | exact ⟨(), by rw [en (k := k) (by omega) (fun h => by have h1 := h.1; have h2 := h.2.1; have h3 := h.2.2; omega)]; rfl, hw.base, hw.toNews⟩
   | (have hk : k = l.length := by omega
      subst hk
      exact ⟨(), by rw [gX hI.2]; show Ending.returned (.bool _) = _; congr 2; rw [decide_eq_decide]; omega, hw.base, hw.toNews⟩)
 refine au rfl rfl ?_
 refine aq (aH rfl rfl) rfl rfl ?_
 refine aq (aF rfl rfl) rfl rfl ?_
 refine aa ?_
 refine aj ?_
 refine aD rfl ?_
 refine aQ ?_
 refine bj ?_
 refine aj ?_
 refine ae ?_
 refine aq (br rfl rfl (by omega) (by omega)) rfl rfl ?_
 refine aq (am rfl) rfl rfl ?_
 refine aa ?_
 refine bv (k + 1) ?_ ?_ ⟨rfl, trivial⟩ (by repeat (first | exact trivial | refine ⟨rfl, ?_⟩)) aG
 exact ⟨by omega, fo hI.2 ⟨by omega, by omega, fun _ => by omega⟩⟩
 omega
 refine au rfl rfl ?_
 refine aq (am rfl) rfl rfl ?_
 refine ar rfl rfl rfl rfl ?_
 refine ar rfl rfl rfl rfl ?_
 refine ar rfl rfl rfl rfl ?_
 refine ar rfl rfl rfl rfl ?_
 refine ar rfl rfl rfl rfl ?_
 refine ar rfl rfl rfl rfl ?_
 refine ar rfl rfl rfl rfl ?_
 refine au rfl rfl ?_
 refine aq (aF rfl rfl) rfl rfl ?_
 refine aq (aF rfl rfl) rfl rfl ?_
 refine aa ?_
 refine aj ?_
 refine aD rfl ?_
 refine aQ ?_
 refine bj ?_
 refine aj ?_
 refine ae ?_
 refine aq (br rfl rfl (by omega) (by omega)) rfl rfl ?_
 refine aq (am rfl) rfl rfl ?_
 refine aa ?_
 refine bv (k + 1) ?_ ?_ ⟨rfl, trivial⟩ (by repeat (first | exact trivial | refine ⟨rfl, ?_⟩)) aG
 exact ⟨by omega, fo hI.2 ⟨by omega, by omega, fun _ => by omega⟩⟩
 omega
 refine aa ?_
 refine aj ?_
 refine ap ?_
 refine aD rfl ?_
 refine bJ ?_
 refine aV ?_
 refine aX ?_
 refine a8 ?_
 refine aj ?_
 refine ap ?_
 refine ae ?_
 refine aq (am rfl) rfl rfl ?_
 refine aq (bg Tryz.underlying31 rfl) rfl rfl ?_
 refine aq (ff rfl rfl) rfl rfl ?_
 refine aq (ai rfl) rfl rfl ?_
 refine aa ?_
 refine aj ?_
 refine aN ?_
 refine aR (ts := [2]) rfl rfl rfl (fun w hw => ?_)
 focus first
   | exact ⟨(), by rw [en (k := k) (by omega) (fun h => by have h1 := h.1; have h2 := h.2.1; have h3 := h.2.2; omega)]; rfl, hw.base, hw.toNews⟩
   | (have hk : k = l.length := by omega
      subst hk
      exact ⟨(), by rw [gX hI.2]; show Ending.returned (.bool _) = _; congr 2; rw [decide_eq_decide]; omega, hw.base, hw.toNews⟩)

theorem lkp_upd {α β : Type} [DecidableEq α] (a b : α) (v : β) : ∀ m : List (α × β), lkp (upd m a v) b = if b = a then some v else lkp m b
  | [] => by simp [upd, lkp]
  | (c, u) :: r => by
    simp only [upd]
    by_cases h : a = c
    · subst h
      rw [if_pos rfl]
      simp only [lkp]
      by_cases hb : b = a <;> simp [hb]
    · rw [if_neg h]
      simp only [lkp, lkp_upd a b v r]
      by_cases hb : b = c
      · subst hb
        have : ¬ b = a := fun e => h e.symm
        simp [this]
      · simp [hb]
theorem ads_bad {l : List Ad} {k : Nat} (hk : k < l.length) (h : ¬ adOk l k) : jH l = false := by
  have : ¬ ∀ i, i < l.length → adOk l i := fun h2 => h (h2 k hk)
  rw [jH, decide_eq_false this]; rfl
theorem ads_end {l : List Ad} (h : ∀ i, i < l.length → adOk l i) : jH l = (decide (1 ≤ l.length) && decide (l.length ≤ 8)) := by
  rw [jH, decide_eq_true h, Bool.true_and]
theorem mem_take {l : List Ad} {k : Nat} (hk : k ≤ l.length) (a : Ad) : a ∈ l.take k ↔ ∃ j, j < k ∧ a = l.getD j jZ := by
  rw [List.mem_take_iff_getElem]
  constructor
  · rintro ⟨i, h, e⟩
    exact ⟨i, by omega, by rw [← e]; simp [List.getD_eq_getElem?_getD, show i < l.length by omega]⟩
  · rintro ⟨j, h, e⟩
    exact ⟨j, by omega, by rw [e]; simp [List.getD_eq_getElem?_getD, show j < l.length by omega]⟩
/-- What the map of those that were seen holds. -/
def Seen (m : List (Ad × Bool)) (l : List Ad) (k : Nat) : Prop := ∀ a, lkp m a = if a ∈ l.take k then some true else none
theorem seen_zero (l : List Ad) : Seen [] l 0 := fun a => by simp [lkp]
theorem seen_succ {m : List (Ad × Bool)} {l : List Ad} {k : Nat} (h : Seen m l k) (hk : k < l.length) : Seen (upd m (l.getD k jZ) true) l (k + 1) := fun a => by
  rw [lkp_upd, h a, dh l jZ k hk]
  by_cases e : a = l.getD k jZ
  · rw [if_pos e, if_pos (by simp only [List.mem_append, List.mem_singleton]; exact .inr e)]
  · rw [if_neg e]
    have h2 : (a ∈ l.take k ++ [l.getD k jZ]) ↔ a ∈ l.take k := by
      simp only [List.mem_append, List.mem_singleton]
      exact ⟨fun h => h.resolve_right e, .inl⟩
    simp only [h2]
theorem seen_val {m : List (Ad × Bool)} {l : List Ad} {k : Nat} (h : Seen m l k) (a : Ad) : ((lkp m a).map fun b : Bool => Value.bool b).getD (.bool false) = .bool (decide (a ∈ l.take k)) := by
  rw [h a]; split
  · rename_i h1; rw [decide_eq_true h1]; rfl
  · rename_i h1; rw [decide_eq_false h1]; rfl
theorem mem_getA {l : List Ad} {k : Nat} (h : k < l.length) : l.getD k jZ ∈ l := aZ h

theorem c_entry_addrs (l : List Ad) (A : Option Addr) (c : Nat) (hl : l.length ≤ 1000000000000) (hw0 : ∀ a ∈ l, 0 ≤ a.lo) : RC Tryz.prog 233 #[.slice A l.length c] [Ch.rd A 3 gw l] (α := Unit) (fun _ => .bool (jH l)) (fun _ => []) := by
 refine bK (args := [.slice A l.length c]) 32 Tryz.func233 rfl rfl rfl (fun w0 => ?_)
 refine ap ?_
 refine ae ?_
 refine aq (ai rfl) rfl rfl ?_
 refine aa ?_
 refine aj ?_
 refine ap ?_
 refine ae ?_
 refine iT (fun a : Ad => .agg (gw a).toArray) (fun b : Bool => .bool b) rfl (fun r0 => ?_)
 refine aq (ai rfl) rfl rfl ?_
 refine aa ?_
 refine aj ?_
 refine ap ?_
 refine ap ?_
 refine ae ?_
 refine aq (am rfl) rfl rfl ?_
 refine aq (bg Tryz.underlying30 rfl) rfl rfl ?_
 refine aq (am rfl) rfl rfl ?_
 refine aa ?_
 refine aj ?_
 refine aS ?_
 refine dn (σ := Nat × List (Ad × Bool)) [2, 5, 9, 10, 11, 12, 13, 14, 15, 16, 17, 18, 19, 20, 21, 22, 23] (fun q => q.1 ≤ l.length ∧ (∀ i, i < q.1 → adOk l i) ∧ Seen q.2 l q.1) (fun q => l.length - q.1) (fun q => [(9, .int .i64 q.1)]) (fun q => Ch.mp r0 (fun a : Ad => .agg (gw a).toArray) (fun b : Bool => .bool b) q.2) ((0, [])) ?_ ⟨rfl, trivial⟩ rfl (fun q hI => ?_)
 exact ⟨Nat.zero_le _, nofun, seen_zero l⟩
 obtain ⟨k, m⟩ := q
 obtain ⟨hk, hall, hseen⟩ := hI
 dsimp only at hk hall hseen ⊢
 refine ap ?_
 refine ae ?_
 refine aq (bW rfl rfl) rfl rfl ?_
 refine ay (t := 10) rfl (fun h3_0 => ?_) (fun h3_0 => ?_)
 refine aa ?_
 refine aj ?_
 refine ap ?_
 refine aA rfl ?_
 refine aQ ?_
 refine aj ?_
 refine ap ?_
 refine aS ?_
 refine ap ?_
 refine ae ?_
 refine aq (bB  Tryz.underlying30 eh rfl rfl (bF 0 rfl) rfl (by omega)) rfl rfl ?_
 refine aq (b6 fT jZ eh rfl (bF 0 rfl) (by omega) rfl rfl rfl) rfl rfl ?_
 refine bH eh rfl rfl (fun b2 => ?_)
 refine aW eh rfl rfl rfl .z rfl rfl rfl rfl ?_
 refine aa ?_
 refine aj ?_
 refine ap ?_
 refine ap ?_
 refine ae ?_
 refine aq (am rfl) rfl rfl ?_
 refine aq (bu 0 eh rfl rfl rfl rfl) rfl rfl ?_
 refine aq (ix Tryz.underlying286 keyl_ad iu rfl rfl (fun w hw => hw.own _ (List.mem_of_getElem? (i := 1) rfl))) rfl rfl ?_
 refine eo (t := 15) (.bool (decide (l.getD k jZ ∈ l.take k))) rfl (seen_val hseen _) ?_
 refine bN (t := 15) rfl (fun h5_2 => ?_) (fun h5_2 => ?_)
 refine aq (am rfl) rfl rfl ?_
 refine ar rfl rfl rfl rfl ?_
 refine ar rfl rfl rfl rfl ?_
 refine ar rfl rfl rfl rfl ?_
 refine aq (aH rfl rfl) rfl rfl ?_
 refine aa ?_
 refine aj ?_
 refine aA rfl ?_
 refine ap ?_
 refine ae ?_
 refine aq (ai rfl) rfl rfl ?_
 refine aa ?_
 refine aj ?_
 refine aN ?_
 refine ax ?_
 refine aJ ?_
 refine ax ?_
 refine bh ?_
 refine aJ ?_
 refine ax ?_
 refine aR (ts := [2]) rfl rfl rfl (fun w hw => ?_)
 have hb : jH l = false := ads_bad (k := k) (by omega) (fun h => by obtain ⟨j, hj, e⟩ := (mem_take hk _).1 (of_decide_eq_true h5_2); exact h.2 j hj e)
 exact ⟨(), by rw [hb]; rfl, hw.base, (hw.weak (List.nil_sublist _) (fun s hs => hs)).toNews⟩
 refine aq (am rfl) rfl rfl ?_
 refine au rfl rfl ?_
 refine aq (bu 0 eh rfl rfl rfl rfl) rfl rfl ?_
 refine au rfl rfl ?_
 refine bD rfl ent_75 (c_addr_Check _ (hw0 _ (mem_getA (by omega)))) rfl ?_
 refine au rfl rfl ?_
 refine aq (cO rfl rfl) rfl rfl ?_
 refine ay (t := 19) rfl (fun h5_6 => ?_) (fun h5_6 => ?_)
 refine aq (aF rfl rfl) rfl rfl ?_
 refine aa ?_
 refine aj ?_
 refine aA rfl ?_
 refine ap ?_
 refine ae ?_
 refine aq (ai rfl) rfl rfl ?_
 refine aa ?_
 refine aj ?_
 refine aN ?_
 refine ax ?_
 refine aJ ?_
 refine ax ?_
 refine bh ?_
 refine aJ ?_
 refine ax ?_
 refine aR (ts := [2]) rfl rfl rfl (fun w hw => ?_)
 have hb : jH l = false := ads_bad (k := k) (by omega) (fun h => h5_6 h.1)
 exact ⟨(), by rw [hb]; rfl, hw.base, (hw.weak (List.nil_sublist _) (fun s hs => hs)).toNews⟩
 refine aq (aF rfl rfl) rfl rfl ?_
 refine aa ?_
 refine aj ?_
 refine aD rfl ?_
 refine aQ ?_
 refine aj ?_
 refine ae ?_
 refine aq (am rfl) rfl rfl ?_
 refine aq (bu 0 eh rfl rfl rfl rfl) rfl rfl ?_
 refine iI Tryz.underlying286 keyl_ad rfl rfl rfl (.s (.z)) ?_
 refine aa ?_
 refine bj ?_
 refine aj ?_
 refine ae ?_
 refine aq (br rfl rfl (by omega) (by omega)) rfl rfl ?_
 refine aq (am rfl) rfl rfl ?_
 refine aa ?_
 refine bv ((k + 1, upd m (l.getD k jZ) true)) ?_ ?_ ⟨rfl, trivial⟩ (by repeat (first | exact trivial | refine ⟨rfl, ?_⟩)) (bq 1)
 exact ⟨by show k + 1 ≤ _; omega, fo hall ⟨by omega, fun j hj e => of_decide_eq_false h5_2 ((mem_take (by omega) _).2 ⟨j, hj, e⟩)⟩, seen_succ hseen (by omega)⟩
 show l.length - (k + 1) < l.length - k
 omega
 refine aa ?_
 refine aj ?_
 refine ap ?_
 refine aD rfl ?_
 refine bJ ?_
 refine aV ?_
 refine aX ?_
 refine a8 ?_
 refine aj ?_
 refine ap ?_
 refine ae ?_
 refine aq (am rfl) rfl rfl ?_
 refine aq (bg Tryz.underlying30 rfl) rfl rfl ?_
 refine aq (gD rfl rfl) rfl rfl ?_
 refine ay (t := 26) rfl (fun h9_2 => ?_) (fun h9_2 => ?_)
 refine aq (am rfl) rfl rfl ?_
 refine au rfl rfl ?_
 refine aq (am rfl) rfl rfl ?_
 refine au rfl rfl ?_
 refine aq (bg Tryz.underlying30 rfl) rfl rfl ?_
 refine au rfl rfl ?_
 refine aq (ff rfl rfl) rfl rfl ?_
 refine aq (aH rfl rfl) rfl rfl ?_
 refine aq (ai rfl) rfl rfl ?_
 refine aa ?_
 refine aj ?_
 refine aN ?_
 refine aR (ts := [2]) rfl rfl rfl (fun w hw => ?_)
 obtain rfl : k = l.length := by omega
 exact ⟨(), by rw [ads_end hall, decide_eq_true (by omega : 1 ≤ l.length)]; show Ending.returned (.bool _) = _; congr 2; rw [Bool.true_and, decide_eq_decide]; omega, hw.base, (hw.weak (List.nil_sublist _) (fun s hs => hs)).toNews⟩
 refine aq (am rfl) rfl rfl ?_
 refine ar rfl rfl rfl rfl ?_
 refine ar rfl rfl rfl rfl ?_
 refine ar rfl rfl rfl rfl ?_
 refine aq (aF rfl rfl) rfl rfl ?_
 refine aq (ai rfl) rfl rfl ?_
 refine aa ?_
 refine aj ?_
 refine aN ?_
 refine aR (ts := [2]) rfl rfl rfl (fun w hw => ?_)
 obtain rfl : k = l.length := by omega
 exact ⟨(), by rw [ads_end hall, decide_eq_false (by omega : ¬ 1 ≤ l.length)]; rfl, hw.base, (hw.weak (List.nil_sublist _) (fun s hs => hs)).toNews⟩

theorem c_slHasPrefix (s t : a6) : eC Tryz.prog 263 #[.string (ba s), .string (ba t)] (.bool (decide (t <+: s))) := by
 intro w0
 refine bT (ok0 := no) (S := []) (args := [.string (ba s), .string (ba t)]) 18 Tryz.func263 rfl rfl rfl (by simp) (by simp) ?_
 refine ap ?_
 refine ae ?_
 refine aq (ai rfl) rfl rfl ?_
 refine aa ?_
 refine aj ?_
 refine ap ?_
 refine ae ?_
 refine aq (am rfl) rfl rfl ?_
 refine aq (dp Tryz.underlying9 rfl) rfl rfl ?_
 refine aq (am rfl) rfl rfl ?_
 refine aq (dp Tryz.underlying9 rfl) rfl rfl ?_
 refine aq (gD rfl rfl) rfl rfl ?_
 refine ay (t := 9) rfl (fun h1_4 => ?_) (fun h1_4 => ?_)
 refine aq (am rfl) rfl rfl ?_
 refine au rfl rfl ?_
 refine aq (am rfl) rfl rfl ?_
 refine au rfl rfl ?_
 refine aq (am rfl) rfl rfl ?_
 refine au rfl rfl ?_
 refine aq (dp Tryz.underlying9 rfl) rfl rfl ?_
 refine au rfl rfl ?_
 refine aq (y_slices_hi (n := t.length) Tryz.underlying9 rfl rfl (by omega) (by omega)) rfl rfl ?_
 refine au rfl rfl ?_
 refine aq (am rfl) rfl rfl ?_
 refine au rfl rfl ?_
 refine aq (eK rfl rfl) rfl rfl ?_
 refine aq (aH rfl rfl) rfl rfl ?_
 refine aq (ai rfl) rfl rfl ?_
 refine aa ?_
 refine aj ?_
 refine aN ?_
 refine aR (ts := [4]) rfl rfl rfl (fun w hw => ?_)
 refine ⟨?_, hw.base⟩
 show Ending.returned (.bool _) = _
 congr 2
 focus first
   | (rw [decide_eq_decide, List.prefix_iff_eq_take]; exact eq_comm)
   | (rw [decide_eq_false_iff_not]; intro h; have := h.length_le; omega)
   | (symm; rw [decide_eq_false_iff_not]; intro h; have := h.length_le; omega)
 refine aq (am rfl) rfl rfl ?_
 refine ar rfl rfl rfl rfl ?_
 refine ar rfl rfl rfl rfl ?_
 refine ar rfl rfl rfl rfl ?_
 refine ar rfl rfl rfl rfl ?_
 refine ar rfl rfl rfl rfl ?_
 refine ar rfl rfl rfl rfl ?_
 refine aq (aF rfl rfl) rfl rfl ?_
 refine aq (ai rfl) rfl rfl ?_
 refine aa ?_
 refine aj ?_
 refine aN ?_
 refine aR (ts := [4]) rfl rfl rfl (fun w hw => ?_)
 refine ⟨?_, hw.base⟩
 show Ending.returned (.bool _) = _
 congr 2
 focus first
   | (rw [decide_eq_decide, List.prefix_iff_eq_take]; exact eq_comm)
   | (rw [decide_eq_false_iff_not]; intro h; have := h.length_le; omega)
   | (symm; rw [decide_eq_false_iff_not]; intro h; have := h.length_le; omega)

theorem c_HasPrefix (s t : a6) : eC Tryz.prog 254 #[.string (ba s), .string (ba t)] (.bool (decide (t <+: s))) := by
 intro w0
 refine bT (ok0 := no) (S := []) (args := [.string (ba s), .string (ba t)]) 8 Tryz.func254 rfl rfl rfl (by simp) (by simp) ?_
 refine ap ?_
 refine ae ?_
 refine aq (ai rfl) rfl rfl ?_
 refine aa ?_
 refine aj ?_
 refine ap ?_
 refine ae ?_
 refine aq (am rfl) rfl rfl ?_
 refine aq (am rfl) rfl rfl ?_
 refine bD rfl ent_263 (c_slHasPrefix _ _) rfl ?_
 refine aq (ai rfl) rfl rfl ?_
 refine aa ?_
 refine aj ?_
 refine aN ?_
 refine aR (ts := [4]) rfl rfl rfl (fun w hw => ?_)
 exact ⟨rfl, hw.base⟩

theorem c_name_Wild (n : a6) : eC Tryz.prog 234 #[.string (ba n)] (.bool (iF n)) := by
 intro w0
 refine bT (ok0 := no) (S := []) (args := [.string (ba n)]) 10 Tryz.func234 rfl rfl rfl (by simp) (by simp) ?_
 refine ap ?_
 refine ae ?_
 refine aq (ai rfl) rfl rfl ?_
 refine aa ?_
 refine aj ?_
 refine ap ?_
 refine ae ?_
 refine aq (am rfl) rfl rfl ?_
 refine bD rfl ent_74 (eP _) rfl ?_
 refine aq (cY rfl rfl) rfl rfl ?_
 refine ay (t := 5) rfl (fun h1_2 => ?_) (fun h1_2 => ?_)
 refine aq (am rfl) rfl rfl ?_
 refine au rfl rfl ?_
 refine aq (am rfl) rfl rfl ?_
 refine au rfl rfl ?_
 refine bD rfl ent_254 (c_HasPrefix _ [1, 42]) rfl ?_
 refine aq (aH rfl rfl) rfl rfl ?_
 refine aq (ai rfl) rfl rfl ?_
 refine aa ?_
 refine aj ?_
 refine aN ?_
 refine aR (ts := [2]) rfl rfl rfl (fun w hw => ?_)
 refine ⟨?_, hw.base⟩
 show Ending.returned (.bool _) = _
 congr 2
 focus first
   | (rw [iF, decide_eq_true (by omega : bd n = 0), Bool.true_and])
   | (rw [iF, decide_eq_false (by omega : ¬ bd n = 0)]; rfl)
 refine aq (am rfl) rfl rfl ?_
 refine ar rfl rfl rfl rfl ?_
 refine ar rfl rfl rfl rfl ?_
 refine aq (aF rfl rfl) rfl rfl ?_
 refine aq (ai rfl) rfl rfl ?_
 refine aa ?_
 refine aj ?_
 refine aN ?_
 refine aR (ts := [2]) rfl rfl rfl (fun w hw => ?_)
 refine ⟨?_, hw.base⟩
 show Ending.returned (.bool _) = _
 congr 2
 focus first
   | (rw [iF, decide_eq_true (by omega : bd n = 0), Bool.true_and])
   | (rw [iF, decide_eq_false (by omega : ¬ bd n = 0)]; rfl)

theorem c_entry_may (e : En) (A B : Option Addr) (c d : Nat) (hwa : ∀ a ∈ e.addrs, 0 ≤ a.lo) (hla : e.addrs.length ≤ 1000000000000) (hlp : e.ports.length ≤ 1000000000000) (hk : -9223372036854775808 ≤ e.kind ∧ e.kind ≤ 9223372036854775807) : RC Tryz.prog 199 #[.agg (enC e A B c d).toArray] [Ch.rd A 3 gw e.addrs, Ch.rd B 1 fh e.ports] (α := Unit) (fun _ => .bool (aO e)) (fun _ => []) := by
 refine bK (args := [.agg (enC e A B c d).toArray]) 63 Tryz.func199 rfl rfl rfl (fun w0 => ?_)
 refine ap ?_
 refine ae ?_
 refine cL rfl rfl rfl (fun b1 => ?_)
 refine aq (ai rfl) rfl rfl ?_
 refine aa ?_
 refine aj ?_
 refine ap ?_
 refine ap ?_
 refine ae ?_
 refine aq (aB gH rfl) rfl rfl ?_
 refine aq (aC 0 cX rfl rfl rfl) rfl rfl ?_
 refine aa ?_
 refine aj ?_
 refine aS ?_
 refine ap ?_
 refine aS ?_
 refine ap ?_
 refine aS ?_
 refine ap ?_
 refine aS ?_
 refine ap ?_
 refine ap ?_
 refine ap ?_
 refine ae ?_
 refine aq (cY rfl rfl) rfl rfl ?_
 refine ay (t := 6) rfl (fun h2_0 => ?_) (fun h2_0 => ?_)
 refine aq (ai rfl) rfl rfl ?_
 refine aa ?_
 refine aj ?_
 refine aA rfl ?_
 refine bJ ?_
 refine aV ?_
 refine aV ?_
 refine a8 ?_
 refine aj ?_
 refine ap ?_
 refine ap ?_
 refine ae ?_
 refine aq (aB du rfl) rfl rfl ?_
 refine aq (aC 0 eF rfl rfl rfl) rfl rfl ?_
 refine bA rfl ent_233 rfl (c_entry_addrs _ _ _ (by omega) hwa) (fun w hw => (az (bo 0 rfl hw) aY)) ?_
 refine bN (t := 13) rfl (fun h5_2 => ?_) (fun h5_2 => ?_)
 refine aq (bS rfl) rfl rfl ?_
 refine aa ?_
 refine aj ?_
 refine aD rfl ?_
 refine aQ ?_
 refine aj ?_
 refine ae ?_
 refine aq (aB du rfl) rfl rfl ?_
 refine aW eF rfl rfl rfl .z rfl rfl rfl rfl ?_
 refine aa ?_
 refine bj ?_
 refine aj ?_
 refine ap ?_
 refine ap ?_
 refine ae ?_
 refine aq (aB du rfl) rfl rfl ?_
 refine aq (aC 0 eF rfl rfl rfl) rfl rfl ?_
 refine aq (bg Tryz.underlying30 rfl) rfl rfl ?_
 refine aq (cY rfl rfl) rfl rfl ?_
 refine ay (t := 19) rfl (fun h8_3 => ?_) (fun h8_3 => ?_)
 refine aq (am rfl) rfl rfl ?_
 refine au rfl rfl ?_
 refine aq (aB ez rfl) rfl rfl ?_
 refine au rfl rfl ?_
 refine aq (aC 0 bE rfl rfl rfl) rfl rfl ?_
 refine au rfl rfl ?_
 refine aq (eK rfl rfl) rfl rfl ?_
 refine ay (t := 23) rfl (fun h8_7 => ?_) (fun h8_7 => ?_)
 refine aq (aH rfl rfl) rfl rfl ?_
 refine aq (am rfl) rfl rfl ?_
 refine au rfl rfl ?_
 refine aq (aB fx rfl) rfl rfl ?_
 refine au rfl rfl ?_
 refine aq (aC 0 cI rfl rfl rfl) rfl rfl ?_
 refine au rfl rfl ?_
 refine bD rfl ent_205 (gL _) rfl ?_
 refine au rfl rfl ?_
 refine aq (cY rfl rfl) rfl rfl ?_
 refine aq (aH rfl rfl) rfl rfl ?_
 refine aq (ai rfl) rfl rfl ?_
 refine aa ?_
 refine aj ?_
 refine aN ?_
 refine ax ?_
 refine aJ ?_
 refine ax ?_
 refine aJ ?_
 refine ax ?_
 refine aR (ts := [2]) rfl rfl rfl (fun w hw => ?_)
 refine ⟨(), ?_, hw.base, (hw.weak (List.nil_sublist _) (fun s hs => hs)).toNews⟩
 show Ending.returned (.bool _) = _
 congr 2
 focus first
   | (exfalso; omega)
   | (simp [aO, *]
      done)
   | (have q0 : e.addrs = [] := List.length_eq_zero_iff.1 (by omega)
      simp [aO, *]
      done)
   | (have q0 : ¬ e.addrs = [] := by
        intro h; have h9 := congrArg List.length h; rw [List.length_nil] at h9; omega
      simp [aO, *]
      done)
   | (have q0 : e.ports = [] := List.length_eq_zero_iff.1 (by omega)
      simp [aO, *]
      done)
   | (have q0 : ¬ e.ports = [] := by
        intro h; have h9 := congrArg List.length h; rw [List.length_nil] at h9; omega
      simp [aO, *]
      done)
   | (have q0 : e.addrs = [] := List.length_eq_zero_iff.1 (by omega)
      have q1 : e.ports = [] := List.length_eq_zero_iff.1 (by omega)
      simp [aO, *]
      done)
   | (have q0 : e.addrs = [] := List.length_eq_zero_iff.1 (by omega)
      have q1 : ¬ e.ports = [] := by
        intro h; have h9 := congrArg List.length h; rw [List.length_nil] at h9; omega
      simp [aO, *]
      done)
   | (have q0 : ¬ e.addrs = [] := by
        intro h; have h9 := congrArg List.length h; rw [List.length_nil] at h9; omega
      have q1 : e.ports = [] := List.length_eq_zero_iff.1 (by omega)
      simp [aO, *]
      done)
   | (have q0 : ¬ e.addrs = [] := by
        intro h; have h9 := congrArg List.length h; rw [List.length_nil] at h9; omega
      have q1 : ¬ e.ports = [] := by
        intro h; have h9 := congrArg List.length h; rw [List.length_nil] at h9; omega
      simp [aO, *]
      done)
   | (trace_state; fail)
 refine aq (aH rfl rfl) rfl rfl ?_
 refine aq (am rfl) rfl rfl ?_
 refine ar rfl rfl rfl rfl ?_
 refine ar rfl rfl rfl rfl ?_
 refine ar rfl rfl rfl rfl ?_
 refine ar rfl rfl rfl rfl ?_
 refine aq (aF rfl rfl) rfl rfl ?_
 refine aq (ai rfl) rfl rfl ?_
 refine aa ?_
 refine aj ?_
 refine aN ?_
 refine ax ?_
 refine aJ ?_
 refine ax ?_
 refine aJ ?_
 refine ax ?_
 refine aR (ts := [2]) rfl rfl rfl (fun w hw => ?_)
 refine ⟨(), ?_, hw.base, (hw.weak (List.nil_sublist _) (fun s hs => hs)).toNews⟩
 show Ending.returned (.bool _) = _
 congr 2
 focus first
   | (exfalso; omega)
   | (simp [aO, *]
      done)
   | (have q0 : e.addrs = [] := List.length_eq_zero_iff.1 (by omega)
      simp [aO, *]
      done)
   | (have q0 : ¬ e.addrs = [] := by
        intro h; have h9 := congrArg List.length h; rw [List.length_nil] at h9; omega
      simp [aO, *]
      done)
   | (have q0 : e.ports = [] := List.length_eq_zero_iff.1 (by omega)
      simp [aO, *]
      done)
   | (have q0 : ¬ e.ports = [] := by
        intro h; have h9 := congrArg List.length h; rw [List.length_nil] at h9; omega
      simp [aO, *]
      done)
   | (have q0 : e.addrs = [] := List.length_eq_zero_iff.1 (by omega)
      have q1 : e.ports = [] := List.length_eq_zero_iff.1 (by omega)
      simp [aO, *]
      done)
   | (have q0 : e.addrs = [] := List.length_eq_zero_iff.1 (by omega)
      have q1 : ¬ e.ports = [] := by
        intro h; have h9 := congrArg List.length h; rw [List.length_nil] at h9; omega
      simp [aO, *]
      done)
   | (have q0 : ¬ e.addrs = [] := by
        intro h; have h9 := congrArg List.length h; rw [List.length_nil] at h9; omega
      have q1 : e.ports = [] := List.length_eq_zero_iff.1 (by omega)
      simp [aO, *]
      done)
   | (have q0 : ¬ e.addrs = [] := by
        intro h; have h9 := congrArg List.length h; rw [List.length_nil] at h9; omega
      have q1 : ¬ e.ports = [] := by
        intro h; have h9 := congrArg List.length h; rw [List.length_nil] at h9; omega
      simp [aO, *]
      done)
   | (trace_state; fail)
 refine aq (am rfl) rfl rfl ?_
 refine ar rfl rfl rfl rfl ?_
 refine ar rfl rfl rfl rfl ?_
 refine ar rfl rfl rfl rfl ?_
 refine aq (aF rfl rfl) rfl rfl ?_
 refine aq (am rfl) rfl rfl ?_
 refine ar rfl rfl rfl rfl ?_
 refine ar rfl rfl rfl rfl ?_
 refine ar rfl rfl rfl rfl ?_
 refine ar rfl rfl rfl rfl ?_
 refine aq (aF rfl rfl) rfl rfl ?_
 refine aq (ai rfl) rfl rfl ?_
 refine aa ?_
 refine aj ?_
 refine aN ?_
 refine ax ?_
 refine aJ ?_
 refine ax ?_
 refine aJ ?_
 refine ax ?_
 refine aR (ts := [2]) rfl rfl rfl (fun w hw => ?_)
 refine ⟨(), ?_, hw.base, (hw.weak (List.nil_sublist _) (fun s hs => hs)).toNews⟩
 show Ending.returned (.bool _) = _
 congr 2
 focus first
   | (exfalso; omega)
   | (simp [aO, *]
      done)
   | (have q0 : e.addrs = [] := List.length_eq_zero_iff.1 (by omega)
      simp [aO, *]
      done)
   | (have q0 : ¬ e.addrs = [] := by
        intro h; have h9 := congrArg List.length h; rw [List.length_nil] at h9; omega
      simp [aO, *]
      done)
   | (have q0 : e.ports = [] := List.length_eq_zero_iff.1 (by omega)
      simp [aO, *]
      done)
   | (have q0 : ¬ e.ports = [] := by
        intro h; have h9 := congrArg List.length h; rw [List.length_nil] at h9; omega
      simp [aO, *]
      done)
   | (have q0 : e.addrs = [] := List.length_eq_zero_iff.1 (by omega)
      have q1 : e.ports = [] := List.length_eq_zero_iff.1 (by omega)
      simp [aO, *]
      done)
   | (have q0 : e.addrs = [] := List.length_eq_zero_iff.1 (by omega)
      have q1 : ¬ e.ports = [] := by
        intro h; have h9 := congrArg List.length h; rw [List.length_nil] at h9; omega
      simp [aO, *]
      done)
   | (have q0 : ¬ e.addrs = [] := by
        intro h; have h9 := congrArg List.length h; rw [List.length_nil] at h9; omega
      have q1 : e.ports = [] := List.length_eq_zero_iff.1 (by omega)
      simp [aO, *]
      done)
   | (have q0 : ¬ e.addrs = [] := by
        intro h; have h9 := congrArg List.length h; rw [List.length_nil] at h9; omega
      have q1 : ¬ e.ports = [] := by
        intro h; have h9 := congrArg List.length h; rw [List.length_nil] at h9; omega
      simp [aO, *]
      done)
   | (trace_state; fail)
 refine aq (bS rfl) rfl rfl ?_
 refine aa ?_
 refine aj ?_
 refine aA rfl ?_
 refine ap ?_
 refine ae ?_
 refine aq (ai rfl) rfl rfl ?_
 refine aa ?_
 refine aj ?_
 refine aN ?_
 refine ax ?_
 refine aJ ?_
 refine ax ?_
 refine aJ ?_
 refine ax ?_
 refine aJ ?_
 refine ax ?_
 refine aR (ts := [2]) rfl rfl rfl (fun w hw => ?_)
 refine ⟨(), ?_, hw.base, (hw.weak (List.nil_sublist _) (fun s hs => hs)).toNews⟩
 show Ending.returned (.bool _) = _
 congr 2
 focus first
   | (exfalso; omega)
   | (simp [aO, *]
      done)
   | (have q0 : e.addrs = [] := List.length_eq_zero_iff.1 (by omega)
      simp [aO, *]
      done)
   | (have q0 : ¬ e.addrs = [] := by
        intro h; have h9 := congrArg List.length h; rw [List.length_nil] at h9; omega
      simp [aO, *]
      done)
   | (have q0 : e.ports = [] := List.length_eq_zero_iff.1 (by omega)
      simp [aO, *]
      done)
   | (have q0 : ¬ e.ports = [] := by
        intro h; have h9 := congrArg List.length h; rw [List.length_nil] at h9; omega
      simp [aO, *]
      done)
   | (have q0 : e.addrs = [] := List.length_eq_zero_iff.1 (by omega)
      have q1 : e.ports = [] := List.length_eq_zero_iff.1 (by omega)
      simp [aO, *]
      done)
   | (have q0 : e.addrs = [] := List.length_eq_zero_iff.1 (by omega)
      have q1 : ¬ e.ports = [] := by
        intro h; have h9 := congrArg List.length h; rw [List.length_nil] at h9; omega
      simp [aO, *]
      done)
   | (have q0 : ¬ e.addrs = [] := by
        intro h; have h9 := congrArg List.length h; rw [List.length_nil] at h9; omega
      have q1 : e.ports = [] := List.length_eq_zero_iff.1 (by omega)
      simp [aO, *]
      done)
   | (have q0 : ¬ e.addrs = [] := by
        intro h; have h9 := congrArg List.length h; rw [List.length_nil] at h9; omega
      have q1 : ¬ e.ports = [] := by
        intro h; have h9 := congrArg List.length h; rw [List.length_nil] at h9; omega
      simp [aO, *]
      done)
   | (trace_state; fail)
 refine aq (ai rfl) rfl rfl ?_
 refine aa ?_
 refine aj ?_
 refine aD rfl ?_
 refine aQ ?_
 refine aj ?_
 refine ap ?_
 refine ap ?_
 refine ae ?_
 refine aq (cY rfl rfl) rfl rfl ?_
 refine ay (t := 8) rfl (fun h3_0 => ?_) (fun h3_0 => ?_)
 refine aq (ai rfl) rfl rfl ?_
 refine aa ?_
 refine aj ?_
 refine aA rfl ?_
 refine bJ ?_
 refine aV ?_
 refine aV ?_
 refine fe rfl ?_
 refine aV ?_
 refine a8 ?_
 refine aj ?_
 refine ap ?_
 refine ap ?_
 refine ae ?_
 refine aq (aB du rfl) rfl rfl ?_
 refine aq (aC 0 eF rfl rfl rfl) rfl rfl ?_
 refine aq (bg Tryz.underlying30 rfl) rfl rfl ?_
 refine aq (cY rfl rfl) rfl rfl ?_
 refine ay (t := 19) rfl (fun h8_3 => ?_) (fun h8_3 => ?_)
 refine aq (am rfl) rfl rfl ?_
 refine au rfl rfl ?_
 refine aq (aB ez rfl) rfl rfl ?_
 refine au rfl rfl ?_
 refine aq (aC 0 bE rfl rfl rfl) rfl rfl ?_
 refine au rfl rfl ?_
 refine aq (eK rfl rfl) rfl rfl ?_
 refine ay (t := 23) rfl (fun h8_7 => ?_) (fun h8_7 => ?_)
 refine aq (aH rfl rfl) rfl rfl ?_
 refine aq (am rfl) rfl rfl ?_
 refine au rfl rfl ?_
 refine aq (aB fx rfl) rfl rfl ?_
 refine au rfl rfl ?_
 refine aq (aC 0 cI rfl rfl rfl) rfl rfl ?_
 refine au rfl rfl ?_
 refine bD rfl ent_205 (gL _) rfl ?_
 refine au rfl rfl ?_
 refine aq (cY rfl rfl) rfl rfl ?_
 refine aq (aH rfl rfl) rfl rfl ?_
 refine aq (ai rfl) rfl rfl ?_
 refine aa ?_
 refine aj ?_
 refine aN ?_
 refine ax ?_
 refine aJ ?_
 refine ax ?_
 refine aJ ?_
 refine ax ?_
 refine aR (ts := [2]) rfl rfl rfl (fun w hw => ?_)
 refine ⟨(), ?_, hw.base, (hw.weak (List.nil_sublist _) (fun s hs => hs)).toNews⟩
 show Ending.returned (.bool _) = _
 congr 2
 focus first
   | (exfalso; omega)
   | (simp [aO, *]
      done)
   | (have q0 : e.addrs = [] := List.length_eq_zero_iff.1 (by omega)
      simp [aO, *]
      done)
   | (have q0 : ¬ e.addrs = [] := by
        intro h; have h9 := congrArg List.length h; rw [List.length_nil] at h9; omega
      simp [aO, *]
      done)
   | (have q0 : e.ports = [] := List.length_eq_zero_iff.1 (by omega)
      simp [aO, *]
      done)
   | (have q0 : ¬ e.ports = [] := by
        intro h; have h9 := congrArg List.length h; rw [List.length_nil] at h9; omega
      simp [aO, *]
      done)
   | (have q0 : e.addrs = [] := List.length_eq_zero_iff.1 (by omega)
      have q1 : e.ports = [] := List.length_eq_zero_iff.1 (by omega)
      simp [aO, *]
      done)
   | (have q0 : e.addrs = [] := List.length_eq_zero_iff.1 (by omega)
      have q1 : ¬ e.ports = [] := by
        intro h; have h9 := congrArg List.length h; rw [List.length_nil] at h9; omega
      simp [aO, *]
      done)
   | (have q0 : ¬ e.addrs = [] := by
        intro h; have h9 := congrArg List.length h; rw [List.length_nil] at h9; omega
      have q1 : e.ports = [] := List.length_eq_zero_iff.1 (by omega)
      simp [aO, *]
      done)
   | (have q0 : ¬ e.addrs = [] := by
        intro h; have h9 := congrArg List.length h; rw [List.length_nil] at h9; omega
      have q1 : ¬ e.ports = [] := by
        intro h; have h9 := congrArg List.length h; rw [List.length_nil] at h9; omega
      simp [aO, *]
      done)
   | (trace_state; fail)
 refine aq (aH rfl rfl) rfl rfl ?_
 refine aq (am rfl) rfl rfl ?_
 refine ar rfl rfl rfl rfl ?_
 refine ar rfl rfl rfl rfl ?_
 refine ar rfl rfl rfl rfl ?_
 refine ar rfl rfl rfl rfl ?_
 refine aq (aF rfl rfl) rfl rfl ?_
 refine aq (ai rfl) rfl rfl ?_
 refine aa ?_
 refine aj ?_
 refine aN ?_
 refine ax ?_
 refine aJ ?_
 refine ax ?_
 refine aJ ?_
 refine ax ?_
 refine aR (ts := [2]) rfl rfl rfl (fun w hw => ?_)
 refine ⟨(), ?_, hw.base, (hw.weak (List.nil_sublist _) (fun s hs => hs)).toNews⟩
 show Ending.returned (.bool _) = _
 congr 2
 focus first
   | (exfalso; omega)
   | (simp [aO, *]
      done)
   | (have q0 : e.addrs = [] := List.length_eq_zero_iff.1 (by omega)
      simp [aO, *]
      done)
   | (have q0 : ¬ e.addrs = [] := by
        intro h; have h9 := congrArg List.length h; rw [List.length_nil] at h9; omega
      simp [aO, *]
      done)
   | (have q0 : e.ports = [] := List.length_eq_zero_iff.1 (by omega)
      simp [aO, *]
      done)
   | (have q0 : ¬ e.ports = [] := by
        intro h; have h9 := congrArg List.length h; rw [List.length_nil] at h9; omega
      simp [aO, *]
      done)
   | (have q0 : e.addrs = [] := List.length_eq_zero_iff.1 (by omega)
      have q1 : e.ports = [] := List.length_eq_zero_iff.1 (by omega)
      simp [aO, *]
      done)
   | (have q0 : e.addrs = [] := List.length_eq_zero_iff.1 (by omega)
      have q1 : ¬ e.ports = [] := by
        intro h; have h9 := congrArg List.length h; rw [List.length_nil] at h9; omega
      simp [aO, *]
      done)
   | (have q0 : ¬ e.addrs = [] := by
        intro h; have h9 := congrArg List.length h; rw [List.length_nil] at h9; omega
      have q1 : e.ports = [] := List.length_eq_zero_iff.1 (by omega)
      simp [aO, *]
      done)
   | (have q0 : ¬ e.addrs = [] := by
        intro h; have h9 := congrArg List.length h; rw [List.length_nil] at h9; omega
      have q1 : ¬ e.ports = [] := by
        intro h; have h9 := congrArg List.length h; rw [List.length_nil] at h9; omega
      simp [aO, *]
      done)
   | (trace_state; fail)
 refine aq (am rfl) rfl rfl ?_
 refine ar rfl rfl rfl rfl ?_
 refine ar rfl rfl rfl rfl ?_
 refine ar rfl rfl rfl rfl ?_
 refine aq (aF rfl rfl) rfl rfl ?_
 refine aq (am rfl) rfl rfl ?_
 refine ar rfl rfl rfl rfl ?_
 refine ar rfl rfl rfl rfl ?_
 refine ar rfl rfl rfl rfl ?_
 refine ar rfl rfl rfl rfl ?_
 refine aq (aF rfl rfl) rfl rfl ?_
 refine aq (ai rfl) rfl rfl ?_
 refine aa ?_
 refine aj ?_
 refine aN ?_
 refine ax ?_
 refine aJ ?_
 refine ax ?_
 refine aJ ?_
 refine ax ?_
 refine aR (ts := [2]) rfl rfl rfl (fun w hw => ?_)
 refine ⟨(), ?_, hw.base, (hw.weak (List.nil_sublist _) (fun s hs => hs)).toNews⟩
 show Ending.returned (.bool _) = _
 congr 2
 focus first
   | (exfalso; omega)
   | (simp [aO, *]
      done)
   | (have q0 : e.addrs = [] := List.length_eq_zero_iff.1 (by omega)
      simp [aO, *]
      done)
   | (have q0 : ¬ e.addrs = [] := by
        intro h; have h9 := congrArg List.length h; rw [List.length_nil] at h9; omega
      simp [aO, *]
      done)
   | (have q0 : e.ports = [] := List.length_eq_zero_iff.1 (by omega)
      simp [aO, *]
      done)
   | (have q0 : ¬ e.ports = [] := by
        intro h; have h9 := congrArg List.length h; rw [List.length_nil] at h9; omega
      simp [aO, *]
      done)
   | (have q0 : e.addrs = [] := List.length_eq_zero_iff.1 (by omega)
      have q1 : e.ports = [] := List.length_eq_zero_iff.1 (by omega)
      simp [aO, *]
      done)
   | (have q0 : e.addrs = [] := List.length_eq_zero_iff.1 (by omega)
      have q1 : ¬ e.ports = [] := by
        intro h; have h9 := congrArg List.length h; rw [List.length_nil] at h9; omega
      simp [aO, *]
      done)
   | (have q0 : ¬ e.addrs = [] := by
        intro h; have h9 := congrArg List.length h; rw [List.length_nil] at h9; omega
      have q1 : e.ports = [] := List.length_eq_zero_iff.1 (by omega)
      simp [aO, *]
      done)
   | (have q0 : ¬ e.addrs = [] := by
        intro h; have h9 := congrArg List.length h; rw [List.length_nil] at h9; omega
      have q1 : ¬ e.ports = [] := by
        intro h; have h9 := congrArg List.length h; rw [List.length_nil] at h9; omega
      simp [aO, *]
      done)
   | (trace_state; fail)
 refine aq (ai rfl) rfl rfl ?_
 refine aa ?_
 refine aj ?_
 refine aD rfl ?_
 refine aQ ?_
 refine aj ?_
 refine ap ?_
 refine ae ?_
 refine aq (cY rfl rfl) rfl rfl ?_
 refine ay (t := 10) rfl (fun h4_0 => ?_) (fun h4_0 => ?_)
 refine aq (ai rfl) rfl rfl ?_
 refine aa ?_
 refine aj ?_
 refine aA rfl ?_
 refine bJ ?_
 refine aV ?_
 refine fe rfl ?_
 refine aV ?_
 refine fe rfl ?_
 refine aV ?_
 refine a8 ?_
 refine aj ?_
 refine ap ?_
 refine ap ?_
 refine ae ?_
 refine aq (aB du rfl) rfl rfl ?_
 refine aq (aC 0 eF rfl rfl rfl) rfl rfl ?_
 refine aq (bg Tryz.underlying30 rfl) rfl rfl ?_
 refine aq (cY rfl rfl) rfl rfl ?_
 refine ay (t := 34) rfl (fun h9_3 => ?_) (fun h9_3 => ?_)
 refine aq (am rfl) rfl rfl ?_
 refine au rfl rfl ?_
 refine aq (aB dy rfl) rfl rfl ?_
 refine au rfl rfl ?_
 refine aq (aC 0 eN rfl rfl rfl) rfl rfl ?_
 refine au rfl rfl ?_
 refine aq (bg Tryz.underlying31 rfl) rfl rfl ?_
 refine au rfl rfl ?_
 refine aq (cY rfl rfl) rfl rfl ?_
 refine ay (t := 39) rfl (fun h9_8 => ?_) (fun h9_8 => ?_)
 refine aq (aH rfl rfl) rfl rfl ?_
 refine aq (am rfl) rfl rfl ?_
 refine au rfl rfl ?_
 refine aq (aB fx rfl) rfl rfl ?_
 refine au rfl rfl ?_
 refine aq (aC 0 cI rfl rfl rfl) rfl rfl ?_
 refine au rfl rfl ?_
 refine aq (eK rfl rfl) rfl rfl ?_
 refine ay (t := 44) rfl (fun h9_13 => ?_) (fun h9_13 => ?_)
 refine aq (aH rfl rfl) rfl rfl ?_
 refine aq (am rfl) rfl rfl ?_
 refine au rfl rfl ?_
 refine aq (aB ez rfl) rfl rfl ?_
 refine au rfl rfl ?_
 refine aq (aC 0 bE rfl rfl rfl) rfl rfl ?_
 refine au rfl rfl ?_
 refine aq (ju rfl rfl) rfl rfl ?_
 refine ay (t := 49) rfl (fun h9_18 => ?_) (fun h9_18 => ?_)
 refine aq (aH rfl rfl) rfl rfl ?_
 refine aq (am rfl) rfl rfl ?_
 refine au rfl rfl ?_
 refine aq (aB ez rfl) rfl rfl ?_
 refine au rfl rfl ?_
 refine aq (aC 0 bE rfl rfl rfl) rfl rfl ?_
 refine au rfl rfl ?_
 refine bD rfl ent_74 (eP _) rfl ?_
 refine au rfl rfl ?_
 refine aq (cY rfl rfl) rfl rfl ?_
 refine ay (t := 55) rfl (fun h9_24 => ?_) (fun h9_24 => ?_)
 refine aq (aH rfl rfl) rfl rfl ?_
 refine aq (am rfl) rfl rfl ?_
 refine au rfl rfl ?_
 refine aq (aB ez rfl) rfl rfl ?_
 refine au rfl rfl ?_
 refine aq (aC 0 bE rfl rfl rfl) rfl rfl ?_
 refine au rfl rfl ?_
 refine bD rfl ent_234 (c_name_Wild _) rfl ?_
 refine au rfl rfl ?_
 refine aq (bS rfl) rfl rfl ?_
 refine aq (aH rfl rfl) rfl rfl ?_
 refine aq (ai rfl) rfl rfl ?_
 refine aa ?_
 refine aj ?_
 refine aN ?_
 refine ax ?_
 refine aJ ?_
 refine ax ?_
 refine aR (ts := [2]) rfl rfl rfl (fun w hw => ?_)
 refine ⟨(), ?_, hw.base, (hw.weak (List.nil_sublist _) (fun s hs => hs)).toNews⟩
 show Ending.returned (.bool _) = _
 congr 2
 focus first
   | (exfalso; omega)
   | (simp [aO, *]
      done)
   | (have q0 : e.addrs = [] := List.length_eq_zero_iff.1 (by omega)
      simp [aO, *]
      done)
   | (have q0 : ¬ e.addrs = [] := by
        intro h; have h9 := congrArg List.length h; rw [List.length_nil] at h9; omega
      simp [aO, *]
      done)
   | (have q0 : e.ports = [] := List.length_eq_zero_iff.1 (by omega)
      simp [aO, *]
      done)
   | (have q0 : ¬ e.ports = [] := by
        intro h; have h9 := congrArg List.length h; rw [List.length_nil] at h9; omega
      simp [aO, *]
      done)
   | (have q0 : e.addrs = [] := List.length_eq_zero_iff.1 (by omega)
      have q1 : e.ports = [] := List.length_eq_zero_iff.1 (by omega)
      simp [aO, *]
      done)
   | (have q0 : e.addrs = [] := List.length_eq_zero_iff.1 (by omega)
      have q1 : ¬ e.ports = [] := by
        intro h; have h9 := congrArg List.length h; rw [List.length_nil] at h9; omega
      simp [aO, *]
      done)
   | (have q0 : ¬ e.addrs = [] := by
        intro h; have h9 := congrArg List.length h; rw [List.length_nil] at h9; omega
      have q1 : e.ports = [] := List.length_eq_zero_iff.1 (by omega)
      simp [aO, *]
      done)
   | (have q0 : ¬ e.addrs = [] := by
        intro h; have h9 := congrArg List.length h; rw [List.length_nil] at h9; omega
      have q1 : ¬ e.ports = [] := by
        intro h; have h9 := congrArg List.length h; rw [List.length_nil] at h9; omega
      simp [aO, *]
      done)
   | (trace_state; fail)
 refine aq (aH rfl rfl) rfl rfl ?_
 refine aq (am rfl) rfl rfl ?_
 refine ar rfl rfl rfl rfl ?_
 refine ar rfl rfl rfl rfl ?_
 refine ar rfl rfl rfl rfl ?_
 refine ar rfl rfl rfl rfl ?_
 refine aq (aF rfl rfl) rfl rfl ?_
 refine aq (ai rfl) rfl rfl ?_
 refine aa ?_
 refine aj ?_
 refine aN ?_
 refine ax ?_
 refine aJ ?_
 refine ax ?_
 refine aR (ts := [2]) rfl rfl rfl (fun w hw => ?_)
 refine ⟨(), ?_, hw.base, (hw.weak (List.nil_sublist _) (fun s hs => hs)).toNews⟩
 show Ending.returned (.bool _) = _
 congr 2
 focus first
   | (exfalso; omega)
   | (simp [aO, *]
      done)
   | (have q0 : e.addrs = [] := List.length_eq_zero_iff.1 (by omega)
      simp [aO, *]
      done)
   | (have q0 : ¬ e.addrs = [] := by
        intro h; have h9 := congrArg List.length h; rw [List.length_nil] at h9; omega
      simp [aO, *]
      done)
   | (have q0 : e.ports = [] := List.length_eq_zero_iff.1 (by omega)
      simp [aO, *]
      done)
   | (have q0 : ¬ e.ports = [] := by
        intro h; have h9 := congrArg List.length h; rw [List.length_nil] at h9; omega
      simp [aO, *]
      done)
   | (have q0 : e.addrs = [] := List.length_eq_zero_iff.1 (by omega)
      have q1 : e.ports = [] := List.length_eq_zero_iff.1 (by omega)
      simp [aO, *]
      done)
   | (have q0 : e.addrs = [] := List.length_eq_zero_iff.1 (by omega)
      have q1 : ¬ e.ports = [] := by
        intro h; have h9 := congrArg List.length h; rw [List.length_nil] at h9; omega
      simp [aO, *]
      done)
   | (have q0 : ¬ e.addrs = [] := by
        intro h; have h9 := congrArg List.length h; rw [List.length_nil] at h9; omega
      have q1 : e.ports = [] := List.length_eq_zero_iff.1 (by omega)
      simp [aO, *]
      done)
   | (have q0 : ¬ e.addrs = [] := by
        intro h; have h9 := congrArg List.length h; rw [List.length_nil] at h9; omega
      have q1 : ¬ e.ports = [] := by
        intro h; have h9 := congrArg List.length h; rw [List.length_nil] at h9; omega
      simp [aO, *]
      done)
   | (trace_state; fail)
 refine aq (aH rfl rfl) rfl rfl ?_
 refine aq (am rfl) rfl rfl ?_
 refine ar rfl rfl rfl rfl ?_
 refine ar rfl rfl rfl rfl ?_
 refine ar rfl rfl rfl rfl ?_
 refine ar rfl rfl rfl rfl ?_
 refine aq (aF rfl rfl) rfl rfl ?_
 refine aq (am rfl) rfl rfl ?_
 refine ar rfl rfl rfl rfl ?_
 refine ar rfl rfl rfl rfl ?_
 refine ar rfl rfl rfl rfl ?_
 refine ar rfl rfl rfl rfl ?_
 refine aq (aF rfl rfl) rfl rfl ?_
 refine aq (ai rfl) rfl rfl ?_
 refine aa ?_
 refine aj ?_
 refine aN ?_
 refine ax ?_
 refine aJ ?_
 refine ax ?_
 refine aR (ts := [2]) rfl rfl rfl (fun w hw => ?_)
 refine ⟨(), ?_, hw.base, (hw.weak (List.nil_sublist _) (fun s hs => hs)).toNews⟩
 show Ending.returned (.bool _) = _
 congr 2
 focus first
   | (exfalso; omega)
   | (simp [aO, *]
      done)
   | (have q0 : e.addrs = [] := List.length_eq_zero_iff.1 (by omega)
      simp [aO, *]
      done)
   | (have q0 : ¬ e.addrs = [] := by
        intro h; have h9 := congrArg List.length h; rw [List.length_nil] at h9; omega
      simp [aO, *]
      done)
   | (have q0 : e.ports = [] := List.length_eq_zero_iff.1 (by omega)
      simp [aO, *]
      done)
   | (have q0 : ¬ e.ports = [] := by
        intro h; have h9 := congrArg List.length h; rw [List.length_nil] at h9; omega
      simp [aO, *]
      done)
   | (have q0 : e.addrs = [] := List.length_eq_zero_iff.1 (by omega)
      have q1 : e.ports = [] := List.length_eq_zero_iff.1 (by omega)
      simp [aO, *]
      done)
   | (have q0 : e.addrs = [] := List.length_eq_zero_iff.1 (by omega)
      have q1 : ¬ e.ports = [] := by
        intro h; have h9 := congrArg List.length h; rw [List.length_nil] at h9; omega
      simp [aO, *]
      done)
   | (have q0 : ¬ e.addrs = [] := by
        intro h; have h9 := congrArg List.length h; rw [List.length_nil] at h9; omega
      have q1 : e.ports = [] := List.length_eq_zero_iff.1 (by omega)
      simp [aO, *]
      done)
   | (have q0 : ¬ e.addrs = [] := by
        intro h; have h9 := congrArg List.length h; rw [List.length_nil] at h9; omega
      have q1 : ¬ e.ports = [] := by
        intro h; have h9 := congrArg List.length h; rw [List.length_nil] at h9; omega
      simp [aO, *]
      done)
   | (trace_state; fail)
 refine aq (aH rfl rfl) rfl rfl ?_
 refine aq (am rfl) rfl rfl ?_
 refine ar rfl rfl rfl rfl ?_
 refine ar rfl rfl rfl rfl ?_
 refine ar rfl rfl rfl rfl ?_
 refine aq (aF rfl rfl) rfl rfl ?_
 refine aq (am rfl) rfl rfl ?_
 refine ar rfl rfl rfl rfl ?_
 refine ar rfl rfl rfl rfl ?_
 refine ar rfl rfl rfl rfl ?_
 refine ar rfl rfl rfl rfl ?_
 refine aq (aF rfl rfl) rfl rfl ?_
 refine aq (am rfl) rfl rfl ?_
 refine ar rfl rfl rfl rfl ?_
 refine ar rfl rfl rfl rfl ?_
 refine ar rfl rfl rfl rfl ?_
 refine ar rfl rfl rfl rfl ?_
 refine aq (aF rfl rfl) rfl rfl ?_
 refine aq (ai rfl) rfl rfl ?_
 refine aa ?_
 refine aj ?_
 refine aN ?_
 refine ax ?_
 refine aJ ?_
 refine ax ?_
 refine aR (ts := [2]) rfl rfl rfl (fun w hw => ?_)
 refine ⟨(), ?_, hw.base, (hw.weak (List.nil_sublist _) (fun s hs => hs)).toNews⟩
 show Ending.returned (.bool _) = _
 congr 2
 focus first
   | (exfalso; omega)
   | (simp [aO, *]
      done)
   | (have q0 : e.addrs = [] := List.length_eq_zero_iff.1 (by omega)
      simp [aO, *]
      done)
   | (have q0 : ¬ e.addrs = [] := by
        intro h; have h9 := congrArg List.length h; rw [List.length_nil] at h9; omega
      simp [aO, *]
      done)
   | (have q0 : e.ports = [] := List.length_eq_zero_iff.1 (by omega)
      simp [aO, *]
      done)
   | (have q0 : ¬ e.ports = [] := by
        intro h; have h9 := congrArg List.length h; rw [List.length_nil] at h9; omega
      simp [aO, *]
      done)
   | (have q0 : e.addrs = [] := List.length_eq_zero_iff.1 (by omega)
      have q1 : e.ports = [] := List.length_eq_zero_iff.1 (by omega)
      simp [aO, *]
      done)
   | (have q0 : e.addrs = [] := List.length_eq_zero_iff.1 (by omega)
      have q1 : ¬ e.ports = [] := by
        intro h; have h9 := congrArg List.length h; rw [List.length_nil] at h9; omega
      simp [aO, *]
      done)
   | (have q0 : ¬ e.addrs = [] := by
        intro h; have h9 := congrArg List.length h; rw [List.length_nil] at h9; omega
      have q1 : e.ports = [] := List.length_eq_zero_iff.1 (by omega)
      simp [aO, *]
      done)
   | (have q0 : ¬ e.addrs = [] := by
        intro h; have h9 := congrArg List.length h; rw [List.length_nil] at h9; omega
      have q1 : ¬ e.ports = [] := by
        intro h; have h9 := congrArg List.length h; rw [List.length_nil] at h9; omega
      simp [aO, *]
      done)
   | (trace_state; fail)
 refine aq (aH rfl rfl) rfl rfl ?_
 refine aq (am rfl) rfl rfl ?_
 refine ar rfl rfl rfl rfl ?_
 refine ar rfl rfl rfl rfl ?_
 refine ar rfl rfl rfl rfl ?_
 refine aq (aF rfl rfl) rfl rfl ?_
 refine aq (am rfl) rfl rfl ?_
 refine ar rfl rfl rfl rfl ?_
 refine ar rfl rfl rfl rfl ?_
 refine ar rfl rfl rfl rfl ?_
 refine aq (aF rfl rfl) rfl rfl ?_
 refine aq (am rfl) rfl rfl ?_
 refine ar rfl rfl rfl rfl ?_
 refine ar rfl rfl rfl rfl ?_
 refine ar rfl rfl rfl rfl ?_
 refine ar rfl rfl rfl rfl ?_
 refine aq (aF rfl rfl) rfl rfl ?_
 refine aq (am rfl) rfl rfl ?_
 refine ar rfl rfl rfl rfl ?_
 refine ar rfl rfl rfl rfl ?_
 refine ar rfl rfl rfl rfl ?_
 refine ar rfl rfl rfl rfl ?_
 refine aq (aF rfl rfl) rfl rfl ?_
 refine aq (ai rfl) rfl rfl ?_
 refine aa ?_
 refine aj ?_
 refine aN ?_
 refine ax ?_
 refine aJ ?_
 refine ax ?_
 refine aR (ts := [2]) rfl rfl rfl (fun w hw => ?_)
 refine ⟨(), ?_, hw.base, (hw.weak (List.nil_sublist _) (fun s hs => hs)).toNews⟩
 show Ending.returned (.bool _) = _
 congr 2
 focus first
   | (exfalso; omega)
   | (simp [aO, *]
      done)
   | (have q0 : e.addrs = [] := List.length_eq_zero_iff.1 (by omega)
      simp [aO, *]
      done)
   | (have q0 : ¬ e.addrs = [] := by
        intro h; have h9 := congrArg List.length h; rw [List.length_nil] at h9; omega
      simp [aO, *]
      done)
   | (have q0 : e.ports = [] := List.length_eq_zero_iff.1 (by omega)
      simp [aO, *]
      done)
   | (have q0 : ¬ e.ports = [] := by
        intro h; have h9 := congrArg List.length h; rw [List.length_nil] at h9; omega
      simp [aO, *]
      done)
   | (have q0 : e.addrs = [] := List.length_eq_zero_iff.1 (by omega)
      have q1 : e.ports = [] := List.length_eq_zero_iff.1 (by omega)
      simp [aO, *]
      done)
   | (have q0 : e.addrs = [] := List.length_eq_zero_iff.1 (by omega)
      have q1 : ¬ e.ports = [] := by
        intro h; have h9 := congrArg List.length h; rw [List.length_nil] at h9; omega
      simp [aO, *]
      done)
   | (have q0 : ¬ e.addrs = [] := by
        intro h; have h9 := congrArg List.length h; rw [List.length_nil] at h9; omega
      have q1 : e.ports = [] := List.length_eq_zero_iff.1 (by omega)
      simp [aO, *]
      done)
   | (have q0 : ¬ e.addrs = [] := by
        intro h; have h9 := congrArg List.length h; rw [List.length_nil] at h9; omega
      have q1 : ¬ e.ports = [] := by
        intro h; have h9 := congrArg List.length h; rw [List.length_nil] at h9; omega
      simp [aO, *]
      done)
   | (trace_state; fail)
 refine aq (am rfl) rfl rfl ?_
 refine ar rfl rfl rfl rfl ?_
 refine ar rfl rfl rfl rfl ?_
 refine ar rfl rfl rfl rfl ?_
 refine ar rfl rfl rfl rfl ?_
 refine aq (aF rfl rfl) rfl rfl ?_
 refine aq (am rfl) rfl rfl ?_
 refine ar rfl rfl rfl rfl ?_
 refine ar rfl rfl rfl rfl ?_
 refine ar rfl rfl rfl rfl ?_
 refine aq (aF rfl rfl) rfl rfl ?_
 refine aq (am rfl) rfl rfl ?_
 refine ar rfl rfl rfl rfl ?_
 refine ar rfl rfl rfl rfl ?_
 refine ar rfl rfl rfl rfl ?_
 refine aq (aF rfl rfl) rfl rfl ?_
 refine aq (am rfl) rfl rfl ?_
 refine ar rfl rfl rfl rfl ?_
 refine ar rfl rfl rfl rfl ?_
 refine ar rfl rfl rfl rfl ?_
 refine ar rfl rfl rfl rfl ?_
 refine aq (aF rfl rfl) rfl rfl ?_
 refine aq (am rfl) rfl rfl ?_
 refine ar rfl rfl rfl rfl ?_
 refine ar rfl rfl rfl rfl ?_
 refine ar rfl rfl rfl rfl ?_
 refine ar rfl rfl rfl rfl ?_
 refine aq (aF rfl rfl) rfl rfl ?_
 refine aq (ai rfl) rfl rfl ?_
 refine aa ?_
 refine aj ?_
 refine aN ?_
 refine ax ?_
 refine aJ ?_
 refine ax ?_
 refine aR (ts := [2]) rfl rfl rfl (fun w hw => ?_)
 refine ⟨(), ?_, hw.base, (hw.weak (List.nil_sublist _) (fun s hs => hs)).toNews⟩
 show Ending.returned (.bool _) = _
 congr 2
 focus first
   | (exfalso; omega)
   | (simp [aO, *]
      done)
   | (have q0 : e.addrs = [] := List.length_eq_zero_iff.1 (by omega)
      simp [aO, *]
      done)
   | (have q0 : ¬ e.addrs = [] := by
        intro h; have h9 := congrArg List.length h; rw [List.length_nil] at h9; omega
      simp [aO, *]
      done)
   | (have q0 : e.ports = [] := List.length_eq_zero_iff.1 (by omega)
      simp [aO, *]
      done)
   | (have q0 : ¬ e.ports = [] := by
        intro h; have h9 := congrArg List.length h; rw [List.length_nil] at h9; omega
      simp [aO, *]
      done)
   | (have q0 : e.addrs = [] := List.length_eq_zero_iff.1 (by omega)
      have q1 : e.ports = [] := List.length_eq_zero_iff.1 (by omega)
      simp [aO, *]
      done)
   | (have q0 : e.addrs = [] := List.length_eq_zero_iff.1 (by omega)
      have q1 : ¬ e.ports = [] := by
        intro h; have h9 := congrArg List.length h; rw [List.length_nil] at h9; omega
      simp [aO, *]
      done)
   | (have q0 : ¬ e.addrs = [] := by
        intro h; have h9 := congrArg List.length h; rw [List.length_nil] at h9; omega
      have q1 : e.ports = [] := List.length_eq_zero_iff.1 (by omega)
      simp [aO, *]
      done)
   | (have q0 : ¬ e.addrs = [] := by
        intro h; have h9 := congrArg List.length h; rw [List.length_nil] at h9; omega
      have q1 : ¬ e.ports = [] := by
        intro h; have h9 := congrArg List.length h; rw [List.length_nil] at h9; omega
      simp [aO, *]
      done)
   | (trace_state; fail)
 refine aq (ai rfl) rfl rfl ?_
 refine aa ?_
 refine aj ?_
 refine aD rfl ?_
 refine aQ ?_
 refine aj ?_
 refine bJ ?_
 refine fe rfl ?_
 refine aV ?_
 refine fe rfl ?_
 refine aV ?_
 refine fe rfl ?_
 refine aV ?_
 refine a8 ?_
 refine aj ?_
 refine ap ?_
 refine ae ?_
 refine aq (ai rfl) rfl rfl ?_
 refine aa ?_
 refine aj ?_
 refine aN ?_
 refine aR (ts := [2]) rfl rfl rfl (fun w hw => ?_)
 refine ⟨(), ?_, hw.base, (hw.weak (List.nil_sublist _) (fun s hs => hs)).toNews⟩
 show Ending.returned (.bool _) = _
 congr 2
 focus first
   | (exfalso; omega)
   | (simp [aO, *]
      done)
   | (have q0 : e.addrs = [] := List.length_eq_zero_iff.1 (by omega)
      simp [aO, *]
      done)
   | (have q0 : ¬ e.addrs = [] := by
        intro h; have h9 := congrArg List.length h; rw [List.length_nil] at h9; omega
      simp [aO, *]
      done)
   | (have q0 : e.ports = [] := List.length_eq_zero_iff.1 (by omega)
      simp [aO, *]
      done)
   | (have q0 : ¬ e.ports = [] := by
        intro h; have h9 := congrArg List.length h; rw [List.length_nil] at h9; omega
      simp [aO, *]
      done)
   | (have q0 : e.addrs = [] := List.length_eq_zero_iff.1 (by omega)
      have q1 : e.ports = [] := List.length_eq_zero_iff.1 (by omega)
      simp [aO, *]
      done)
   | (have q0 : e.addrs = [] := List.length_eq_zero_iff.1 (by omega)
      have q1 : ¬ e.ports = [] := by
        intro h; have h9 := congrArg List.length h; rw [List.length_nil] at h9; omega
      simp [aO, *]
      done)
   | (have q0 : ¬ e.addrs = [] := by
        intro h; have h9 := congrArg List.length h; rw [List.length_nil] at h9; omega
      have q1 : e.ports = [] := List.length_eq_zero_iff.1 (by omega)
      simp [aO, *]
      done)
   | (have q0 : ¬ e.addrs = [] := by
        intro h; have h9 := congrArg List.length h; rw [List.length_nil] at h9; omega
      have q1 : ¬ e.ports = [] := by
        intro h; have h9 := congrArg List.length h; rw [List.length_nil] at h9; omega
      simp [aO, *]
      done)
   | (trace_state; fail)

theorem gU {e : En} (h1 : ¬ bd e.host ≠ 0) (h2 : e.host = []) : 2 = cV e := by rw [cV, if_neg h1, if_pos (.inl h2)]

theorem jb (e : En) (A B : Option Addr) (c d : Nat) (hwa : ∀ a ∈ e.addrs, 0 ≤ a.lo) (hla : e.addrs.length ≤ 1000000000000) (hlp : e.ports.length ≤ 1000000000000) (hk : -9223372036854775808 ≤ e.kind ∧ e.kind ≤ 9223372036854775807) : RC Tryz.prog 138 #[.agg (enC e A B c d).toArray] [Ch.rd A 3 gw e.addrs, Ch.rd B 1 fh e.ports] (α := Unit) (fun _ => .int .i64 (cV e)) (fun _ => []) := by
 refine bK (args := [.agg (enC e A B c d).toArray]) 29 Tryz.func138 rfl rfl rfl (fun w0 => ?_)
 refine ap ?_
 refine ae ?_
 refine cL rfl rfl rfl (fun b1 => ?_)
 refine aq (ai rfl) rfl rfl ?_
 refine aa ?_
 refine aj ?_
 refine ap ?_
 refine ap ?_
 refine ae ?_
 refine aq (aB cM rfl) rfl rfl ?_
 refine aq (aC 0 bE rfl rfl rfl) rfl rfl ?_
 refine bD rfl ent_74 (eP _) rfl ?_
 refine aq (ai rfl) rfl rfl ?_
 refine aa ?_
 refine aj ?_
 refine ap ?_
 refine ae ?_
 refine aq (am rfl) rfl rfl ?_
 refine aq (cO rfl rfl) rfl rfl ?_
 refine ay (t := 8) rfl (fun h2_1 => ?_) (fun h2_1 => ?_)
 refine aa ?_
 refine aj ?_
 refine aA rfl ?_
 refine ap ?_
 refine ae ?_
 refine aq (am rfl) rfl rfl ?_
 refine aq (ai rfl) rfl rfl ?_
 refine aa ?_
 refine aj ?_
 refine aN ?_
 refine ax ?_
 refine aR (ts := [2]) rfl rfl rfl (fun w hw => ?_)
 refine ⟨(), ?_, hw.base, (hw.weak (List.nil_sublist _) (fun s hs => hs)).toNews⟩
 show Ending.returned (.int _ _) = _
 congr 2
 focus first
   | exact gU h2_1 h4_2
   | (simp [cV, *]
      done)
   | (have q1 : 2147483647 < e.ttl := by omega
      simp [cV, *]
      done)
   | (have q1 : ¬ 2147483647 < e.ttl := by omega
      simp [cV, *]
      done)
   | (trace_state; fail)
 refine aa ?_
 refine aj ?_
 refine aD rfl ?_
 refine aQ ?_
 refine aj ?_
 refine ap ?_
 refine ap ?_
 refine ae ?_
 refine aq (aB cM rfl) rfl rfl ?_
 refine aq (aC 0 bE rfl rfl rfl) rfl rfl ?_
 refine aq (eK rfl rfl) rfl rfl ?_
 refine ay (t := 12) rfl (fun h4_2 => ?_) (fun h4_2 => ?_)
 refine aq (am rfl) rfl rfl ?_
 refine ar rfl rfl rfl rfl ?_
 refine ar rfl rfl rfl rfl ?_
 refine ar rfl rfl rfl rfl ?_
 refine aq (aH rfl rfl) rfl rfl ?_
 refine aq (am rfl) rfl rfl ?_
 refine ar rfl rfl rfl rfl ?_
 refine ar rfl rfl rfl rfl ?_
 refine ar rfl rfl rfl rfl ?_
 refine ar rfl rfl rfl rfl ?_
 refine aq (aH rfl rfl) rfl rfl ?_
 refine aq (am rfl) rfl rfl ?_
 refine ar rfl rfl rfl rfl ?_
 refine ar rfl rfl rfl rfl ?_
 refine ar rfl rfl rfl rfl ?_
 refine aq (aH rfl rfl) rfl rfl ?_
 refine aa ?_
 refine aj ?_
 refine aA rfl ?_
 refine ap ?_
 refine ae ?_
 refine aq (ai rfl) rfl rfl ?_
 refine aa ?_
 refine aj ?_
 refine aN ?_
 refine ax ?_
 refine aR (ts := [2]) rfl rfl rfl (fun w hw => ?_)
 refine ⟨(), ?_, hw.base, (hw.weak (List.nil_sublist _) (fun s hs => hs)).toNews⟩
 show Ending.returned (.int _ _) = _
 congr 2
 focus first
   | exact gU h2_1 h4_2
   | (simp [cV, *]
      done)
   | (have q1 : 2147483647 < e.ttl := by omega
      simp [cV, *]
      done)
   | (have q1 : ¬ 2147483647 < e.ttl := by omega
      simp [cV, *]
      done)
   | (trace_state; fail)
 refine aq (am rfl) rfl rfl ?_
 refine au rfl rfl ?_
 refine aq (aB iZ rfl) rfl rfl ?_
 refine au rfl rfl ?_
 refine aq (aC 0 ty_32 rfl rfl rfl) rfl rfl ?_
 refine au rfl rfl ?_
 refine aq (dB rfl rfl) rfl rfl ?_
 refine ay (t := 16) rfl (fun h4_6 => ?_) (fun h4_6 => ?_)
 refine aq (aF rfl rfl) rfl rfl ?_
 refine aq (am rfl) rfl rfl ?_
 refine ar rfl rfl rfl rfl ?_
 refine ar rfl rfl rfl rfl ?_
 refine ar rfl rfl rfl rfl ?_
 refine ar rfl rfl rfl rfl ?_
 refine aq (aH rfl rfl) rfl rfl ?_
 refine aq (am rfl) rfl rfl ?_
 refine ar rfl rfl rfl rfl ?_
 refine ar rfl rfl rfl rfl ?_
 refine ar rfl rfl rfl rfl ?_
 refine aq (aH rfl rfl) rfl rfl ?_
 refine aa ?_
 refine aj ?_
 refine aA rfl ?_
 refine ap ?_
 refine ae ?_
 refine aq (ai rfl) rfl rfl ?_
 refine aa ?_
 refine aj ?_
 refine aN ?_
 refine ax ?_
 refine aR (ts := [2]) rfl rfl rfl (fun w hw => ?_)
 refine ⟨(), ?_, hw.base, (hw.weak (List.nil_sublist _) (fun s hs => hs)).toNews⟩
 show Ending.returned (.int _ _) = _
 congr 2
 focus first
   | exact gU h2_1 h4_2
   | (simp [cV, *]
      done)
   | (have q1 : 2147483647 < e.ttl := by omega
      simp [cV, *]
      done)
   | (have q1 : ¬ 2147483647 < e.ttl := by omega
      simp [cV, *]
      done)
   | (trace_state; fail)
 refine aq (aF rfl rfl) rfl rfl ?_
 refine aq (am rfl) rfl rfl ?_
 refine au rfl rfl ?_
 refine aq (aB dy rfl) rfl rfl ?_
 refine au rfl rfl ?_
 refine aq (aC 0 eN rfl rfl rfl) rfl rfl ?_
 refine au rfl rfl ?_
 refine bA rfl ent_198 rfl (c_entry_ports _ _ _ (by omega)) (fun w hw => (az (bo 1 rfl hw) aY)) ?_
 refine bN (t := 21) rfl (fun h4_11 => ?_) (fun h4_11 => ?_)
 refine au rfl rfl ?_
 refine aq (bS rfl) rfl rfl ?_
 refine aq (aF rfl rfl) rfl rfl ?_
 refine aq (am rfl) rfl rfl ?_
 refine au rfl rfl ?_
 refine aq (bu 0 aU rfl rfl rfl rfl) rfl rfl ?_
 refine au rfl rfl ?_
 refine bA rfl ent_199 rfl (c_entry_may _ _ _ _ _ hwa hla hlp hk) (fun w hw => (az (bo 0 rfl hw) (az (bo 1 rfl hw) aY))) ?_
 refine bN (t := 26) rfl (fun h4_16 => ?_) (fun h4_16 => ?_)
 refine au rfl rfl ?_
 refine aq (bS rfl) rfl rfl ?_
 refine aq (aF rfl rfl) rfl rfl ?_
 refine aa ?_
 refine aj ?_
 refine aD rfl ?_
 refine aQ ?_
 refine aj ?_
 refine ap ?_
 refine ae ?_
 refine aq (ai rfl) rfl rfl ?_
 refine aa ?_
 refine aj ?_
 refine aN ?_
 refine aR (ts := [2]) rfl rfl rfl (fun w hw => ?_)
 refine ⟨(), ?_, hw.base, (hw.weak (List.nil_sublist _) (fun s hs => hs)).toNews⟩
 show Ending.returned (.int _ _) = _
 congr 2
 focus first
   | exact gU h2_1 h4_2
   | (simp [cV, *]
      done)
   | (have q1 : 2147483647 < e.ttl := by omega
      simp [cV, *]
      done)
   | (have q1 : ¬ 2147483647 < e.ttl := by omega
      simp [cV, *]
      done)
   | (trace_state; fail)
 refine au rfl rfl ?_
 refine aq (bS rfl) rfl rfl ?_
 refine aq (aF rfl rfl) rfl rfl ?_
 refine aa ?_
 refine aj ?_
 refine aA rfl ?_
 refine ap ?_
 refine ae ?_
 refine aq (ai rfl) rfl rfl ?_
 refine aa ?_
 refine aj ?_
 refine aN ?_
 refine ax ?_
 refine aR (ts := [2]) rfl rfl rfl (fun w hw => ?_)
 refine ⟨(), ?_, hw.base, (hw.weak (List.nil_sublist _) (fun s hs => hs)).toNews⟩
 show Ending.returned (.int _ _) = _
 congr 2
 focus first
   | exact gU h2_1 h4_2
   | (simp [cV, *]
      done)
   | (have q1 : 2147483647 < e.ttl := by omega
      simp [cV, *]
      done)
   | (have q1 : ¬ 2147483647 < e.ttl := by omega
      simp [cV, *]
      done)
   | (trace_state; fail)
 refine au rfl rfl ?_
 refine aq (bS rfl) rfl rfl ?_
 refine aq (aF rfl rfl) rfl rfl ?_
 refine aq (am rfl) rfl rfl ?_
 refine ar rfl rfl rfl rfl ?_
 refine ar rfl rfl rfl rfl ?_
 refine ar rfl rfl rfl rfl ?_
 refine aq (aH rfl rfl) rfl rfl ?_
 refine aa ?_
 refine aj ?_
 refine aA rfl ?_
 refine ap ?_
 refine ae ?_
 refine aq (ai rfl) rfl rfl ?_
 refine aa ?_
 refine aj ?_
 refine aN ?_
 refine ax ?_
 refine aR (ts := [2]) rfl rfl rfl (fun w hw => ?_)
 refine ⟨(), ?_, hw.base, (hw.weak (List.nil_sublist _) (fun s hs => hs)).toNews⟩
 show Ending.returned (.int _ _) = _
 congr 2
 focus first
   | exact gU h2_1 h4_2
   | (simp [cV, *]
      done)
   | (have q1 : 2147483647 < e.ttl := by omega
      simp [cV, *]
      done)
   | (have q1 : ¬ 2147483647 < e.ttl := by omega
      simp [cV, *]
      done)
   | (trace_state; fail)

theorem rs_none {A : Option Addr} {n sz : Nat} {cs : List Value} {w : World} (h : RsP A n sz cs w) (hA : A.isNone = true) : n = 0 := by
  rcases h.at_ with h0 | ⟨b, o, rfl, _⟩
  · exact h0
  · cases hA
theorem c_Clone_ad (l : List Ad) (A : Option Addr) (c : Nat) (hl : l.length ≤ 1000000000000) : RC Tryz.prog 144 #[.slice A l.length c] [Ch.rd A 3 gw l] (α := Option Addr × Nat) (fun p => .slice p.1 l.length p.2) (fun p => [Ch.ls p.1 p.2 29 3 gw l]) := by
 refine bK (args := [.slice A l.length c]) 8 Tryz.func144 rfl rfl rfl (fun w0 => ?_)
 refine ap ?_
 refine ae ?_
 refine aq (ai rfl) rfl rfl ?_
 refine aa ?_
 refine aj ?_
 refine ap ?_
 refine ap ?_
 refine ae ?_
 refine aq (am rfl) rfl rfl ?_
 refine aq (y_eqsn Tryz.underlying30 rfl rfl) rfl rfl ?_
 refine bN (t := 4) rfl (fun h1_1 => ?_) (fun h1_1 => ?_)
 refine aa ?_
 refine aj ?_
 refine aA rfl ?_
 refine ap ?_
 refine ae ?_
 refine aq (ai rfl) rfl rfl ?_
 refine aa ?_
 refine aj ?_
 refine aN ?_
 refine ax ?_
 refine aR (ts := [2]) rfl rfl rfl (fun w hw => ?_)
 have hr : RsP A l.length 3 _ w := hw.sh _ List.mem_cons_self
 have h0 : l = [] := List.length_eq_zero_iff.1 (rs_none hr h1_1)
 subst h0
 exact ⟨(none, 0), rfl, hw.base, (hw.nilsl 29 3).toNews⟩
 refine aa ?_
 refine aj ?_
 refine aD rfl ?_
 refine aQ ?_
 refine aj ?_
 refine ap ?_
 refine ae ?_
 refine bY (vs := []) ([] : List (Ad)) fT Tryz.underlying30 eh rfl rfl rfl rfl rfl rfl (fun As1 => ?_)
 refine aq (am rfl) rfl rfl ?_
 refine cv (enc := gw) (sz := 3) l Tryz.underlying30 eh rfl rfl rfl (fun A c => .z) (je 0 Tryz.underlying30 rfl) (by simp only [List.length_cons, List.length_nil, Nat.zero_add]; omega) (by simp only [List.length_cons, List.length_nil, Nat.zero_add]; omega) rfl (fun A1 c1 => ?_)
 refine aq (ai rfl) rfl rfl ?_
 refine aa ?_
 refine aj ?_
 refine aN ?_
 refine aR (ts := [2]) rfl rfl rfl (fun w hw => ?_)
 exact ⟨(A1, c1), rfl, hw.base, hw.toNews⟩

theorem c_Clone_int (l : List Int) (A : Option Addr) (c : Nat) (hl : l.length ≤ 1000000000000) : RC Tryz.prog 145 #[.slice A l.length c] [Ch.rd A 1 fh l] (α := Option Addr × Nat) (fun p => .slice p.1 l.length p.2) (fun p => [Ch.ls p.1 p.2 3 1 fh l]) := by
 refine bK (args := [.slice A l.length c]) 8 Tryz.func145 rfl rfl rfl (fun w0 => ?_)
 refine ap ?_
 refine ae ?_
 refine aq (ai rfl) rfl rfl ?_
 refine aa ?_
 refine aj ?_
 refine ap ?_
 refine ap ?_
 refine ae ?_
 refine aq (am rfl) rfl rfl ?_
 refine aq (y_eqsn Tryz.underlying31 rfl rfl) rfl rfl ?_
 refine bN (t := 4) rfl (fun h1_1 => ?_) (fun h1_1 => ?_)
 refine aa ?_
 refine aj ?_
 refine aA rfl ?_
 refine ap ?_
 refine ae ?_
 refine aq (ai rfl) rfl rfl ?_
 refine aa ?_
 refine aj ?_
 refine aN ?_
 refine ax ?_
 refine aR (ts := [2]) rfl rfl rfl (fun w hw => ?_)
 have hr : RsP A l.length 1 _ w := hw.sh _ List.mem_cons_self
 have h0 : l = [] := List.length_eq_zero_iff.1 (rs_none hr h1_1)
 subst h0
 exact ⟨(none, 0), rfl, hw.base, (hw.nilsl 3 1).toNews⟩
 refine aa ?_
 refine aj ?_
 refine aD rfl ?_
 refine aQ ?_
 refine aj ?_
 refine ap ?_
 refine ae ?_
 refine bY (vs := []) ([] : List (Int)) fL Tryz.underlying31 cX rfl rfl rfl rfl rfl rfl (fun As1 => ?_)
 refine aq (am rfl) rfl rfl ?_
 refine cv (enc := fh) (sz := 1) l Tryz.underlying31 cX rfl rfl rfl (fun A c => .z) (je 0 Tryz.underlying31 rfl) (by simp only [List.length_cons, List.length_nil, Nat.zero_add]; omega) (by simp only [List.length_cons, List.length_nil, Nat.zero_add]; omega) rfl (fun A1 c1 => ?_)
 refine aq (ai rfl) rfl rfl ?_
 refine aa ?_
 refine aj ?_
 refine aN ?_
 refine aR (ts := [2]) rfl rfl rfl (fun w hw => ?_)
 exact ⟨(A1, c1), rfl, hw.base, hw.toNews⟩

theorem c_entry_Key (e : En) (A B : Option Addr) (c d : Nat) (hn : e.host.length ≤ 1000000000) : eC Tryz.prog 71 #[.agg (enC e A B c d).toArray] (.string (ba (a7 e.host))) := by
 intro w0
 refine bT (ok0 := no) (S := []) (args := [.agg (enC e A B c d).toArray]) 6 Tryz.func71 rfl rfl rfl (by simp) (by simp) ?_
 refine ap ?_
 refine ae ?_
 refine cL rfl rfl rfl (fun b1 => ?_)
 refine aq (ai rfl) rfl rfl ?_
 refine aa ?_
 refine aj ?_
 refine ap ?_
 refine ae ?_
 refine aq (aB cM rfl) rfl rfl ?_
 refine aq (aC 0 bE rfl rfl rfl) rfl rfl ?_
 refine bD rfl ent_73 (gx _ (by omega)) rfl ?_
 refine aq (ai rfl) rfl rfl ?_
 refine aa ?_
 refine aj ?_
 refine aN ?_
 refine aR (ts := [2]) rfl rfl rfl (fun w hw => ?_)
 exact ⟨rfl, hw.base⟩
end Go.Proofs.YtnpdgmoeoidppaaGreat
