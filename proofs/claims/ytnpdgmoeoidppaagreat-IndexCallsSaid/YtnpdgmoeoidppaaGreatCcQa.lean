import Derived.Test.YtnpdgmoeoidppaaGreatPaQa
import Derived.Test.YtnpdgmoeoidppaaGreatProg
import Derived.KernelRfl
/- label, name: the contracts -/
namespace Go.Proofs.YtnpdgmoeoidppaaGreat
open Go.RowKit Go.Shelf
set_option linter.unusedVariables false
set_option linter.unusedSimpArgs false

theorem ent_149 : Enters Tryz.prog 149 := enters_of Tryz.func149 (by kernel_rfl) rfl
theorem ent_201 : Enters Tryz.prog 201 := enters_of Tryz.func201 (by kernel_rfl) rfl
theorem ent_202 : Enters Tryz.prog 202 := enters_of Tryz.func202 (by kernel_rfl) rfl
theorem ent_203 : Enters Tryz.prog 203 := enters_of Tryz.func203 (by kernel_rfl) rfl
theorem ent_204 : Enters Tryz.prog 204 := enters_of Tryz.func204 (by kernel_rfl) rfl
theorem ent_235 : Enters Tryz.prog 235 := enters_of Tryz.func235 (by kernel_rfl) rfl
theorem ent_236 : Enters Tryz.prog 236 := enters_of Tryz.func236 (by kernel_rfl) rfl
theorem fK : Enters Tryz.prog 74 := enters_of Tryz.func74 (by kernel_rfl) rfl
theorem cu : Tryz.prog.follows .mixedOrders = true := by kernel_rfl
theorem ty_135 : TyI Tryz.prog 135 false 1 24 (.slice none 0 0) := TyI.mk' (by kernel_rfl) (fun _ => by kernel_rfl)
theorem bN : TyI Tryz.prog 26 false 1 16 (.string ⟨#[]⟩) := TyI.mk' (by kernel_rfl) (fun _ => by kernel_rfl)
theorem iV : TyI Tryz.prog 5 false 1 1 (.int .u8 0) := TyI.mk' (by kernel_rfl) (fun _ => by kernel_rfl)
theorem cB : TyI Tryz.prog 9 false 1 16 (.string ⟨#[]⟩) := TyI.mk' (by kernel_rfl) (fun _ => by kernel_rfl)

theorem gB (l : bf) : dQ Tryz.prog 205 #[.string (ba l)] (.int .i64 (fO l)) := by
 intro w0
 refine bH (ok0 := no) (S := []) (args := [.string (ba l)]) 12 Tryz.func205 rfl rfl rfl (by simp) (by simp) ?_
 refine ar ?_
 refine ai ?_
 refine au (ao rfl) rfl rfl ?_
 refine ah ?_
 refine aq ?_
 refine ar ?_
 refine ar ?_
 refine ai ?_
 refine au (ap rfl) rfl rfl ?_
 refine au (cL Tryz.underlying9 rfl) rfl rfl ?_
 refine au (ao rfl) rfl rfl ?_
 refine ah ?_
 refine aq ?_
 refine aW ?_
 refine ar ?_
 refine ai ?_
 refine au (ap rfl) rfl rfl ?_
 refine au (dk rfl rfl) rfl rfl ?_
 refine aB (t := 8) rfl (fun h2_1 => ?_) (fun h2_1 => ?_)
 refine au (ao rfl) rfl rfl ?_
 refine ah ?_
 refine aq ?_
 refine aA rfl ?_
 refine ar ?_
 refine ai ?_
 refine au (ao rfl) rfl rfl ?_
 refine ah ?_
 refine aq ?_
 refine aQ ?_
 refine aK ?_
 refine ay ?_
 refine aV (ts := [2]) rfl rfl rfl (fun w hw => ?_)
 exact ⟨congrArg _ (by show Value.int _ _ = _; unfold fO; congr 1; (repeat (first | rw [if_pos (by omega)] | rw [if_neg (by omega)]))), hw.base⟩
 refine au (ao rfl) rfl rfl ?_
 refine ah ?_
 refine aq ?_
 refine aC rfl ?_
 refine ar ?_
 refine ai ?_
 refine au (ap rfl) rfl rfl ?_
 refine au (c9 rfl rfl) rfl rfl ?_
 refine aB (t := 11) rfl (fun h4_1 => ?_) (fun h4_1 => ?_)
 refine au (ao rfl) rfl rfl ?_
 refine ah ?_
 refine aq ?_
 refine aA rfl ?_
 refine ar ?_
 refine ai ?_
 refine au (ao rfl) rfl rfl ?_
 refine ah ?_
 refine aq ?_
 refine aQ ?_
 refine aK ?_
 refine ay ?_
 refine aV (ts := [2]) rfl rfl rfl (fun w hw => ?_)
 exact ⟨congrArg _ (by show Value.int _ _ = _; unfold fO; congr 1; (repeat (first | rw [if_pos (by omega)] | rw [if_neg (by omega)]))), hw.base⟩
 refine au (ao rfl) rfl rfl ?_
 refine ah ?_
 refine aq ?_
 refine aC rfl ?_
 refine aS ?_
 refine bo ?_
 refine aq ?_
 refine ar ?_
 refine ai ?_
 refine au (ao rfl) rfl rfl ?_
 refine ah ?_
 refine aq ?_
 refine aQ ?_
 refine aV (ts := [2]) rfl rfl rfl (fun w hw => ?_)
 exact ⟨congrArg _ (by show Value.int _ _ = _; unfold fO; congr 1; (repeat (first | rw [if_pos (by omega)] | rw [if_neg (by omega)]))), hw.base⟩

theorem c_label_Fold1 (c : UInt8) : dQ Tryz.prog 203 #[.int .u8 c.toNat] (.int .u8 (er c).toNat) := by
 intro w0
 have hc := UInt8.toNat_lt c
 refine bH (ok0 := no) (S := []) (args := [.int .u8 c.toNat]) 13 Tryz.func203 rfl rfl rfl (by simp) (by simp) ?_
 refine ar ?_
 refine ai ?_
 refine au (ao rfl) rfl rfl ?_
 refine ah ?_
 refine aq ?_
 refine ar ?_
 refine ar ?_
 refine ai ?_
 refine au (ap rfl) rfl rfl ?_
 refine au (i5 rfl rfl) rfl rfl ?_
 refine aB (t := 4) rfl (fun h1_1 => ?_) (fun h1_1 => ?_)
 refine au (ap rfl) rfl rfl ?_
 refine az rfl rfl ?_
 refine au (ap rfl) rfl rfl ?_
 refine az rfl rfl ?_
 refine au (fp rfl rfl) rfl rfl ?_
 refine aB (t := 7) rfl (fun h1_4 => ?_) (fun h1_4 => ?_)
 refine au (aG rfl rfl) rfl rfl ?_
 refine ah ?_
 refine aq ?_
 refine aA rfl ?_
 refine ar ?_
 refine ai ?_
 refine au (ap rfl) rfl rfl ?_
 refine au (y_sub rfl rfl) rfl rfl ?_
 refine au (y_add rfl rfl) rfl rfl ?_
 refine au (ao rfl) rfl rfl ?_
 refine ah ?_
 refine aq ?_
 refine aQ ?_
 refine ay ?_
 refine aV (ts := [2]) rfl rfl rfl (fun w hw => ?_)
 exact ⟨congrArg _ (by show Value.int _ _ = _; congr 1; rw [gY (by rw [gY (by omega) (by omega)]; omega) (by rw [gY (by omega) (by omega)]; omega), gY (by omega) (by omega)]; unfold er; rw [if_pos (by omega)]; simp; omega), hw.base⟩
 refine au (aG rfl rfl) rfl rfl ?_
 refine ah ?_
 refine aq ?_
 refine aC rfl ?_
 refine aS ?_
 refine aq ?_
 refine ar ?_
 refine ai ?_
 refine au (ap rfl) rfl rfl ?_
 refine au (ao rfl) rfl rfl ?_
 refine ah ?_
 refine aq ?_
 refine aQ ?_
 refine aV (ts := [2]) rfl rfl rfl (fun w hw => ?_)
 exact ⟨congrArg _ (by show Value.int _ _ = _; congr 2; unfold er; rw [if_neg (by omega)]), hw.base⟩
 refine au (ap rfl) rfl rfl ?_
 refine ax rfl rfl rfl rfl ?_
 refine ax rfl rfl rfl rfl ?_
 refine au (aI rfl rfl) rfl rfl ?_
 refine ah ?_
 refine aq ?_
 refine aC rfl ?_
 refine aS ?_
 refine aq ?_
 refine ar ?_
 refine ai ?_
 refine au (ap rfl) rfl rfl ?_
 refine au (ao rfl) rfl rfl ?_
 refine ah ?_
 refine aq ?_
 refine aQ ?_
 refine aV (ts := [2]) rfl rfl rfl (fun w hw => ?_)
 exact ⟨congrArg _ (by show Value.int _ _ = _; congr 2; unfold er; rw [if_neg (by omega)]), hw.base⟩

theorem gh (t : UInt8 → UInt8) (l : bf) (k : Nat) (h : k < l.length) : ((l.take k).map t ++ l.drop k).set k (t (l.getD k 0)) = (l.take (k + 1)).map t ++ l.drop (k + 1) := by
  have e : l.getD k 0 = l[k] := by simp [List.getD_eq_getElem?_getD, h]
  have hk : k - ((l.take k).map t).length = 0 := by simp; omega
  rw [List.set_append_right _ _ (by simp; omega), hk, List.drop_eq_getElem_cons h, List.set_cons_zero, e, List.take_succ_eq_append_getElem h, List.map_append]
  simp
theorem map_at (t : UInt8 → UInt8) (l : bf) (k : Nat) (h : k < l.length) : ((l.take k).map t ++ l.drop k).getD k 0 = l.getD k 0 := by
  simp [List.getD_eq_getElem?_getD, List.getElem?_append_right, Nat.min_eq_left (Nat.le_of_lt h)]
theorem cM (t : UInt8 → UInt8) (l : bf) (k : Nat) : ((l.take k).map t ++ l.drop k).length = l.length := by simp; omega

theorem c_label_each (l : bf) (f : Nat) (t : UInt8 → UInt8) (hf : ∀ c, dQ Tryz.prog f #[.int .u8 c.toNat] (.int .u8 (t c).toNat)) (hen : Enters Tryz.prog f) (hl : l.length ≤ 1000000000000) : dQ Tryz.prog 204 #[.string (ba l), .func (.func f) #[] #[]] (.string (ba (l.map t))) := by
 intro w0
 refine bH (ok0 := no) (S := []) (args := [.string (ba l), .func (.func f) #[] #[]]) 26 Tryz.func204 rfl rfl rfl (by simp) (by simp) ?_
 refine ar ?_
 refine ai ?_
 refine au (ao rfl) rfl rfl ?_
 refine ah ?_
 refine aq ?_
 refine ar ?_
 refine ai ?_
 refine au (ap rfl) rfl rfl ?_
 refine o_s2b Tryz.underlying9 Tryz.underlying75 Tryz.underlying5 (by omega) rfl rfl (fun As1 cs1 => ?_)
 refine au (ao rfl) rfl rfl ?_
 refine ah ?_
 refine aq ?_
 refine ar ?_
 refine ar ?_
 refine ai ?_
 refine au (ap rfl) rfl rfl ?_
 refine au (bg Tryz.underlying75 rfl) rfl rfl ?_
 refine au (ap rfl) rfl rfl ?_
 refine ah ?_
 refine aq ?_
 refine aW ?_
 refine cP (σ := Nat) [5, 6, 7, 10, 12, 13, 14, 15, 16, 17, 18, 19, 20, 21, 22, 23] (fun k => k ≤ l.length) (fun k => l.length - k) (fun k => [(12, .int .i64 k), (10, .slice As1 ((l.take k).map t ++ l.drop k).length cs1), (5, .slice As1 ((l.take k).map t ++ l.drop k).length cs1)]) (fun k => Ch.ls As1 cs1 5 1 encb ((l.take k).map t ++ l.drop k)) (0) ?_ ⟨rfl, rfl, rfl, trivial⟩ rfl (fun k hI => ?_)
 exact Nat.zero_le _
 have hml := cM t l k
 refine ar ?_
 refine ai ?_
 refine au (bI rfl rfl) rfl rfl ?_
 refine aB (t := 13) rfl (fun h3_0 => ?_) (fun h3_0 => ?_)
 refine ah ?_
 refine aq ?_
 refine ar ?_
 refine aA rfl ?_
 refine aS ?_
 refine aq ?_
 refine ar ?_
 refine aW ?_
 refine ar ?_
 refine ai ?_
 refine au (ap rfl) rfl rfl ?_
 refine au (bz  Tryz.underlying75 iV rfl rfl (dg 0 rfl) rfl (by rw [cM]; omega)) rfl rfl ?_
 refine au (cf enc_b (0 : UInt8) iV rfl (dg 0 rfl) (by rw [cM]; omega) rfl rfl) rfl rfl ?_
 refine au (ao rfl) rfl rfl ?_
 refine au (ao rfl) rfl rfl ?_
 refine ah ?_
 refine aq ?_
 refine ai ?_
 refine au (ap rfl) rfl rfl ?_
 refine au (ap rfl) rfl rfl ?_
 refine au (ap rfl) rfl rfl ?_
 refine au (ap rfl) rfl rfl ?_
 refine o_callvp rfl rfl rfl hen (hf _) rfl ?_
 refine au (bz  Tryz.underlying75 iV rfl rfl (dg 0 rfl) rfl (by rw [cM]; omega)) rfl rfl ?_
 refine eS enc_b (0 : UInt8) _ iV rfl rfl rfl .z rfl (by rw [cM]; omega) rfl rfl rfl ?_
 refine ah ?_
 refine bo ?_
 refine aq ?_
 refine ai ?_
 refine au (bl rfl rfl (by omega) (by omega)) rfl rfl ?_
 refine au (ap rfl) rfl rfl ?_
 refine ah ?_
 have hk : k < l.length := by omega
 refine bq (k + 1) ?_ ?_ ⟨rfl, lk rfl (by rw [cM, cM]), lk rfl (by rw [cM, cM]), trivial⟩ (by repeat (first | exact trivial | refine ⟨rfl, ?_⟩)) (fun w h => by rw [map_at t l k hk, gh t l k hk] at h; exact h)
 omega
 omega
 refine ah ?_
 refine aq ?_
 refine ar ?_
 refine aC rfl ?_
 refine bw ?_
 refine aY ?_
 refine aZ ?_
 refine a7 ?_
 refine aq ?_
 refine ar ?_
 refine ai ?_
 refine au (ap rfl) rfl rfl ?_
 refine au (y_b2s Tryz.underlying75 Tryz.underlying9 Tryz.underlying5 rfl (dg 0 rfl)) rfl rfl ?_
 refine au (ao rfl) rfl rfl ?_
 refine ah ?_
 refine aq ?_
 refine aQ ?_
 refine aV (ts := [4]) rfl rfl rfl (fun w hw => ?_)
 obtain rfl : k = l.length := by omega
 exact ⟨by simp [eF], hw.base⟩

theorem hU (l : bf) (hl : l.length ≤ 1000000000000) : dQ Tryz.prog 147 #[.string (ba l)] (.string (ba (bB l))) := by
 intro w0
 refine bH (ok0 := no) (S := []) (args := [.string (ba l)]) 7 Tryz.func147 rfl rfl rfl (by simp) (by simp) ?_
 refine ar ?_
 refine ai ?_
 refine au (ao rfl) rfl rfl ?_
 refine ah ?_
 refine aq ?_
 refine ar ?_
 refine ai ?_
 refine au (ao rfl) rfl rfl ?_
 refine ah ?_
 refine aq ?_
 refine ar ?_
 refine ai ?_
 refine au (ap rfl) rfl rfl ?_
 refine au (ap rfl) rfl rfl ?_
 refine bb rfl ent_204 (c_label_each _ 203 er c_label_Fold1 ent_203 hl) rfl ?_
 refine au (ao rfl) rfl rfl ?_
 refine ah ?_
 refine aq ?_
 refine aQ ?_
 refine aV (ts := [2]) rfl rfl rfl (fun w hw => ?_)
 exact ⟨rfl, hw.base⟩

def cutL (n : bf) : bf := if cO n then lab n else []
def cutR (n : bf) : bf := if cO n then ef n else n
theorem cutR_lt {n : bf} (h : cO n = true) : (cutR n).length < n.length := by unfold cutR; rw [if_pos h]; exact fb h
theorem jl {n : bf} (h : cO n = true) : cutR n = ef n := if_pos h
theorem cutL_ok {n : bf} (h : cO n = true) : cutL n = lab n := if_pos h
theorem cut_no {n : bf} (h : n = [] ∨ bt n 0 < 1 ∨ 63 < bt n 0 ∨ n.length ≤ bt n 0) : cO n = false := by
  cases hq : cO n with
  | false => rfl
  | true =>
    obtain ⟨h0, h1, h2, h3⟩ := cutOk_iff.1 hq
    rcases h with h | h
    · exact absurd h h0
    · omega

set_option maxRecDepth 100000 in
theorem gZ (n : bf) : dQ Tryz.prog 149 #[.string (ba n)] (.tuple #[.string (ba (cutL n)), .string (ba (cutR n)), .bool (cO n)]) := by
 intro w0
 refine bH (ok0 := no) (S := []) (args := [.string (ba n)]) 32 Tryz.func149 rfl rfl rfl (by simp) (by simp) ?_
 refine ar ?_
 refine ai ?_
 refine au (ao rfl) rfl rfl ?_
 refine au (ao rfl) rfl rfl ?_
 refine au (ao rfl) rfl rfl ?_
 refine ah ?_
 refine aq ?_
 refine ar ?_
 refine ar ?_
 refine ai ?_
 refine au (ap rfl) rfl rfl ?_
 refine au (d8 rfl rfl) rfl rfl ?_
 refine aB (t := 7) rfl (fun h1_1 => ?_) (fun h1_1 => ?_)
 refine ah ?_
 refine aq ?_
 refine aA rfl ?_
 refine ar ?_
 refine ai ?_
 refine au (ao rfl) rfl rfl ?_
 refine au (ao rfl) rfl rfl ?_
 refine au (ao rfl) rfl rfl ?_
 refine ah ?_
 refine aq ?_
 refine aQ ?_
 refine ay ?_
 refine aV (ts := [2, 3, 4]) rfl rfl rfl (fun w hw => ?_)
 subst h1_1
 exact ⟨rfl, hw.base⟩
 refine ah ?_
 refine aq ?_
 refine aC rfl ?_
 refine aS ?_
 refine aq ?_
 refine ar ?_
 refine ai ?_
 refine au (ap rfl) rfl rfl ?_
 have hs := len_pos h1_1
 have hb := bt_lt n 0
 refine au (eG (k := 0) Tryz.underlying26 rfl rfl rfl (by omega)) rfl rfl ?_
 refine au (jQ Tryz.underlying5 Tryz.underlying3 rfl (jU (by omega) (by omega))) rfl rfl ?_
 refine au (ao rfl) rfl rfl ?_
 refine ah ?_
 refine aq ?_
 refine ar ?_
 refine ar ?_
 refine ai ?_
 refine au (ap rfl) rfl rfl ?_
 refine au (bI rfl rfl) rfl rfl ?_
 refine aB (t := 12) rfl (fun h4_1 => ?_) (fun h4_1 => ?_)
 refine au (ap rfl) rfl rfl ?_
 refine ax rfl rfl rfl rfl ?_
 refine ax rfl rfl rfl rfl ?_
 refine au (aG rfl rfl) rfl rfl ?_
 refine au (ap rfl) rfl rfl ?_
 refine ax rfl rfl rfl rfl ?_
 refine ax rfl rfl rfl rfl ?_
 refine ax rfl rfl rfl rfl ?_
 refine ax rfl rfl rfl rfl ?_
 refine au (aG rfl rfl) rfl rfl ?_
 refine ah ?_
 refine aq ?_
 refine aA rfl ?_
 refine ar ?_
 refine ai ?_
 refine au (ap rfl) rfl rfl ?_
 refine au (ao rfl) rfl rfl ?_
 refine au (ao rfl) rfl rfl ?_
 refine au (ao rfl) rfl rfl ?_
 refine ah ?_
 refine aq ?_
 refine aQ ?_
 refine ay ?_
 refine aV (ts := [2, 3, 4]) rfl rfl rfl (fun w hw => ?_)
 have hc := cut_no (n := n) (by omega)
 exact ⟨by simp [eF, cutL, cutR, hc], hw.base⟩
 refine au (ap rfl) rfl rfl ?_
 refine az rfl rfl ?_
 refine au (ap rfl) rfl rfl ?_
 refine az rfl rfl ?_
 refine au (c9 rfl rfl) rfl rfl ?_
 refine aB (t := 15) rfl (fun h4_4 => ?_) (fun h4_4 => ?_)
 refine au (aI rfl rfl) rfl rfl ?_
 refine au (ap rfl) rfl rfl ?_
 refine ax rfl rfl rfl rfl ?_
 refine ax rfl rfl rfl rfl ?_
 refine ax rfl rfl rfl rfl ?_
 refine ax rfl rfl rfl rfl ?_
 refine au (aG rfl rfl) rfl rfl ?_
 refine ah ?_
 refine aq ?_
 refine aA rfl ?_
 refine ar ?_
 refine ai ?_
 refine au (ap rfl) rfl rfl ?_
 refine au (ao rfl) rfl rfl ?_
 refine au (ao rfl) rfl rfl ?_
 refine au (ao rfl) rfl rfl ?_
 refine ah ?_
 refine aq ?_
 refine aQ ?_
 refine ay ?_
 refine aV (ts := [2, 3, 4]) rfl rfl rfl (fun w hw => ?_)
 have hc := cut_no (n := n) (by omega)
 exact ⟨by simp [eF, cutL, cutR, hc], hw.base⟩
 refine au (aI rfl rfl) rfl rfl ?_
 refine au (ap rfl) rfl rfl ?_
 refine az rfl rfl ?_
 refine au (ap rfl) rfl rfl ?_
 refine az rfl rfl ?_
 refine au (ap rfl) rfl rfl ?_
 refine az rfl rfl ?_
 refine au (cL Tryz.underlying26 rfl) rfl rfl ?_
 refine az rfl rfl ?_
 refine au (i5 rfl rfl) rfl rfl ?_
 refine aB (t := 21) rfl (fun h4_10 => ?_) (fun h4_10 => ?_)
 refine au (aI rfl rfl) rfl rfl ?_
 refine ah ?_
 refine aq ?_
 refine aA rfl ?_
 refine ar ?_
 refine ai ?_
 refine au (ap rfl) rfl rfl ?_
 refine au (ao rfl) rfl rfl ?_
 refine au (ao rfl) rfl rfl ?_
 refine au (ao rfl) rfl rfl ?_
 refine ah ?_
 refine aq ?_
 refine aQ ?_
 refine ay ?_
 refine aV (ts := [2, 3, 4]) rfl rfl rfl (fun w hw => ?_)
 have hc := cut_no (n := n) (by omega)
 exact ⟨by simp [eF, cutL, cutR, hc], hw.base⟩
 refine au (aI rfl rfl) rfl rfl ?_
 refine ah ?_
 refine aq ?_
 refine aC rfl ?_
 refine aS ?_
 refine aq ?_
 refine ar ?_
 refine dz 11 rfl cu ?_
 refine aF (i := 0) rfl aj (ap rfl) aE aE rfl (aa av) (by kernel_rfl) rfl ?_
 refine aF (i := 1) rfl aj (ap rfl) aE aE rfl (aa av) (by kernel_rfl) rfl ?_
 refine aF (i := 2) rfl aj (bl rfl rfl (by omega) (by omega)) aE aE rfl (aa av) (by kernel_rfl) rfl ?_
 refine aF (i := 3) rfl aj (y_slices (m := 1) (n := 1 + bt n 0) Tryz.underlying26 rfl rfl rfl rfl (by omega) (by omega) (by omega)) aE aE rfl (aa av) (by kernel_rfl) rfl ?_
 refine aF (i := 4) rfl aj (ap rfl) aE aE rfl (aa av) (by kernel_rfl) rfl ?_
 refine aF (i := 5) rfl aj (ap rfl) aE aE rfl (aa av) (by kernel_rfl) rfl ?_
 refine aF (i := 6) rfl aj (bl rfl rfl (by omega) (by omega)) aE aE rfl (aa av) (by kernel_rfl) rfl ?_
 refine aF (i := 7) rfl aj (y_slices_lo (m := 1 + bt n 0) Tryz.underlying26 rfl rfl (by omega) (by omega)) aE aE rfl (aa av) (by kernel_rfl) rfl ?_
 refine aF (i := 8) rfl aj (ao rfl) aE aE rfl (aa av) (by kernel_rfl) rfl ?_
 refine aF (i := 9) rfl aj (ao rfl) aE aE rfl (aa av) (by kernel_rfl) rfl ?_
 refine aF (i := 10) rfl aj (ao rfl) aE aE rfl (aa av) (by kernel_rfl) rfl ?_
 refine cp (by kernel_rfl) ?_
 refine aq ?_
 refine aQ ?_
 refine aV (ts := [2, 3, 4]) rfl rfl rfl (fun w hw => ?_)
 have hc : cO n = true := cutOk_iff.2 ⟨h1_1, by omega, by omega, by omega⟩
 exact ⟨by simp [eF, cutL, cutR, hc, lab, ef], hw.base⟩

theorem cX (n : bf) : dQ Tryz.prog 74 #[.string (ba n)] (.int .i64 (a8 n)) := by
 intro w0
 refine bH (ok0 := no) (S := []) (args := [.string (ba n)]) 20 Tryz.func74 rfl rfl rfl (by simp) (by simp) ?_
 refine ar ?_
 refine ai ?_
 refine au (ao rfl) rfl rfl ?_
 refine ah ?_
 refine aq ?_
 refine ar ?_
 refine ar ?_
 refine ai ?_
 refine au (ap rfl) rfl rfl ?_
 refine au (cL Tryz.underlying26 rfl) rfl rfl ?_
 refine au (c9 rfl rfl) rfl rfl ?_
 refine aB (t := 8) rfl (fun h1_2 => ?_) (fun h1_2 => ?_)
 refine ah ?_
 refine aq ?_
 refine aA rfl ?_
 refine ar ?_
 refine ai ?_
 refine au (ao rfl) rfl rfl ?_
 refine ah ?_
 refine aq ?_
 refine aQ ?_
 refine ay ?_
 refine aV (ts := [2]) rfl rfl rfl (fun w hw => ?_)
 exact ⟨by simp [eF, a8, show 254 < n.length by omega], hw.base⟩
 refine ah ?_
 refine aq ?_
 refine aC rfl ?_
 refine aS ?_
 refine aq ?_
 refine ar ?_
 refine aW ?_
 refine bV (σ := bf) [0, 2, 3, 4, 5, 9, 10, 11, 12, 13, 14, 15, 16, 17, 18, 19] (fun r => jk n = jk r) (fun r => r.length) (fun r => [(0, .string (ba r))]) (n) ?_ ⟨rfl, trivial⟩ (fun r hI => ?_)
 rfl
 refine ar ?_
 refine ar ?_
 refine ai ?_
 refine au (ap rfl) rfl rfl ?_
 refine au (jb rfl rfl) rfl rfl ?_
 refine aB (t := 10) rfl (fun h3_1 => ?_) (fun h3_1 => ?_)
 refine ah ?_
 refine aq ?_
 refine aA rfl ?_
 refine aS ?_
 refine aq ?_
 refine aW ?_
 refine ar ?_
 refine ai ?_
 refine au (ap rfl) rfl rfl ?_
 refine bb rfl ent_149 (gZ _) rfl ?_
 refine au (ap rfl) rfl rfl ?_
 refine au (aP rfl rfl) rfl rfl ?_
 refine au (aP rfl rfl) rfl rfl ?_
 refine au (aP rfl rfl) rfl rfl ?_
 refine bD (t := 16) rfl (fun h4_5 => ?_) (fun h4_5 => ?_)
 refine au (ao rfl) rfl rfl ?_
 refine au (ao rfl) rfl rfl ?_
 refine au (ao rfl) rfl rfl ?_
 refine ah ?_
 refine aq ?_
 refine ar ?_
 refine ar ?_
 refine ai ?_
 refine au (ap rfl) rfl rfl ?_
 refine au (bC rfl) rfl rfl ?_
 refine ah ?_
 refine aq ?_
 refine aC rfl ?_
 refine aS ?_
 refine aq ?_
 refine ai ?_
 refine au (ap rfl) rfl rfl ?_
 refine au (ao rfl) rfl rfl ?_
 refine ah ?_
 refine bo ?_
 refine bq (cutR r) ?_ ?_ ⟨rfl, trivial⟩ (by repeat (first | exact trivial | refine ⟨rfl, ?_⟩)) aE
 have hc := h4_5
 rw [hI, fx r, hc, jl hc]; simp [h3_1]
 have hc := h4_5
 exact cutR_lt hc
 refine au (ao rfl) rfl rfl ?_
 refine au (ao rfl) rfl rfl ?_
 refine au (ao rfl) rfl rfl ?_
 refine ah ?_
 refine aq ?_
 refine ar ?_
 refine ar ?_
 refine ai ?_
 refine au (ap rfl) rfl rfl ?_
 refine au (bC rfl) rfl rfl ?_
 refine ah ?_
 refine aq ?_
 refine aA rfl ?_
 refine ar ?_
 refine ai ?_
 refine au (ao rfl) rfl rfl ?_
 refine ah ?_
 refine aq ?_
 refine aQ ?_
 refine ay ?_
 refine aK ?_
 refine a9 ?_
 refine aK ?_
 refine ay ?_
 refine aV (ts := [2]) rfl rfl rfl (fun w hw => ?_)
 have hc := h4_5
 have ho : jk n = false := by rw [hI, fx, hc]; simp [h3_1]
 exact ⟨by simp [eF, a8, show ¬ 254 < n.length by omega, ho], hw.base⟩
 refine ah ?_
 refine aq ?_
 refine aC rfl ?_
 refine bw ?_
 refine aY ?_
 refine aZ ?_
 refine a7 ?_
 refine aq ?_
 refine ar ?_
 refine ai ?_
 refine au (ao rfl) rfl rfl ?_
 refine ah ?_
 refine aq ?_
 refine aQ ?_
 refine aV (ts := [2]) rfl rfl rfl (fun w hw => ?_)
 have ho : jk n = true := by rw [hI, show r = [] by simpa using h3_1]; rfl
 exact ⟨by simp [eF, a8, show ¬ 254 < n.length by omega, ho], hw.base⟩

theorem c_name_each (n : bf) : RC Tryz.prog 202 #[.string (ba n)] [] (α := Nat) (fun b => .func (.func 236) #[] #[.pointer (some ⟨b, 0, none⟩)]) (fun b => [Ch.row b [.string (ba n)] 26]) := by
 refine bx (args := [.string (ba n)]) 4 Tryz.func202 rfl rfl rfl (fun w0 => ?_)
 refine ar ?_
 refine ai ?_
 refine cv rfl rfl rfl (fun b1 => ?_)
 refine au (ao rfl) rfl rfl ?_
 refine ah ?_
 refine aq ?_
 refine ar ?_
 refine ai ?_
 refine au (y_makeFunc rfl rfl) rfl rfl ?_
 refine au (ao rfl) rfl rfl ?_
 refine ah ?_
 refine aq ?_
 refine aQ ?_
 refine aV (ts := [2]) rfl rfl rfl (fun w hw => ?_)
 exact ⟨b1, rfl, hw.base, (hw.weak (.cons_cons _ .slnil) (fun s hs => hs)).toNews⟩

theorem c_name_each1 (n : bf) (b : Nat) : Iter Tryz.prog 236 [.pointer (some ⟨b, 0, none⟩)] [Ch.row b [.string (ba n)] 26] d9 (dH n) := by
 refine iter_of_W 24 Tryz.func236 rfl rfl rfl (fun lr σ I Ix C Sc hy g0 hg0 w0 => ?_)
 refine ar ?_
 refine ai ?_
 refine au (cN 0 bN rfl rfl rfl) rfl rfl ?_
 refine bb rfl ent_149 (gZ _) rfl ?_
 refine au (ap rfl) rfl rfl ?_
 refine au (aP rfl rfl) rfl rfl ?_
 refine au (aP rfl rfl) rfl rfl ?_
 refine au (aP rfl rfl) rfl rfl ?_
 refine au (ao rfl) rfl rfl ?_
 refine au (ao rfl) rfl rfl ?_
 refine au (ao rfl) rfl rfl ?_
 refine ah ?_
 refine aq ?_
 refine aW ?_
 refine cP (σ := List bf × bf × σ) [3, 4, 5, 12, 13, 14, 15, 16, 17, 18, 19, 20, 21, 22, 23] (fun q => dH n = q.1 ++ dH q.2.1 ∧ I q.1 q.2.2) (fun q => q.2.1.length) (fun q => [(3, .string (ba (cutL q.2.1))), (4, .string (ba (cutR q.2.1))), (5, .bool (cO q.2.1))]) (fun q => C q.2.2) (([], n, g0)) ?_ ⟨rfl, rfl, rfl, trivial⟩ rfl (fun q hI => ?_)
 exact ⟨rfl, hg0⟩
 obtain ⟨pre, r, g⟩ := q
 obtain ⟨hxs, hI⟩ := hI
 dsimp only at hxs hI ⊢
 refine ar ?_
 refine ar ?_
 refine ai ?_
 refine au (ap rfl) rfl rfl ?_
 refine bD (t := 12) rfl (fun h1_0 => ?_) (fun h1_0 => ?_)
 have hx2 : dH n = pre ++ cutL r :: dH (ef r) := by rw [hxs, fj r, if_pos h1_0, cutL_ok h1_0]
 refine au (ap rfl) rfl rfl ?_
 refine az rfl rfl ?_
 refine au (ap rfl) rfl rfl ?_
 refine az rfl rfl ?_
 refine au (ap rfl) rfl rfl ?_
 refine az rfl rfl ?_
 refine o_yield rfl rfl (hy pre (cutL r) _ g hx2 hI) (fun _ => .z) (fun s hs => List.mem_append_right _ hs) rfl (fun g' hT => ?_) (fun g' hF => ?_)
 refine au (aG rfl rfl) rfl rfl ?_
 refine ah ?_
 refine aq ?_
 refine aA rfl ?_
 refine aS ?_
 refine aq ?_
 refine ar ?_
 refine aW ?_
 refine aS ?_
 refine bo ?_
 refine aq ?_
 refine ai ?_
 refine au (ap rfl) rfl rfl ?_
 refine bb rfl ent_149 (gZ _) rfl ?_
 refine au (ap rfl) rfl rfl ?_
 refine au (aP rfl rfl) rfl rfl ?_
 refine au (aP rfl rfl) rfl rfl ?_
 refine au (aP rfl rfl) rfl rfl ?_
 refine au (ao rfl) rfl rfl ?_
 refine au (ao rfl) rfl rfl ?_
 refine au (ao rfl) rfl rfl ?_
 refine ah ?_
 refine bq ((pre ++ [cutL r], cutR r, g')) ?_ ?_ ⟨rfl, rfl, rfl, trivial⟩ (by repeat (first | exact trivial | refine ⟨rfl, ?_⟩)) aE
 exact ⟨by rw [hx2, jl h1_0]; simp, hT⟩
 exact cutR_lt h1_0
 refine au (aG rfl rfl) rfl rfl ?_
 refine ah ?_
 refine aq ?_
 refine aC rfl ?_
 refine bw ?_
 refine aY ?_
 refine aZ ?_
 refine a7 ?_
 refine e_end (ts := []) rfl rfl rfl (fun w hw => ?_)
 exact gG _ (.inr ⟨_, dH (ef r), by rw [hx2]; simp, hF⟩) hw
 refine au (ap rfl) rfl rfl ?_
 refine ax rfl rfl rfl rfl ?_
 refine ax rfl rfl rfl rfl ?_
 refine ax rfl rfl rfl rfl ?_
 refine au (aI rfl rfl) rfl rfl ?_
 refine ah ?_
 refine aq ?_
 refine aC rfl ?_
 refine bw ?_
 refine aY ?_
 refine aZ ?_
 refine a7 ?_
 refine e_end (ts := []) rfl rfl rfl (fun w hw => ?_)
 have hr : dH r = [] := by rw [fj, if_neg (by rw [h1_0]; simp)]
 exact gG _ (.inl (by rw [hxs, hr, List.append_nil]; exact hI)) hw

theorem c_AppendSeq_s (xs : List bf) (gf : Nat) (lb : List Value) (Sx : List Ch) (hit : Iter Tryz.prog gf lb Sx d9 xs) (hen : Enters Tryz.prog gf) (hl : xs.length ≤ 1000000000000) : RC Tryz.prog 235 #[.slice none 0 0, .func (.func gf) #[] lb.toArray] Sx (α := Option Addr × Nat) (fun p => .slice p.1 xs.length p.2) (fun p => [Ch.ls p.1 p.2 9 1 d9 xs]) := by
 refine rc_of_WM (args := [.slice none 0 0, .func (.func gf) #[] lb.toArray]) 13 Tryz.func235 rfl rfl rfl (fun w0 => ?_)
 refine ar ?_
 refine ai ?_
 refine cv rfl rfl rfl (fun b1 => ?_)
 refine au (ao rfl) rfl rfl ?_
 refine ah ?_
 refine aq ?_
 refine ar ?_
 refine ar ?_
 refine ai ?_
 refine au (ap rfl) rfl rfl ?_
 refine ah ?_
 refine aq ?_
 refine aW ?_
 refine bF (fun w h => h.nilsl 9 1) ?_
 refine w_range (σ := List bf × Option Addr × Nat) (fun pre g => g.1 = pre) (fun c pre g => False) (fun g => [Ch.ls g.2.1 g.2.2 9 1 d9 g.1, Ch.row b1 [.slice g.2.1 g.1.length g.2.2] 135]) (([], none, 0)) rfl rfl hen (hit) (fun s hs => hs) rfl (fun _ => rfl) (rfl) rfl (fun pre e post g hxs hI lr D r hr okb wb => ?_) (fun g D0 hI => ?_) (fun c pre post g D0 hxs hI => ?_)
 obtain ⟨q, A, c⟩ := g
 dsimp only at hI ⊢
 subst hI
 refine ai ?_
 refine au (ao rfl) rfl rfl ?_
 refine ah ?_
 refine e_begin rfl hr .z ?_
 refine aW ?_
 refine ai ?_
 have hql : q.length < xs.length := by rw [hxs]; simp
 refine au (aM 3 ty_135 rfl rfl rfl) rfl rfl ?_
 refine au (ap rfl) rfl rfl ?_
 refine cD (vs := [_]) ([_] : List (bf)) ct Tryz.underlying135 cB rfl rfl rfl rfl rfl rfl (fun As2 => ?_)
 refine cC (enc := d9) (sz := 1) _ Tryz.underlying135 cB rfl rfl rfl (fun A c => (.s (.s (.s (.z))))) (d5 0 Tryz.underlying135 rfl) (by simp only [List.length_cons, List.length_nil, Nat.zero_add]; omega) (by simp only [List.length_cons, List.length_nil, Nat.zero_add]; omega) rfl (fun A2 c2 => ?_)
 refine a0 ty_135 rfl rfl rfl (.s (.s (.s (.s (.z))))) rfl rfl rfl rfl ?_
 refine ah ?_
 refine bo ?_
 refine e_rend ((q ++ [e], A2, c2)) ?_ (fun w h => h.weak (.cons _ (List.Sublist.refl _)) (fun s hs => hs))
 rfl
 obtain ⟨q, A, c⟩ := g
 dsimp only at hI ⊢
 subst hI
 refine bo ?_
 refine aq ?_
 refine ar ?_
 refine ai ?_
 refine au (aM 2 ty_135 rfl rfl rfl) rfl rfl ?_
 refine au (ao rfl) rfl rfl ?_
 refine ah ?_
 refine aq ?_
 refine aQ ?_
 refine e_lvr ?_
 refine lv_take .z ?_
 refine lv_nil (rs := [.tmp 4]) rfl (dR rfl dp) (fun w hw => ?_)
 exact ⟨(A, c), rfl, hw.base, (hw.weak (.cons _ (.cons_cons _ (.cons _ .slnil))) (fun s hs => hs)).toNews⟩
 exact hI.elim

theorem c_Collect_s (xs : List bf) (gf : Nat) (lb : List Value) (Sx : List Ch) (hit : Iter Tryz.prog gf lb Sx d9 xs) (hen : Enters Tryz.prog gf) (hl : xs.length ≤ 1000000000000) : RC Tryz.prog 201 #[.func (.func gf) #[] lb.toArray] Sx (α := Option Addr × Nat) (fun p => .slice p.1 xs.length p.2) (fun p => [Ch.ls p.1 p.2 9 1 d9 xs]) := by
 refine bx (args := [.func (.func gf) #[] lb.toArray]) 5 Tryz.func201 rfl rfl rfl (fun w0 => ?_)
 refine ar ?_
 refine ai ?_
 refine au (ao rfl) rfl rfl ?_
 refine ah ?_
 refine aq ?_
 refine ar ?_
 refine ai ?_
 refine au (ap rfl) rfl rfl ?_
 refine bM rfl ent_235 rfl (c_AppendSeq_s xs gf lb Sx hit hen hl) (fun w hw => hw.rd) (fun ⟨A0, c0⟩ => ?_)
 refine au (ao rfl) rfl rfl ?_
 refine ah ?_
 refine aq ?_
 refine aQ ?_
 refine aV (ts := [2]) rfl rfl rfl (fun w hw => ?_)
 exact ⟨(A0, c0), rfl, hw.base, (hw.weak (.cons_cons _ .slnil) (fun s hs => hs)).toNews⟩

theorem gv (n : bf) : RC Tryz.prog 146 #[.string (ba n)] [] (α := Option Addr × Nat) (fun p => .slice p.1 (a5 n).length p.2) (fun p => [Ch.ls p.1 p.2 9 1 d9 (a5 n)]) := by
 refine bx (args := [.string (ba n)]) 9 Tryz.func146 rfl rfl rfl (fun w0 => ?_)
 refine ar ?_
 refine ai ?_
 refine au (ao rfl) rfl rfl ?_
 refine ah ?_
 refine aq ?_
 refine ar ?_
 refine ar ?_
 refine ai ?_
 refine au (ap rfl) rfl rfl ?_
 refine bb rfl fK (cX _) rfl ?_
 refine au (bX rfl rfl) rfl rfl ?_
 refine aB (t := 5) rfl (fun h1_2 => ?_) (fun h1_2 => ?_)
 refine ah ?_
 refine aq ?_
 refine aA rfl ?_
 refine ar ?_
 refine ai ?_
 refine au (ao rfl) rfl rfl ?_
 refine ah ?_
 refine aq ?_
 refine aQ ?_
 refine ay ?_
 refine aV (ts := [2]) rfl rfl rfl (fun w hw => ?_)
 have hl : a5 n = [] := if_neg (by omega)
 rw [hl]
 exact ⟨(none, 0), rfl, hw.base, (hw.nilsl 9 1).toNews⟩
 refine ah ?_
 refine aq ?_
 refine aC rfl ?_
 refine aS ?_
 refine aq ?_
 refine ar ?_
 refine ai ?_
 refine au (ap rfl) rfl rfl ?_
 refine bM rfl ent_202 rfl (c_name_each _) (fun w hw => bd) (fun o0 => ?_)
 refine ib (fun w h => h.freeze) ?_
 have hck : a8 n = 0 := by omega
 have hnl := nameCk_zero.1 hck
 have hll := labs_len n
 refine bM rfl ent_201 rfl (c_Collect_s (dH n) 236 [.pointer (some ⟨o0, 0, none⟩)] [Ch.row o0 [.string (ba n)] 26] (c_name_each1 n _) ent_236 (by omega)) (fun w hw => (aO (bJ 0 rfl hw) bd)) (fun ⟨A1, c1⟩ => ?_)
 refine au (ao rfl) rfl rfl ?_
 refine ah ?_
 refine aq ?_
 refine aQ ?_
 refine aV (ts := [2]) rfl rfl rfl (fun w hw => ?_)
 have hl : a5 n = dH n := if_pos hck
 rw [hl]
 exact ⟨(A1, c1), rfl, hw.base, hw.toNews⟩
end Go.Proofs.YtnpdgmoeoidppaaGreat

/- strings.Builder, name.Make, name.Fold -/
namespace Go.Proofs.YtnpdgmoeoidppaaGreat
open Go.RowKit Go.Shelf
set_option linter.unusedVariables false
set_option linter.unusedSimpArgs false

theorem ent_146 : Enters Tryz.prog 146 := enters_of Tryz.func146 (by kernel_rfl) rfl
theorem ent_147 : Enters Tryz.prog 147 := enters_of Tryz.func147 (by kernel_rfl) rfl
theorem ent_148 : Enters Tryz.prog 148 := enters_of Tryz.func148 (by kernel_rfl) rfl
theorem ent_205 : Enters Tryz.prog 205 := enters_of Tryz.func205 (by kernel_rfl) rfl
theorem ent_206 : Enters Tryz.prog 206 := enters_of Tryz.func206 (by kernel_rfl) rfl
theorem ent_207 : Enters Tryz.prog 207 := enters_of Tryz.func207 (by kernel_rfl) rfl
theorem ent_208 : Enters Tryz.prog 208 := enters_of Tryz.func208 (by kernel_rfl) rfl
theorem ent_209 : Enters Tryz.prog 209 := enters_of Tryz.func209 (by kernel_rfl) rfl
theorem ent_237 : Enters Tryz.prog 237 := enters_of Tryz.func237 (by kernel_rfl) rfl
theorem jC : FA Tryz.prog 246 0 0 := fun b o w => by kernel_rfl
theorem gk : FA Tryz.prog 246 1 1 := fun b o w => by kernel_rfl
theorem ty_244 : TyI Tryz.prog 244 false 1 8 (.pointer none) := TyI.mk' (by kernel_rfl) (fun _ => by kernel_rfl)
theorem ty_246 : TyI Tryz.prog 246 true 2 32 (.agg #[.pointer none, .slice none 0 0]) := TyI.mk' (by kernel_rfl) (fun _ => by kernel_rfl)
theorem ty_75 : TyI Tryz.prog 75 false 1 24 (.slice none 0 0) := TyI.mk' (by kernel_rfl) (fun _ => by kernel_rfl)

theorem c_copyCheck (b : Nat) (A : Option Addr) (c : Nat) (s : bf) : UC Tryz.prog 237 #[.pointer (some ⟨b, 0, none⟩)] [] (Ch.bld 246 5 b A c s) (α := Unit) (fun _ => .tuple #[]) (fun _ => Ch.bld 246 5 b A c s) := by
 refine fR (args := [.pointer (some ⟨b, 0, none⟩)]) 20 Tryz.func237 rfl rfl rfl (fun w0 => ?_)
 refine w_bldo fun p hp => ?_
 rcases hp with rfl | rfl
 refine ar ?_
 refine ai ?_
 refine au (ap rfl) rfl rfl ?_
 refine au (bh rfl) rfl rfl ?_
 refine au (aD jC rfl) rfl rfl ?_
 refine au (aM 0 ty_244 rfl rfl rfl) rfl rfl ?_
 refine au (gr Tryz.underlying244 rfl rfl) rfl rfl ?_
 refine cU (t := 6) (.bool true) rfl (congrArg Value.bool rfl) ?_
 refine ah ?_
 refine aq ?_
 refine aA rfl ?_
 refine ai ?_
 refine au (ap rfl) rfl rfl ?_
 refine au (ap rfl) rfl rfl ?_
 refine au (y_tou (n := 2) Tryz.underlying244 Tryz.underlying287 ty_246 rfl (by omega) rfl (shape_rown 0 rfl rfl)) rfl rfl ?_
 refine o_ext rfl (fun w => by rw [run_callFunc_extern Tryz.func255 (by kernel_rfl) (by kernel_rfl) (by kernel_rfl) (e := Extern.AbiNoEscape.same) (by kernel_rfl), Lib.run_noEscape]; rfl) rfl ?_
 refine au (y_fromu (n := 2) Tryz.underlying287 Tryz.underlying244 ty_246 (by kernel_rfl) rfl (shape_rown 0 rfl rfl)) rfl rfl ?_
 refine au (bh rfl) rfl rfl ?_
 refine au (aD jC rfl) rfl rfl ?_
 refine a0 ty_244 rfl rfl rfl .z rfl rfl rfl rfl ?_
 refine ah ?_
 refine e_end (ts := []) rfl rfl rfl (fun w hw => ?_)
 exact ⟨(), rfl, (Hp.bldc (.inr rfl) rfl rfl hw).uc⟩
 refine ar ?_
 refine ai ?_
 refine au (ap rfl) rfl rfl ?_
 refine au (bh rfl) rfl rfl ?_
 refine au (aD jC rfl) rfl rfl ?_
 refine au (aM 0 ty_244 rfl rfl rfl) rfl rfl ?_
 refine au (gr Tryz.underlying244 rfl rfl) rfl rfl ?_
 refine cU (t := 6) (.bool false) rfl (congrArg Value.bool rfl) ?_
 refine ah ?_
 refine aq ?_
 refine aC rfl ?_
 refine ar ?_
 refine ai ?_
 refine au (ap rfl) rfl rfl ?_
 refine au (bh rfl) rfl rfl ?_
 refine au (aD jC rfl) rfl rfl ?_
 refine au (aM 0 ty_244 rfl rfl rfl) rfl rfl ?_
 refine au (ap rfl) rfl rfl ?_
 refine au (y_neps Tryz.underlying244 ty_246 rfl rfl) rfl rfl ?_
 refine ah ?_
 refine aq ?_
 refine aC rfl ?_
 refine aS ?_
 refine e_end (ts := []) rfl rfl rfl (fun w hw => ?_)
 exact ⟨(), rfl, (Hp.bldc (.inr rfl) rfl rfl hw).uc⟩

theorem c_WriteByte (b : Nat) (A : Option Addr) (c : Nat) (s : bf) (ch : UInt8) (hs : s.length ≤ 1000000000000) : UC Tryz.prog 206 #[.pointer (some ⟨b, 0, none⟩), .int .u8 ch.toNat] [] (Ch.bld 246 5 b A c s) (α := Option Addr × Nat) (fun p => .nilIface) (fun p => Ch.bld 246 5 b p.1 p.2 (s ++ [ch])) := by
 refine fR (args := [.pointer (some ⟨b, 0, none⟩), .int .u8 ch.toNat]) 17 Tryz.func206 rfl rfl rfl (fun w0 => ?_)
 refine ar ?_
 refine ai ?_
 refine au (ao rfl) rfl rfl ?_
 refine ah ?_
 refine aq ?_
 refine ar ?_
 refine ai ?_
 refine au (ap rfl) rfl rfl ?_
 refine dr rfl ent_237 rfl (c_copyCheck _ _ _ _) (fun o => .z) (List.mem_of_getElem? (i := 0) rfl) (fun s hs => nomatch hs) (fun o0 => ?_)
 refine ah ?_
 refine aq ?_
 refine ar ?_
 refine w_bldo fun p hp => ?_
 refine ai ?_
 refine au (ap rfl) rfl rfl ?_
 refine au (ap rfl) rfl rfl ?_
 refine au (bh rfl) rfl rfl ?_
 refine au (aD gk rfl) rfl rfl ?_
 refine au (aM 0 ty_75 rfl rfl rfl) rfl rfl ?_
 refine au (ap rfl) rfl rfl ?_
 refine cD (vs := [_]) ([_] : List (UInt8)) enc_b Tryz.underlying75 iV rfl rfl rfl rfl rfl rfl (fun As2 => ?_)
 refine cC (enc := encb) (sz := 1) _ Tryz.underlying75 iV rfl rfl rfl (fun A c => (.s (.s (.z)))) (d5 0 Tryz.underlying75 rfl) (by simp only [List.length_cons, List.length_nil, Nat.zero_add]; omega) (by simp only [List.length_cons, List.length_nil, Nat.zero_add]; omega) rfl (fun A2 c2 => ?_)
 refine au (bh rfl) rfl rfl ?_
 refine au (aD gk rfl) rfl rfl ?_
 refine a0 ty_75 rfl rfl rfl (.s (.z)) rfl rfl rfl rfl ?_
 refine ah ?_
 refine aq ?_
 refine ar ?_
 refine ai ?_
 refine au (ao rfl) rfl rfl ?_
 refine ah ?_
 refine aq ?_
 refine aQ ?_
 refine aV (ts := [4]) rfl rfl rfl (fun w hw => ?_)
 exact ⟨(A2, c2), rfl, (Hp.bldc hp rfl rfl (hw.weak (.cons _ (.cons_cons _ (.cons_cons _ .slnil))) (fun s hs => hs))).uc⟩

theorem c_WriteString (b : Nat) (A : Option Addr) (c : Nat) (s t : bf) (hs : s.length + t.length ≤ 1000000000000) : UC Tryz.prog 207 #[.pointer (some ⟨b, 0, none⟩), .string (ba t)] [] (Ch.bld 246 5 b A c s) (α := Option Addr × Nat) (fun p => .tuple #[.int .i64 t.length, .nilIface]) (fun p => Ch.bld 246 5 b p.1 p.2 (s ++ t)) := by
 refine fR (args := [.pointer (some ⟨b, 0, none⟩), .string (ba t)]) 19 Tryz.func207 rfl rfl rfl (fun w0 => ?_)
 refine ar ?_
 refine ai ?_
 refine au (ao rfl) rfl rfl ?_
 refine au (ao rfl) rfl rfl ?_
 refine ah ?_
 refine aq ?_
 refine ar ?_
 refine ai ?_
 refine au (ap rfl) rfl rfl ?_
 refine dr rfl ent_237 rfl (c_copyCheck _ _ _ _) (fun o => .z) (List.mem_of_getElem? (i := 0) rfl) (fun s hs => nomatch hs) (fun o0 => ?_)
 refine ah ?_
 refine aq ?_
 refine ar ?_
 refine w_bldo fun p hp => ?_
 refine ai ?_
 refine au (ap rfl) rfl rfl ?_
 refine au (ap rfl) rfl rfl ?_
 refine au (bh rfl) rfl rfl ?_
 refine au (aD gk rfl) rfl rfl ?_
 refine au (aM 0 ty_75 rfl rfl rfl) rfl rfl ?_
 refine au (ap rfl) rfl rfl ?_
 refine cC (enc := encb) (sz := 1) t Tryz.underlying75 iV rfl rfl rfl (fun A c => (.s (.z))) (src_str Tryz.underlying9) (by omega) (by omega) rfl (fun A1 c1 => ?_)
 refine au (bh rfl) rfl rfl ?_
 refine au (aD gk rfl) rfl rfl ?_
 refine a0 ty_75 rfl rfl rfl .z rfl rfl rfl rfl ?_
 refine ah ?_
 refine aq ?_
 refine ar ?_
 refine ai ?_
 refine au (ap rfl) rfl rfl ?_
 refine au (cL Tryz.underlying9 rfl) rfl rfl ?_
 refine au (ao rfl) rfl rfl ?_
 refine au (ao rfl) rfl rfl ?_
 refine ah ?_
 refine aq ?_
 refine aQ ?_
 refine aV (ts := [4, 5]) rfl rfl rfl (fun w hw => ?_)
 exact ⟨(A1, c1), rfl, (Hp.bldc hp rfl rfl (hw.weak (.cons_cons _ (.cons_cons _ .slnil)) (fun s hs => hs))).uc⟩

theorem c_bld_Len (b : Nat) (A : Option Addr) (c : Nat) (s : bf) : RC Tryz.prog 208 #[.pointer (some ⟨b, 0, none⟩)] [Ch.bld 246 5 b A c s] (α := Unit) (fun _ => .int .i64 s.length) (fun _ => []) := by
 refine bx (args := [.pointer (some ⟨b, 0, none⟩)]) 8 Tryz.func208 rfl rfl rfl (fun w0 => ?_)
 refine ar ?_
 refine ai ?_
 refine au (ao rfl) rfl rfl ?_
 refine ah ?_
 refine aq ?_
 refine ar ?_
 refine ai ?_
 refine au (ap rfl) rfl rfl ?_
 refine au (bh rfl) rfl rfl ?_
 refine au (aD gk rfl) rfl rfl ?_
 refine au (y_load ty_75 rfl (fun w hw => bld_cell (hw.sh _ (List.mem_of_getElem? (i := 0) rfl)))) rfl rfl ?_
 refine au (bg Tryz.underlying75 rfl) rfl rfl ?_
 refine au (ao rfl) rfl rfl ?_
 refine ah ?_
 refine aq ?_
 refine aQ ?_
 refine aV (ts := [2]) rfl rfl rfl (fun w hw => ?_)
 exact ⟨(), rfl, hw.base, hw.toNews⟩

set_option maxRecDepth 100000 in
theorem c_bld_String (b : Nat) (A : Option Addr) (c : Nat) (s : bf) : UC Tryz.prog 209 #[.pointer (some ⟨b, 0, none⟩)] [] (Ch.bld 246 5 b A c s) (α := Unit) (fun _ => .string (ba s)) (fun _ => Ch.nil0) := by
 refine fR (args := [.pointer (some ⟨b, 0, none⟩)]) 14 Tryz.func209 rfl rfl rfl (fun w0 => ?_)
 refine ar ?_
 refine ai ?_
 refine au (ao rfl) rfl rfl ?_
 refine ah ?_
 refine aq ?_
 refine ar ?_
 refine w_bldo fun p hp => ?_
 refine w_sf ?_
 refine dz 12 rfl cu ?_
 refine aF (i := 0) rfl aj (ap rfl) aE aE rfl (aa av) (by kernel_rfl) rfl ?_
 refine aF (i := 1) rfl aj (bh rfl) aE aE rfl (aa av) (by kernel_rfl) rfl ?_
 refine aF (i := 2) rfl aj (aD gk rfl) aE aE rfl (aa av) (by kernel_rfl) rfl ?_
 refine aF (i := 3) rfl aj (aM 0 ty_75 rfl rfl rfl) aE aE rfl (aa av) (by kernel_rfl) rfl ?_
 refine aF (i := 5) rfl aj (ap rfl) aE aE rfl (aa av) (by kernel_rfl) rfl ?_
 refine aF (i := 6) rfl aj (bh rfl) aE aE rfl (aa av) (by kernel_rfl) rfl ?_
 refine aF (i := 7) rfl aj (aD gk rfl) aE aE rfl (aa av) (by kernel_rfl) rfl ?_
 refine aF (i := 8) rfl aj (aM 0 ty_75 rfl rfl rfl) aE aE rfl (aa av) (by kernel_rfl) rfl ?_
 refine aF (i := 9) rfl aj (bg Tryz.underlying75 rfl) aE aE rfl (aa av) (by kernel_rfl) rfl ?_
 refine cy (i := 4) rfl rfl rfl (fun _ _ _ => aN (by kernel_rfl)) (by kernel_rfl) rfl ?_
 refine o_usd (c := c) (s := s) Tryz.underlying273 rfl (fun w hw => hw.own _ (List.mem_of_getElem? (i := 1) rfl)) rfl (fun q hq => ?_)
 refine ah ?_
 refine cW aE ?_
 refine cy (i := 10) rfl rfl rfl (fun _ _ _ => aN (by kernel_rfl)) (by kernel_rfl) rfl ?_
 refine o_us Tryz.underlying273 (by kernel_rfl) rfl rfl hq (.s .z) rfl ?_
 refine ah ?_
 refine cW aE ?_
 refine aF (i := 11) rfl aj (ao rfl) aE aE rfl (aa av) (by kernel_rfl) rfl ?_
 refine cp (by kernel_rfl) ?_
 refine aq ?_
 refine aQ ?_
 refine aV (ts := [2]) rfl rfl rfl (fun w hw => ?_)
 exact ⟨(), rfl, hw.uc0⟩

/-- No more octets than are held. -/
theorem bK {α : Type} (l : List α) (d : α) (k : Nat) (h : k < l.length) : l.take (k + 1) = l.take k ++ [l.getD k d] := by
  rw [List.take_succ_eq_append_getElem h]; simp [List.getD_eq_getElem?_getD, h]
theorem cG {α : Type} (l : List α) (d : α) (k : Nat) (h : k < l.length) : l.drop k = l.getD k d :: l.drop (k + 1) := by
  rw [List.drop_eq_getElem_cons h]; simp [List.getD_eq_getElem?_getD, h]
theorem hY (ls : List bf) (k : Nat) : (dv (ls.take k)).length ≤ (dv ls).length := by
  have e : dv ls = dv (ls.take k) ++ dv (ls.drop k) := by rw [← fE, List.take_append_drop]
  rw [e, List.length_append]; omega
theorem encn_one (s : bf) : dv [s] = UInt8.ofNat s.length :: s := by simp [dv]
theorem encn_ge : ∀ ls : List bf, ls.length ≤ (dv ls).length
  | [] => Nat.le_refl _
  | s :: r => by have := encn_ge r; rw [gL]; simp; omega

theorem c_name_Make (ls : List bf) (A : Option Addr) (ca : Nat) (hl : (dv ls).length ≤ 1000000000000) : RC Tryz.prog 148 #[.slice A ls.length ca] [Ch.rd A 1 d9 ls] (α := Unit) (fun _ => .tuple #[.string (ba (eh ls).1), .int .i64 (eh ls).2]) (fun _ => []) := by
 refine bx (args := [.slice A ls.length ca]) 38 Tryz.func148 rfl rfl rfl (fun w0 => ?_)
 have hge := encn_ge ls
 refine ar ?_
 refine ai ?_
 refine au (ao rfl) rfl rfl ?_
 refine au (ao rfl) rfl rfl ?_
 refine ah ?_
 refine aq ?_
 refine ar ?_
 refine ar ?_
 refine ai ?_
 refine au (ap rfl) rfl rfl ?_
 refine au (bg Tryz.underlying135 rfl) rfl rfl ?_
 refine au (ap rfl) rfl rfl ?_
 refine ah ?_
 refine aq ?_
 refine aW ?_
 refine bV (σ := Nat) [2, 3, 5, 6, 12, 13, 14, 15, 16, 17, 18, 19, 20, 21] (fun k => k ≤ ls.length ∧ dx ls = dx (ls.drop k)) (fun k => ls.length - k) (fun k => [(12, .int .i64 k)]) (0) ?_ ⟨rfl, trivial⟩ (fun k hI => ?_)
 exact ⟨Nat.zero_le _, rfl⟩
 refine ar ?_
 refine ai ?_
 refine au (bI rfl rfl) rfl rfl ?_
 refine aB (t := 13) rfl (fun h2_0 => ?_) (fun h2_0 => ?_)
 refine ah ?_
 refine aq ?_
 refine ar ?_
 refine aA rfl ?_
 refine aS ?_
 refine aq ?_
 refine ar ?_
 refine aW ?_
 refine ar ?_
 refine ai ?_
 refine au (bz  Tryz.underlying135 cB rfl rfl (bE 0 rfl) rfl (by omega)) rfl rfl ?_
 refine au (cf ct ([] : bf) cB rfl (bE 0 rfl) (by omega) rfl rfl) rfl rfl ?_
 refine au (ao rfl) rfl rfl ?_
 refine ah ?_
 refine aq ?_
 refine ar ?_
 refine ai ?_
 refine au (ap rfl) rfl rfl ?_
 refine bb rfl ent_205 (gB _) rfl ?_
 refine au (ao rfl) rfl rfl ?_
 refine ah ?_
 refine aq ?_
 refine ar ?_
 refine ai ?_
 refine au (ap rfl) rfl rfl ?_
 refine au (bX rfl rfl) rfl rfl ?_
 refine aB (t := 19) rfl (fun h5_1 => ?_) (fun h5_1 => ?_)
 refine ah ?_
 refine aq ?_
 refine aA rfl ?_
 refine ar ?_
 refine ai ?_
 refine au (ap rfl) rfl rfl ?_
 refine au (ao rfl) rfl rfl ?_
 refine au (ao rfl) rfl rfl ?_
 refine ah ?_
 refine aq ?_
 refine aQ ?_
 refine aK ?_
 refine ay ?_
 refine a9 ?_
 refine aK ?_
 refine ay ?_
 refine aV (ts := [2, 3]) rfl rfl rfl (fun w hw => ?_)
 have hk : k < ls.length := by omega
 have hdk := cG ls [] k hk
 have hf : dx ls = fO (ls.getD k []) := by rw [hI.2, hdk, dx, if_neg (by omega)]
 exact ⟨(), by rw [eh, if_pos (by omega), hf]; rfl, hw.base, hw.toNews⟩
 refine ah ?_
 refine aq ?_
 refine aC rfl ?_
 refine aS ?_
 refine bo ?_
 refine aq ?_
 refine ai ?_
 refine au (bl rfl rfl (by omega) (by omega)) rfl rfl ?_
 refine au (ap rfl) rfl rfl ?_
 refine ah ?_
 have hk : k < ls.length := by omega
 have hdk := cG ls [] k hk
 refine bq (k + 1) ?_ ?_ ⟨rfl, trivial⟩ (by repeat (first | exact trivial | refine ⟨rfl, ?_⟩)) aE
 exact ⟨by omega, by rw [hI.2, hdk, dx, if_pos (by omega)]⟩
 omega
 refine ah ?_
 refine aq ?_
 refine ar ?_
 refine aC rfl ?_
 refine bw ?_
 refine aY ?_
 refine aZ ?_
 refine a7 ?_
 refine aq ?_
 refine ar ?_
 have hz : dx ls = 0 := by rw [hI.2, List.drop_of_length_le (by omega)]; rfl
 refine ai ?_
 refine bj ty_246 rfl rfl (fun b1 => ?_)
 refine ib (fun w h => h.bldn 5) ?_
 refine ah ?_
 refine aq ?_
 refine ar ?_
 refine ar ?_
 refine ai ?_
 refine au (ap rfl) rfl rfl ?_
 refine au (bg Tryz.underlying135 rfl) rfl rfl ?_
 refine au (ap rfl) rfl rfl ?_
 refine ah ?_
 refine aq ?_
 refine aW ?_
 refine cP (σ := Nat × Option Addr × Nat) [9, 24, 25, 26, 27, 28, 29, 30, 31, 32, 33, 34] (fun q => q.1 ≤ ls.length) (fun q => ls.length - q.1) (fun q => [(24, .int .i64 q.1)]) (fun q => Ch.bld 246 5 b1 q.2.1 q.2.2 (dv (ls.take q.1))) ((0, none, 0)) ?_ ⟨rfl, trivial⟩ rfl (fun q hI => ?_)
 exact Nat.zero_le _
 obtain ⟨k, A3, c3⟩ := q
 dsimp only at hI ⊢
 have htl := hY ls k
 refine ar ?_
 refine ai ?_
 refine au (bI rfl rfl) rfl rfl ?_
 refine aB (t := 25) rfl (fun h10_0 => ?_) (fun h10_0 => ?_)
 refine ah ?_
 refine aq ?_
 refine ar ?_
 refine aA rfl ?_
 refine aS ?_
 refine aq ?_
 refine ar ?_
 refine aW ?_
 refine ar ?_
 refine ai ?_
 refine au (bz  Tryz.underlying135 cB rfl rfl (bE 0 rfl) rfl (by omega)) rfl rfl ?_
 refine au (cf ct ([] : bf) cB rfl (bE 0 rfl) (by omega) rfl rfl) rfl rfl ?_
 refine au (ao rfl) rfl rfl ?_
 refine ah ?_
 refine aq ?_
 refine ar ?_
 refine ai ?_
 refine au (ap rfl) rfl rfl ?_
 refine au (cL Tryz.underlying9 rfl) rfl rfl ?_
 refine au (y_convii Tryz.underlying3 Tryz.underlying5 rfl) rfl rfl ?_
 have hk : k < ls.length := by omega
 have hlk : 1 ≤ (ls.getD k []).length ∧ (ls.getD k []).length ≤ 63 := firstCk_zero.1 hz (ls.getD k []) (by rw [List.getD_eq_getElem?_getD, List.getElem?_eq_getElem hk]; exact List.getElem_mem hk)
 have hlk2 := hlk
 refine cU (t := 30) (.int .u8 ((UInt8.ofNat (ls.getD k []).length).toNat : Int)) rfl (congrArg _ (by rw [gY (by omega) (by omega), u8len hlk2.2])) ?_
 have htk := bK ls [] k hk
 have htl2 := hY ls (k + 1)
 rw [htk, fE, encn_one, List.length_append, List.length_cons] at htl2
 refine dr rfl ent_206 rfl (c_WriteByte _ _ _ _ _ (by omega)) (fun o => .z) (List.mem_of_getElem? (i := 0) rfl) (fun s hs => nomatch hs) (fun o1 => ?_)
 refine ah ?_
 refine aq ?_
 refine ai ?_
 refine au (ap rfl) rfl rfl ?_
 refine dr rfl ent_207 rfl (c_WriteString _ _ _ _ _ (by rw [List.length_append, List.length_singleton]; omega)) (fun o => .z) (List.mem_of_getElem? (i := 0) rfl) (fun s hs => nomatch hs) (fun o2 => ?_)
 refine ah ?_
 refine bo ?_
 refine aq ?_
 refine ai ?_
 refine au (bl rfl rfl (by omega) (by omega)) rfl rfl ?_
 refine au (ap rfl) rfl rfl ?_
 refine ah ?_
 have hk : k < ls.length := by omega
 have htk := bK ls [] k hk
 refine bq ((k + 1, o2.1, o2.2)) ?_ ?_ ⟨rfl, trivial⟩ (by repeat (first | exact trivial | refine ⟨rfl, ?_⟩)) (fun w h => by show Hp _ _ (Ch.bld _ _ _ _ _ (dv (ls.take (k + 1))) :: _) _ _; rw [htk, fE, encn_one]; have h2 := h; rw [List.append_assoc] at h2; exact h2)
 show k + 1 ≤ ls.length
 omega
 show ls.length - (k + 1) < ls.length - k
 omega
 refine ah ?_
 refine aq ?_
 refine ar ?_
 refine aC rfl ?_
 refine bw ?_
 refine aY ?_
 refine aZ ?_
 refine a7 ?_
 refine aq ?_
 refine ar ?_
 refine ar ?_
 refine ai ?_
 refine bp rfl ent_208 rfl (c_bld_Len _ _ _ _) (fun w hw => aO (dC 0 rfl hw) bd) ?_
 refine au (c9 rfl rfl) rfl rfl ?_
 refine aB (t := 36) rfl (fun h15_1 => ?_) (fun h15_1 => ?_)
 refine ah ?_
 refine aq ?_
 refine aA rfl ?_
 refine ar ?_
 refine ai ?_
 refine au (ao rfl) rfl rfl ?_
 refine au (ao rfl) rfl rfl ?_
 refine ah ?_
 refine aq ?_
 refine aQ ?_
 refine ay ?_
 refine aV (ts := [2, 3]) rfl rfl rfl (fun w hw => ?_)
 have hk : k = ls.length := by omega
 rw [hk, List.take_length] at h15_1
 exact ⟨(), by rw [eh, if_neg (by omega), if_pos (by omega)]; rfl, hw.base, (hw.weak (List.nil_sublist _) (fun s hs => hs)).toNews⟩
 refine ah ?_
 refine aq ?_
 refine aC rfl ?_
 refine aS ?_
 refine aq ?_
 refine ar ?_
 refine ai ?_
 refine dr rfl ent_209 rfl (c_bld_String _ _ _ _) (fun o => .z) (List.mem_of_getElem? (i := 0) rfl) (fun s hs => nomatch hs) (fun o3 => ?_)
 refine au (ao rfl) rfl rfl ?_
 refine au (ao rfl) rfl rfl ?_
 refine ah ?_
 refine aq ?_
 refine aQ ?_
 refine aV (ts := [2, 3]) rfl rfl rfl (fun w hw => ?_)
 have hk : k = ls.length := by omega
 subst hk
 rw [List.take_length] at h15_1 ⊢
 exact ⟨(), by rw [eh, if_neg (by omega), if_neg (by omega)]; rfl, hw.base, (hw.weak (List.nil_sublist _) (fun s hs => hs)).toNews⟩

theorem mapS_step (t : bf → bf) (l : List bf) (k : Nat) (h : k < l.length) : ((l.take k).map t ++ l.drop k).set k (t (l.getD k [])) = (l.take (k + 1)).map t ++ l.drop (k + 1) := by
  have e : l.getD k [] = l[k] := by simp [List.getD_eq_getElem?_getD, h]
  have hk : k - ((l.take k).map t).length = 0 := by simp; omega
  rw [List.set_append_right _ _ (by simp; omega), hk, List.drop_eq_getElem_cons h, List.set_cons_zero, e, List.take_succ_eq_append_getElem h, List.map_append]
  simp
theorem mapS_at (t : bf → bf) (l : List bf) (k : Nat) (h : k < l.length) : ((l.take k).map t ++ l.drop k).getD k [] = l.getD k [] := by
  simp [List.getD_eq_getElem?_getD, List.getElem?_append_right, Nat.min_eq_left (Nat.le_of_lt h)]
theorem dA (t : bf → bf) (l : List bf) (k : Nat) : ((l.take k).map t ++ l.drop k).length = l.length := by simp; omega
theorem fe (n : bf) (h : n.length ≤ 1000000000) : (a5 n).length ≤ 254 ∧ (∀ s ∈ a5 n, 1 ≤ s.length ∧ s.length ≤ 63) ∧ (dv ((a5 n).map bB)).length ≤ 254 := by
  unfold a5
  by_cases hc : a8 n = 0
  · rw [if_pos hc]
    obtain ⟨h1, h2⟩ := nameCk_zero.1 hc
    have := labs_len n
    refine ⟨by omega, ec n, ?_⟩
    rw [gQ _ (ec n), dF, e8 n h2]; exact h1
  · rw [if_neg hc]; exact ⟨by simp, nofun, by simp [dv]⟩

theorem fold_b {n : bf} {k : Nat} (hk : k < (a5 n).length) (h : ∀ s ∈ a5 n, 1 ≤ s.length ∧ s.length ≤ 63) : ((((a5 n).take k).map bB ++ (a5 n).drop k).getD k []).length ≤ 1000000000000 := by
  have e : (a5 n).getD k [] = (a5 n)[k] := by simp [List.getD_eq_getElem?_getD, hk]
  rw [mapS_at bB _ k hk, e]
  have := h _ (List.getElem_mem hk)
  omega

theorem c_name_Fold (n : bf) (hn : n.length ≤ 1000000000) : RC Tryz.prog 73 #[.string (ba n)] [] (α := Unit) (fun _ => .string (ba (aX n))) (fun _ => []) := by
 refine bx (args := [.string (ba n)]) 29 Tryz.func73 rfl rfl rfl (fun w0 => ?_)
 refine ar ?_
 refine ai ?_
 refine au (ao rfl) rfl rfl ?_
 refine ah ?_
 refine aq ?_
 refine ar ?_
 refine ai ?_
 refine au (ap rfl) rfl rfl ?_
 refine bM rfl ent_146 rfl (gv _) (fun w hw => bd) (fun ⟨A0, c0⟩ => ?_)
 have hlb := fe n hn
 refine au (ao rfl) rfl rfl ?_
 refine ah ?_
 refine aq ?_
 refine ar ?_
 refine ar ?_
 refine ai ?_
 refine au (ap rfl) rfl rfl ?_
 refine au (bg Tryz.underlying135 rfl) rfl rfl ?_
 refine au (ap rfl) rfl rfl ?_
 refine ah ?_
 refine aq ?_
 refine aW ?_
 refine cP (σ := Nat) [3, 4, 5, 10, 12, 13, 14, 15, 16, 17, 18, 19, 20, 21, 22] (fun k => k ≤ (a5 n).length) (fun k => (a5 n).length - k) (fun k => [(12, .int .i64 k), (10, .slice A0 (((a5 n).take k).map bB ++ (a5 n).drop k).length c0), (3, .slice A0 (((a5 n).take k).map bB ++ (a5 n).drop k).length c0)]) (fun k => Ch.ls A0 c0 9 1 d9 (((a5 n).take k).map bB ++ (a5 n).drop k)) (0) ?_ ⟨rfl, rfl, rfl, trivial⟩ rfl (fun k hI => ?_)
 exact Nat.zero_le _
 have hml := dA bB (a5 n) k
 refine ar ?_
 refine ai ?_
 refine au (bI rfl rfl) rfl rfl ?_
 refine aB (t := 13) rfl (fun h3_0 => ?_) (fun h3_0 => ?_)
 refine ah ?_
 refine aq ?_
 refine ar ?_
 refine aA rfl ?_
 refine aS ?_
 refine aq ?_
 refine ar ?_
 refine aW ?_
 refine ar ?_
 refine ai ?_
 refine au (ap rfl) rfl rfl ?_
 refine au (bz  Tryz.underlying135 cB rfl rfl (dg 0 rfl) rfl (by rw [dA]; omega)) rfl rfl ?_
 refine au (cf ct ([] : bf) cB rfl (dg 0 rfl) (by rw [dA]; omega) rfl rfl) rfl rfl ?_
 refine au (ao rfl) rfl rfl ?_
 refine au (ao rfl) rfl rfl ?_
 refine ah ?_
 refine aq ?_
 refine ai ?_
 refine au (ap rfl) rfl rfl ?_
 refine au (ap rfl) rfl rfl ?_
 refine au (ap rfl) rfl rfl ?_
 refine bb rfl ent_147 (hU _ (fold_b (by omega) hlb.2.1)) rfl ?_
 refine au (bz  Tryz.underlying135 cB rfl rfl (dg 0 rfl) rfl (by rw [dA]; omega)) rfl rfl ?_
 refine eS ct ([] : bf) _ cB rfl rfl rfl .z rfl (by rw [dA]; omega) rfl rfl rfl ?_
 refine ah ?_
 refine bo ?_
 refine aq ?_
 refine ai ?_
 refine au (bl rfl rfl (by omega) (by omega)) rfl rfl ?_
 refine au (ap rfl) rfl rfl ?_
 refine ah ?_
 have hk : k < (a5 n).length := by omega
 refine bq (k + 1) ?_ ?_ ⟨rfl, lk rfl (by rw [dA, dA]), lk rfl (by rw [dA, dA]), trivial⟩ (by repeat (first | exact trivial | refine ⟨rfl, ?_⟩)) (fun w h => by rw [mapS_at bB (a5 n) k hk, mapS_step bB (a5 n) k hk] at h; exact h)
 omega
 omega
 refine ah ?_
 refine aq ?_
 refine ar ?_
 refine aC rfl ?_
 refine bw ?_
 refine aY ?_
 refine aZ ?_
 refine a7 ?_
 refine aq ?_
 refine ar ?_
 refine ai ?_
 obtain rfl : k = (a5 n).length := by omega
 refine au (ap rfl) rfl rfl ?_
 refine bp rfl ent_148 rfl (c_name_Make _ _ _ (by have := hlb.2.2; simp; omega)) (fun w hw => (aO (dD 0 rfl hw) bd)) ?_
 refine au (ap rfl) rfl rfl ?_
 refine au (aP rfl rfl) rfl rfl ?_
 refine au (aP rfl rfl) rfl rfl ?_
 refine au (ao rfl) rfl rfl ?_
 refine au (ao rfl) rfl rfl ?_
 refine ah ?_
 refine aq ?_
 refine ar ?_
 refine ai ?_
 refine au (ap rfl) rfl rfl ?_
 refine au (ao rfl) rfl rfl ?_
 refine ah ?_
 refine aq ?_
 refine aQ ?_
 refine aV (ts := [2]) rfl rfl rfl (fun w hw => ?_)
 exact ⟨(), by rw [← iI]; simp [eF], hw.base, (hw.weak (List.nil_sublist _) (fun s hs => hs)).toNews⟩

theorem eW (n : bf) (hn : n.length ≤ 1000000000) : dQ Tryz.prog 73 #[.string (ba n)] (.string (ba (aX n))) := g4 (c_name_Fold n hn)

end Go.Proofs.YtnpdgmoeoidppaaGreat

/- hash: the sums -/
namespace Go.Proofs.YtnpdgmoeoidppaaGreat
open Go.RowKit Go.Shelf
set_option linter.unusedVariables false
set_option linter.unusedSimpArgs false

theorem il : Enters Tryz.prog 73 := enters_of Tryz.func73 (by kernel_rfl) rfl
theorem de : TyI Tryz.prog 3 false 1 8 (.int .i64 0) := TyI.mk' (by kernel_rfl) (fun _ => by kernel_rfl)

end Go.Proofs.YtnpdgmoeoidppaaGreat
