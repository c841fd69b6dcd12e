import Derived.Test.YtnpdgmoeoidppaaGreatPaQt
import Derived.Test.YtnpdgmoeoidppaaGreatProg
import Derived.KernelRfl
/- label, name: the contracts -/
namespace Go.Proofs.YtnpdgmoeoidppaaGreat
open Go.RowKit Go.Shelf
set_option linter.unusedVariables false
set_option linter.unusedSimpArgs false

theorem ent_149 : Enters Tryz.prog 149 := enters_of Tryz.func149 (by kernel_rfl) rfl
theorem ent_201 : Enters Tryz.prog 201 := enters_of Tryz.func201 (by kernel_rfl) rfl
theorem ent_202 : Enters Tryz.prog 202 := enters_of Tryz.func202 (by kernel_rfl) rfl
theorem ent_203 : Enters Tryz.prog 203 := enters_of Tryz.func203 (by kernel_rfl) rfl
theorem ent_204 : Enters Tryz.prog 204 := enters_of Tryz.func204 (by kernel_rfl) rfl
theorem ent_235 : Enters Tryz.prog 235 := enters_of Tryz.func235 (by kernel_rfl) rfl
theorem ent_236 : Enters Tryz.prog 236 := enters_of Tryz.func236 (by kernel_rfl) rfl
theorem ent_74 : Enters Tryz.prog 74 := enters_of Tryz.func74 (by kernel_rfl) rfl
theorem mixed : Tryz.prog.follows .mixedOrders = true := by kernel_rfl
theorem ty_135 : TyI Tryz.prog 135 false 1 24 (.slice none 0 0) := TyI.mk' (by kernel_rfl) (fun _ => by kernel_rfl)
theorem bL : TyI Tryz.prog 26 false 1 16 (.string ⟨#[]⟩) := TyI.mk' (by kernel_rfl) (fun _ => by kernel_rfl)
theorem g9 : TyI Tryz.prog 5 false 1 1 (.int .u8 0) := TyI.mk' (by kernel_rfl) (fun _ => by kernel_rfl)
theorem fy : TyI Tryz.prog 9 false 1 16 (.string ⟨#[]⟩) := TyI.mk' (by kernel_rfl) (fun _ => by kernel_rfl)

theorem c_label_Check (l : aV) : cO Tryz.prog 205 #[.string (ba l)] (.int .i64 (fG l)) := by
 intro w0
 refine bd (ok0 := no) (S := []) (args := [.string (ba l)]) 12 Tryz.func205 rfl rfl rfl (by simp) (by simp) ?_
 refine ao ?_
 refine ab ?_
 refine ap (ai rfl) rfl rfl ?_
 refine ae ?_
 refine aj ?_
 refine ao ?_
 refine ao ?_
 refine ab ?_
 refine ap (ak rfl) rfl rfl ?_
 refine ap (dW Tryz.underlying9 rfl) rfl rfl ?_
 refine ap (ai rfl) rfl rfl ?_
 refine ae ?_
 refine aj ?_
 refine aP ?_
 refine ao ?_
 refine ab ?_
 refine ap (ak rfl) rfl rfl ?_
 refine ap (dB rfl rfl) rfl rfl ?_
 refine aC (t := 8) rfl (fun h2_1 => ?_) (fun h2_1 => ?_)
 refine ap (ai rfl) rfl rfl ?_
 refine ae ?_
 refine aj ?_
 refine ay rfl ?_
 refine ao ?_
 refine ab ?_
 refine ap (ai rfl) rfl rfl ?_
 refine ae ?_
 refine aj ?_
 refine aF ?_
 refine aL ?_
 refine aA ?_
 refine aJ (ts := [2]) rfl rfl rfl (fun w hw => ?_)
 exact ⟨congrArg _ (by show Value.int _ _ = _; unfold fG; congr 1; (repeat (first | rw [if_pos (by omega)] | rw [if_neg (by omega)]))), hw.base⟩
 refine ap (ai rfl) rfl rfl ?_
 refine ae ?_
 refine aj ?_
 refine au rfl ?_
 refine ao ?_
 refine ab ?_
 refine ap (ak rfl) rfl rfl ?_
 refine ap (eI rfl rfl) rfl rfl ?_
 refine aC (t := 11) rfl (fun h4_1 => ?_) (fun h4_1 => ?_)
 refine ap (ai rfl) rfl rfl ?_
 refine ae ?_
 refine aj ?_
 refine ay rfl ?_
 refine ao ?_
 refine ab ?_
 refine ap (ai rfl) rfl rfl ?_
 refine ae ?_
 refine aj ?_
 refine aF ?_
 refine aL ?_
 refine aA ?_
 refine aJ (ts := [2]) rfl rfl rfl (fun w hw => ?_)
 exact ⟨congrArg _ (by show Value.int _ _ = _; unfold fG; congr 1; (repeat (first | rw [if_pos (by omega)] | rw [if_neg (by omega)]))), hw.base⟩
 refine ap (ai rfl) rfl rfl ?_
 refine ae ?_
 refine aj ?_
 refine au rfl ?_
 refine aH ?_
 refine bq ?_
 refine aj ?_
 refine ao ?_
 refine ab ?_
 refine ap (ai rfl) rfl rfl ?_
 refine ae ?_
 refine aj ?_
 refine aF ?_
 refine aJ (ts := [2]) rfl rfl rfl (fun w hw => ?_)
 exact ⟨congrArg _ (by show Value.int _ _ = _; unfold fG; congr 1; (repeat (first | rw [if_pos (by omega)] | rw [if_neg (by omega)]))), hw.base⟩

theorem c_label_Fold1 (c : UInt8) : cO Tryz.prog 203 #[.int .u8 c.toNat] (.int .u8 (eG c).toNat) := by
 intro w0
 have hc := UInt8.toNat_lt c
 refine bd (ok0 := no) (S := []) (args := [.int .u8 c.toNat]) 13 Tryz.func203 rfl rfl rfl (by simp) (by simp) ?_
 refine ao ?_
 refine ab ?_
 refine ap (ai rfl) rfl rfl ?_
 refine ae ?_
 refine aj ?_
 refine ao ?_
 refine ao ?_
 refine ab ?_
 refine ap (ak rfl) rfl rfl ?_
 refine ap (gF rfl rfl) rfl rfl ?_
 refine aC (t := 4) rfl (fun h1_1 => ?_) (fun h1_1 => ?_)
 refine ap (ak rfl) rfl rfl ?_
 refine az rfl rfl ?_
 refine ap (ak rfl) rfl rfl ?_
 refine az rfl rfl ?_
 refine ap (y_leq rfl rfl) rfl rfl ?_
 refine aC (t := 7) rfl (fun h1_4 => ?_) (fun h1_4 => ?_)
 refine ap (aX rfl rfl) rfl rfl ?_
 refine ae ?_
 refine aj ?_
 refine ay rfl ?_
 refine ao ?_
 refine ab ?_
 refine ap (ak rfl) rfl rfl ?_
 refine ap (y_sub rfl rfl) rfl rfl ?_
 refine ap (y_add rfl rfl) rfl rfl ?_
 refine ap (ai rfl) rfl rfl ?_
 refine ae ?_
 refine aj ?_
 refine aF ?_
 refine aA ?_
 refine aJ (ts := [2]) rfl rfl rfl (fun w hw => ?_)
 exact ⟨congrArg _ (by show Value.int _ _ = _; congr 1; rw [gp (by rw [gp (by omega) (by omega)]; omega) (by rw [gp (by omega) (by omega)]; omega), gp (by omega) (by omega)]; unfold eG; rw [if_pos (by omega)]; simp; omega), hw.base⟩
 refine ap (aX rfl rfl) rfl rfl ?_
 refine ae ?_
 refine aj ?_
 refine au rfl ?_
 refine aH ?_
 refine aj ?_
 refine ao ?_
 refine ab ?_
 refine ap (ak rfl) rfl rfl ?_
 refine ap (ai rfl) rfl rfl ?_
 refine ae ?_
 refine aj ?_
 refine aF ?_
 refine aJ (ts := [2]) rfl rfl rfl (fun w hw => ?_)
 exact ⟨congrArg _ (by show Value.int _ _ = _; congr 2; unfold eG; rw [if_neg (by omega)]), hw.base⟩
 refine ap (ak rfl) rfl rfl ?_
 refine aO rfl rfl rfl rfl ?_
 refine aO rfl rfl rfl rfl ?_
 refine ap (aW rfl rfl) rfl rfl ?_
 refine ae ?_
 refine aj ?_
 refine au rfl ?_
 refine aH ?_
 refine aj ?_
 refine ao ?_
 refine ab ?_
 refine ap (ak rfl) rfl rfl ?_
 refine ap (ai rfl) rfl rfl ?_
 refine ae ?_
 refine aj ?_
 refine aF ?_
 refine aJ (ts := [2]) rfl rfl rfl (fun w hw => ?_)
 exact ⟨congrArg _ (by show Value.int _ _ = _; congr 2; unfold eG; rw [if_neg (by omega)]), hw.base⟩

theorem fv (t : UInt8 → UInt8) (l : aV) (k : Nat) (h : k < l.length) : ((l.take k).map t ++ l.drop k).set k (t (l.getD k 0)) = (l.take (k + 1)).map t ++ l.drop (k + 1) := by
  have e : l.getD k 0 = l[k] := by simp [List.getD_eq_getElem?_getD, h]
  have hk : k - ((l.take k).map t).length = 0 := by simp; omega
  rw [List.set_append_right _ _ (by simp; omega), hk, List.drop_eq_getElem_cons h, List.set_cons_zero, e, List.take_succ_eq_append_getElem h, List.map_append]
  simp
theorem map_at (t : UInt8 → UInt8) (l : aV) (k : Nat) (h : k < l.length) : ((l.take k).map t ++ l.drop k).getD k 0 = l.getD k 0 := by
  simp [List.getD_eq_getElem?_getD, List.getElem?_append_right, Nat.min_eq_left (Nat.le_of_lt h)]
theorem ck (t : UInt8 → UInt8) (l : aV) (k : Nat) : ((l.take k).map t ++ l.drop k).length = l.length := by simp; omega

theorem c_label_each (l : aV) (f : Nat) (t : UInt8 → UInt8) (hf : ∀ c, cO Tryz.prog f #[.int .u8 c.toNat] (.int .u8 (t c).toNat)) (hen : Enters Tryz.prog f) (hl : l.length ≤ 1000000000000) : cO Tryz.prog 204 #[.string (ba l), .func (.func f) #[] #[]] (.string (ba (l.map t))) := by
 intro w0
 refine bd (ok0 := no) (S := []) (args := [.string (ba l), .func (.func f) #[] #[]]) 26 Tryz.func204 rfl rfl rfl (by simp) (by simp) ?_
 refine ao ?_
 refine ab ?_
 refine ap (ai rfl) rfl rfl ?_
 refine ae ?_
 refine aj ?_
 refine ao ?_
 refine ab ?_
 refine ap (ak rfl) rfl rfl ?_
 refine o_s2b Tryz.underlying9 Tryz.underlying75 Tryz.underlying5 (by omega) rfl rfl (fun As1 cs1 => ?_)
 refine ap (ai rfl) rfl rfl ?_
 refine ae ?_
 refine aj ?_
 refine ao ?_
 refine ao ?_
 refine ab ?_
 refine ap (ak rfl) rfl rfl ?_
 refine ap (bM Tryz.underlying75 rfl) rfl rfl ?_
 refine ap (ak rfl) rfl rfl ?_
 refine ae ?_
 refine aj ?_
 refine aP ?_
 refine d6 (σ := Nat) [5, 6, 7, 10, 12, 13, 14, 15, 16, 17, 18, 19, 20, 21, 22, 23] (fun k => k ≤ l.length) (fun k => l.length - k) (fun k => [(12, .int .i64 k), (10, .slice As1 ((l.take k).map t ++ l.drop k).length cs1), (5, .slice As1 ((l.take k).map t ++ l.drop k).length cs1)]) (fun k => Ch.ls As1 cs1 5 1 encb ((l.take k).map t ++ l.drop k)) (0) ?_ ⟨rfl, rfl, rfl, trivial⟩ rfl (fun k hI => ?_)
 exact Nat.zero_le _
 have hml := ck t l k
 refine ao ?_
 refine ab ?_
 refine ap (bF rfl rfl) rfl rfl ?_
 refine aC (t := 13) rfl (fun h3_0 => ?_) (fun h3_0 => ?_)
 refine ae ?_
 refine aj ?_
 refine ao ?_
 refine ay rfl ?_
 refine aH ?_
 refine aj ?_
 refine ao ?_
 refine aP ?_
 refine ao ?_
 refine ab ?_
 refine ap (ak rfl) rfl rfl ?_
 refine ap (bP  Tryz.underlying75 g9 rfl rfl (ek 0 rfl) rfl (by rw [ck]; omega)) rfl rfl ?_
 refine ap (cG enc_b (0 : UInt8) g9 rfl (ek 0 rfl) (by rw [ck]; omega) rfl rfl) rfl rfl ?_
 refine ap (ai rfl) rfl rfl ?_
 refine ap (ai rfl) rfl rfl ?_
 refine ae ?_
 refine aj ?_
 refine ab ?_
 refine ap (ak rfl) rfl rfl ?_
 refine ap (ak rfl) rfl rfl ?_
 refine ap (ak rfl) rfl rfl ?_
 refine ap (ak rfl) rfl rfl ?_
 refine o_callvp rfl rfl rfl hen (hf _) rfl ?_
 refine ap (bP  Tryz.underlying75 g9 rfl rfl (ek 0 rfl) rfl (by rw [ck]; omega)) rfl rfl ?_
 refine o_stm0 enc_b (0 : UInt8) _ g9 rfl rfl rfl .z rfl (by rw [ck]; omega) rfl rfl rfl ?_
 refine ae ?_
 refine bq ?_
 refine aj ?_
 refine ab ?_
 refine ap (bg rfl rfl (by omega) (by omega)) rfl rfl ?_
 refine ap (ak rfl) rfl rfl ?_
 refine ae ?_
 have hk : k < l.length := by omega
 refine bo (k + 1) ?_ ?_ ⟨rfl, lk rfl (by rw [ck, ck]), lk rfl (by rw [ck, ck]), trivial⟩ (by repeat (first | exact trivial | refine ⟨rfl, ?_⟩)) (fun w h => by rw [map_at t l k hk, fv t l k hk] at h; exact h)
 omega
 omega
 refine ae ?_
 refine aj ?_
 refine ao ?_
 refine au rfl ?_
 refine bC ?_
 refine aY ?_
 refine aU ?_
 refine a8 ?_
 refine aj ?_
 refine ao ?_
 refine ab ?_
 refine ap (ak rfl) rfl rfl ?_
 refine ap (y_b2s Tryz.underlying75 Tryz.underlying9 Tryz.underlying5 rfl (ek 0 rfl)) rfl rfl ?_
 refine ap (ai rfl) rfl rfl ?_
 refine ae ?_
 refine aj ?_
 refine aF ?_
 refine aJ (ts := [4]) rfl rfl rfl (fun w hw => ?_)
 obtain rfl : k = l.length := by omega
 exact ⟨by simp [d3], hw.base⟩

theorem c_label_Fold (l : aV) (hl : l.length ≤ 1000000000000) : cO Tryz.prog 147 #[.string (ba l)] (.string (ba (d5 l))) := by
 intro w0
 refine bd (ok0 := no) (S := []) (args := [.string (ba l)]) 7 Tryz.func147 rfl rfl rfl (by simp) (by simp) ?_
 refine ao ?_
 refine ab ?_
 refine ap (ai rfl) rfl rfl ?_
 refine ae ?_
 refine aj ?_
 refine ao ?_
 refine ab ?_
 refine ap (ai rfl) rfl rfl ?_
 refine ae ?_
 refine aj ?_
 refine ao ?_
 refine ab ?_
 refine ap (ak rfl) rfl rfl ?_
 refine ap (ak rfl) rfl rfl ?_
 refine aS rfl ent_204 (c_label_each _ 203 eG c_label_Fold1 ent_203 hl) rfl ?_
 refine ap (ai rfl) rfl rfl ?_
 refine ae ?_
 refine aj ?_
 refine aF ?_
 refine aJ (ts := [2]) rfl rfl rfl (fun w hw => ?_)
 exact ⟨rfl, hw.base⟩

def cutL (n : aV) : aV := if cY n then lab n else []
def cutR (n : aV) : aV := if cY n then rst n else n
theorem cutR_lt {n : aV} (h : cY n = true) : (cutR n).length < n.length := by unfold cutR; rw [if_pos h]; exact gN h
theorem cutR_ok {n : aV} (h : cY n = true) : cutR n = rst n := if_pos h
theorem cutL_ok {n : aV} (h : cY n = true) : cutL n = lab n := if_pos h
theorem cut_no {n : aV} (h : n = [] ∨ bt n 0 < 1 ∨ 63 < bt n 0 ∨ n.length ≤ bt n 0) : cY n = false := by
  cases hq : cY n with
  | false => rfl
  | true =>
    obtain ⟨h0, h1, h2, h3⟩ := cutOk_iff.1 hq
    rcases h with h | h
    · exact absurd h h0
    · omega

set_option maxRecDepth 100000 in
theorem ik (n : aV) : cO Tryz.prog 149 #[.string (ba n)] (.tuple #[.string (ba (cutL n)), .string (ba (cutR n)), .bool (cY n)]) := by
 intro w0
 refine bd (ok0 := no) (S := []) (args := [.string (ba n)]) 32 Tryz.func149 rfl rfl rfl (by simp) (by simp) ?_
 refine ao ?_
 refine ab ?_
 refine ap (ai rfl) rfl rfl ?_
 refine ap (ai rfl) rfl rfl ?_
 refine ap (ai rfl) rfl rfl ?_
 refine ae ?_
 refine aj ?_
 refine ao ?_
 refine ao ?_
 refine ab ?_
 refine ap (ak rfl) rfl rfl ?_
 refine ap (y_eqls rfl rfl) rfl rfl ?_
 refine aC (t := 7) rfl (fun h1_1 => ?_) (fun h1_1 => ?_)
 refine ae ?_
 refine aj ?_
 refine ay rfl ?_
 refine ao ?_
 refine ab ?_
 refine ap (ai rfl) rfl rfl ?_
 refine ap (ai rfl) rfl rfl ?_
 refine ap (ai rfl) rfl rfl ?_
 refine ae ?_
 refine aj ?_
 refine aF ?_
 refine aA ?_
 refine aJ (ts := [2, 3, 4]) rfl rfl rfl (fun w hw => ?_)
 subst h1_1
 exact ⟨rfl, hw.base⟩
 refine ae ?_
 refine aj ?_
 refine au rfl ?_
 refine aH ?_
 refine aj ?_
 refine ao ?_
 refine ab ?_
 refine ap (ak rfl) rfl rfl ?_
 have hs := len_pos h1_1
 have hb := bt_lt n 0
 refine ap (gE (k := 0) Tryz.underlying26 rfl rfl rfl (by omega)) rfl rfl ?_
 refine ap (dS Tryz.underlying5 Tryz.underlying3 rfl (iU (by omega) (by omega))) rfl rfl ?_
 refine ap (ai rfl) rfl rfl ?_
 refine ae ?_
 refine aj ?_
 refine ao ?_
 refine ao ?_
 refine ab ?_
 refine ap (ak rfl) rfl rfl ?_
 refine ap (bF rfl rfl) rfl rfl ?_
 refine aC (t := 12) rfl (fun h4_1 => ?_) (fun h4_1 => ?_)
 refine ap (ak rfl) rfl rfl ?_
 refine aO rfl rfl rfl rfl ?_
 refine aO rfl rfl rfl rfl ?_
 refine ap (aX rfl rfl) rfl rfl ?_
 refine ap (ak rfl) rfl rfl ?_
 refine aO rfl rfl rfl rfl ?_
 refine aO rfl rfl rfl rfl ?_
 refine aO rfl rfl rfl rfl ?_
 refine aO rfl rfl rfl rfl ?_
 refine ap (aX rfl rfl) rfl rfl ?_
 refine ae ?_
 refine aj ?_
 refine ay rfl ?_
 refine ao ?_
 refine ab ?_
 refine ap (ak rfl) rfl rfl ?_
 refine ap (ai rfl) rfl rfl ?_
 refine ap (ai rfl) rfl rfl ?_
 refine ap (ai rfl) rfl rfl ?_
 refine ae ?_
 refine aj ?_
 refine aF ?_
 refine aA ?_
 refine aJ (ts := [2, 3, 4]) rfl rfl rfl (fun w hw => ?_)
 have hc := cut_no (n := n) (by omega)
 exact ⟨by simp [d3, cutL, cutR, hc], hw.base⟩
 refine ap (ak rfl) rfl rfl ?_
 refine az rfl rfl ?_
 refine ap (ak rfl) rfl rfl ?_
 refine az rfl rfl ?_
 refine ap (eI rfl rfl) rfl rfl ?_
 refine aC (t := 15) rfl (fun h4_4 => ?_) (fun h4_4 => ?_)
 refine ap (aW rfl rfl) rfl rfl ?_
 refine ap (ak rfl) rfl rfl ?_
 refine aO rfl rfl rfl rfl ?_
 refine aO rfl rfl rfl rfl ?_
 refine aO rfl rfl rfl rfl ?_
 refine aO rfl rfl rfl rfl ?_
 refine ap (aX rfl rfl) rfl rfl ?_
 refine ae ?_
 refine aj ?_
 refine ay rfl ?_
 refine ao ?_
 refine ab ?_
 refine ap (ak rfl) rfl rfl ?_
 refine ap (ai rfl) rfl rfl ?_
 refine ap (ai rfl) rfl rfl ?_
 refine ap (ai rfl) rfl rfl ?_
 refine ae ?_
 refine aj ?_
 refine aF ?_
 refine aA ?_
 refine aJ (ts := [2, 3, 4]) rfl rfl rfl (fun w hw => ?_)
 have hc := cut_no (n := n) (by omega)
 exact ⟨by simp [d3, cutL, cutR, hc], hw.base⟩
 refine ap (aW rfl rfl) rfl rfl ?_
 refine ap (ak rfl) rfl rfl ?_
 refine az rfl rfl ?_
 refine ap (ak rfl) rfl rfl ?_
 refine az rfl rfl ?_
 refine ap (ak rfl) rfl rfl ?_
 refine az rfl rfl ?_
 refine ap (dW Tryz.underlying26 rfl) rfl rfl ?_
 refine az rfl rfl ?_
 refine ap (gF rfl rfl) rfl rfl ?_
 refine aC (t := 21) rfl (fun h4_10 => ?_) (fun h4_10 => ?_)
 refine ap (aW rfl rfl) rfl rfl ?_
 refine ae ?_
 refine aj ?_
 refine ay rfl ?_
 refine ao ?_
 refine ab ?_
 refine ap (ak rfl) rfl rfl ?_
 refine ap (ai rfl) rfl rfl ?_
 refine ap (ai rfl) rfl rfl ?_
 refine ap (ai rfl) rfl rfl ?_
 refine ae ?_
 refine aj ?_
 refine aF ?_
 refine aA ?_
 refine aJ (ts := [2, 3, 4]) rfl rfl rfl (fun w hw => ?_)
 have hc := cut_no (n := n) (by omega)
 exact ⟨by simp [d3, cutL, cutR, hc], hw.base⟩
 refine ap (aW rfl rfl) rfl rfl ?_
 refine ae ?_
 refine aj ?_
 refine au rfl ?_
 refine aH ?_
 refine aj ?_
 refine ao ?_
 refine eh 11 rfl mixed ?_
 refine aD (i := 0) rfl ah (ak rfl) aw aw rfl (aa ar) (by kernel_rfl) rfl ?_
 refine aD (i := 1) rfl ah (ak rfl) aw aw rfl (aa ar) (by kernel_rfl) rfl ?_
 refine aD (i := 2) rfl ah (bg rfl rfl (by omega) (by omega)) aw aw rfl (aa ar) (by kernel_rfl) rfl ?_
 refine aD (i := 3) rfl ah (y_slices (m := 1) (n := 1 + bt n 0) Tryz.underlying26 rfl rfl rfl rfl (by omega) (by omega) (by omega)) aw aw rfl (aa ar) (by kernel_rfl) rfl ?_
 refine aD (i := 4) rfl ah (ak rfl) aw aw rfl (aa ar) (by kernel_rfl) rfl ?_
 refine aD (i := 5) rfl ah (ak rfl) aw aw rfl (aa ar) (by kernel_rfl) rfl ?_
 refine aD (i := 6) rfl ah (bg rfl rfl (by omega) (by omega)) aw aw rfl (aa ar) (by kernel_rfl) rfl ?_
 refine aD (i := 7) rfl ah (y_slices_lo (m := 1 + bt n 0) Tryz.underlying26 rfl rfl (by omega) (by omega)) aw aw rfl (aa ar) (by kernel_rfl) rfl ?_
 refine aD (i := 8) rfl ah (ai rfl) aw aw rfl (aa ar) (by kernel_rfl) rfl ?_
 refine aD (i := 9) rfl ah (ai rfl) aw aw rfl (aa ar) (by kernel_rfl) rfl ?_
 refine aD (i := 10) rfl ah (ai rfl) aw aw rfl (aa ar) (by kernel_rfl) rfl ?_
 refine cB (by kernel_rfl) ?_
 refine aj ?_
 refine aF ?_
 refine aJ (ts := [2, 3, 4]) rfl rfl rfl (fun w hw => ?_)
 have hc : cY n = true := cutOk_iff.2 ⟨h1_1, by omega, by omega, by omega⟩
 exact ⟨by simp [d3, cutL, cutR, hc, lab, rst], hw.base⟩

theorem iG (n : aV) : cO Tryz.prog 74 #[.string (ba n)] (.int .i64 (bB n)) := by
 intro w0
 refine bd (ok0 := no) (S := []) (args := [.string (ba n)]) 20 Tryz.func74 rfl rfl rfl (by simp) (by simp) ?_
 refine ao ?_
 refine ab ?_
 refine ap (ai rfl) rfl rfl ?_
 refine ae ?_
 refine aj ?_
 refine ao ?_
 refine ao ?_
 refine ab ?_
 refine ap (ak rfl) rfl rfl ?_
 refine ap (dW Tryz.underlying26 rfl) rfl rfl ?_
 refine ap (eI rfl rfl) rfl rfl ?_
 refine aC (t := 8) rfl (fun h1_2 => ?_) (fun h1_2 => ?_)
 refine ae ?_
 refine aj ?_
 refine ay rfl ?_
 refine ao ?_
 refine ab ?_
 refine ap (ai rfl) rfl rfl ?_
 refine ae ?_
 refine aj ?_
 refine aF ?_
 refine aA ?_
 refine aJ (ts := [2]) rfl rfl rfl (fun w hw => ?_)
 exact ⟨by simp [d3, bB, show 254 < n.length by omega], hw.base⟩
 refine ae ?_
 refine aj ?_
 refine au rfl ?_
 refine aH ?_
 refine aj ?_
 refine ao ?_
 refine aP ?_
 refine b8 (σ := aV) [0, 2, 3, 4, 5, 9, 10, 11, 12, 13, 14, 15, 16, 17, 18, 19] (fun r => iy n = iy r) (fun r => r.length) (fun r => [(0, .string (ba r))]) (n) ?_ ⟨rfl, trivial⟩ (fun r hI => ?_)
 rfl
 refine ao ?_
 refine ao ?_
 refine ab ?_
 refine ap (ak rfl) rfl rfl ?_
 refine ap (y_neqs rfl rfl) rfl rfl ?_
 refine aC (t := 10) rfl (fun h3_1 => ?_) (fun h3_1 => ?_)
 refine ae ?_
 refine aj ?_
 refine ay rfl ?_
 refine aH ?_
 refine aj ?_
 refine aP ?_
 refine ao ?_
 refine ab ?_
 refine ap (ak rfl) rfl rfl ?_
 refine aS rfl ent_149 (ik _) rfl ?_
 refine ap (ak rfl) rfl rfl ?_
 refine ap (aI rfl rfl) rfl rfl ?_
 refine ap (aI rfl rfl) rfl rfl ?_
 refine ap (aI rfl rfl) rfl rfl ?_
 refine bk (t := 16) rfl (fun h4_5 => ?_) (fun h4_5 => ?_)
 refine ap (ai rfl) rfl rfl ?_
 refine ap (ai rfl) rfl rfl ?_
 refine ap (ai rfl) rfl rfl ?_
 refine ae ?_
 refine aj ?_
 refine ao ?_
 refine ao ?_
 refine ab ?_
 refine ap (ak rfl) rfl rfl ?_
 refine ap (bJ rfl) rfl rfl ?_
 refine ae ?_
 refine aj ?_
 refine au rfl ?_
 refine aH ?_
 refine aj ?_
 refine ab ?_
 refine ap (ak rfl) rfl rfl ?_
 refine ap (ai rfl) rfl rfl ?_
 refine ae ?_
 refine bq ?_
 refine bo (cutR r) ?_ ?_ ⟨rfl, trivial⟩ (by repeat (first | exact trivial | refine ⟨rfl, ?_⟩)) aw
 have hc := h4_5
 rw [hI, fQ r, hc, cutR_ok hc]; simp [h3_1]
 have hc := h4_5
 exact cutR_lt hc
 refine ap (ai rfl) rfl rfl ?_
 refine ap (ai rfl) rfl rfl ?_
 refine ap (ai rfl) rfl rfl ?_
 refine ae ?_
 refine aj ?_
 refine ao ?_
 refine ao ?_
 refine ab ?_
 refine ap (ak rfl) rfl rfl ?_
 refine ap (bJ rfl) rfl rfl ?_
 refine ae ?_
 refine aj ?_
 refine ay rfl ?_
 refine ao ?_
 refine ab ?_
 refine ap (ai rfl) rfl rfl ?_
 refine ae ?_
 refine aj ?_
 refine aF ?_
 refine aA ?_
 refine aL ?_
 refine bu ?_
 refine aL ?_
 refine aA ?_
 refine aJ (ts := [2]) rfl rfl rfl (fun w hw => ?_)
 have hc := h4_5
 have ho : iy n = false := by rw [hI, fQ, hc]; simp [h3_1]
 exact ⟨by simp [d3, bB, show ¬ 254 < n.length by omega, ho], hw.base⟩
 refine ae ?_
 refine aj ?_
 refine au rfl ?_
 refine bC ?_
 refine aY ?_
 refine aU ?_
 refine a8 ?_
 refine aj ?_
 refine ao ?_
 refine ab ?_
 refine ap (ai rfl) rfl rfl ?_
 refine ae ?_
 refine aj ?_
 refine aF ?_
 refine aJ (ts := [2]) rfl rfl rfl (fun w hw => ?_)
 have ho : iy n = true := by rw [hI, show r = [] by simpa using h3_1]; rfl
 exact ⟨by simp [d3, bB, show ¬ 254 < n.length by omega, ho], hw.base⟩

theorem c_name_each (n : aV) : RC Tryz.prog 202 #[.string (ba n)] [] (α := Nat) (fun b => .func (.func 236) #[] #[.pointer (some ⟨b, 0, none⟩)]) (fun b => [Ch.row b [.string (ba n)] 26]) := by
 refine bi (args := [.string (ba n)]) 4 Tryz.func202 rfl rfl rfl (fun w0 => ?_)
 refine ao ?_
 refine ab ?_
 refine bE rfl rfl rfl (fun b1 => ?_)
 refine ap (ai rfl) rfl rfl ?_
 refine ae ?_
 refine aj ?_
 refine ao ?_
 refine ab ?_
 refine ap (ee rfl rfl) rfl rfl ?_
 refine ap (ai rfl) rfl rfl ?_
 refine ae ?_
 refine aj ?_
 refine aF ?_
 refine aJ (ts := [2]) rfl rfl rfl (fun w hw => ?_)
 exact ⟨b1, rfl, hw.base, (hw.weak (.cons_cons _ .slnil) (fun s hs => hs)).toNews⟩

theorem c_name_each1 (n : aV) (b : Nat) : Iter Tryz.prog 236 [.pointer (some ⟨b, 0, none⟩)] [Ch.row b [.string (ba n)] 26] dw (eL n) := by
 refine iter_of_W 24 Tryz.func236 rfl rfl rfl (fun lr σ I Ix C Sc hy g0 hg0 w0 => ?_)
 refine ao ?_
 refine ab ?_
 refine ap (bp 0 bL rfl rfl rfl) rfl rfl ?_
 refine aS rfl ent_149 (ik _) rfl ?_
 refine ap (ak rfl) rfl rfl ?_
 refine ap (aI rfl rfl) rfl rfl ?_
 refine ap (aI rfl rfl) rfl rfl ?_
 refine ap (aI rfl rfl) rfl rfl ?_
 refine ap (ai rfl) rfl rfl ?_
 refine ap (ai rfl) rfl rfl ?_
 refine ap (ai rfl) rfl rfl ?_
 refine ae ?_
 refine aj ?_
 refine aP ?_
 refine d6 (σ := List aV × aV × σ) [3, 4, 5, 12, 13, 14, 15, 16, 17, 18, 19, 20, 21, 22, 23] (fun q => eL n = q.1 ++ eL q.2.1 ∧ I q.1 q.2.2) (fun q => q.2.1.length) (fun q => [(3, .string (ba (cutL q.2.1))), (4, .string (ba (cutR q.2.1))), (5, .bool (cY q.2.1))]) (fun q => C q.2.2) (([], n, g0)) ?_ ⟨rfl, rfl, rfl, trivial⟩ rfl (fun q hI => ?_)
 exact ⟨rfl, hg0⟩
 obtain ⟨pre, r, g⟩ := q
 obtain ⟨hxs, hI⟩ := hI
 dsimp only at hxs hI ⊢
 refine ao ?_
 refine ao ?_
 refine ab ?_
 refine ap (ak rfl) rfl rfl ?_
 refine bk (t := 12) rfl (fun h1_0 => ?_) (fun h1_0 => ?_)
 have hx2 : eL n = pre ++ cutL r :: eL (rst r) := by rw [hxs, gy r, if_pos h1_0, cutL_ok h1_0]
 refine ap (ak rfl) rfl rfl ?_
 refine az rfl rfl ?_
 refine ap (ak rfl) rfl rfl ?_
 refine az rfl rfl ?_
 refine ap (ak rfl) rfl rfl ?_
 refine az rfl rfl ?_
 refine iC rfl rfl (hy pre (cutL r) _ g hx2 hI) (fun _ => .z) (fun s hs => List.mem_append_right _ hs) rfl (fun g' hT => ?_) (fun g' hF => ?_)
 refine ap (aX rfl rfl) rfl rfl ?_
 refine ae ?_
 refine aj ?_
 refine ay rfl ?_
 refine aH ?_
 refine aj ?_
 refine ao ?_
 refine aP ?_
 refine aH ?_
 refine bq ?_
 refine aj ?_
 refine ab ?_
 refine ap (ak rfl) rfl rfl ?_
 refine aS rfl ent_149 (ik _) rfl ?_
 refine ap (ak rfl) rfl rfl ?_
 refine ap (aI rfl rfl) rfl rfl ?_
 refine ap (aI rfl rfl) rfl rfl ?_
 refine ap (aI rfl rfl) rfl rfl ?_
 refine ap (ai rfl) rfl rfl ?_
 refine ap (ai rfl) rfl rfl ?_
 refine ap (ai rfl) rfl rfl ?_
 refine ae ?_
 refine bo ((pre ++ [cutL r], cutR r, g')) ?_ ?_ ⟨rfl, rfl, rfl, trivial⟩ (by repeat (first | exact trivial | refine ⟨rfl, ?_⟩)) aw
 exact ⟨by rw [hx2, cutR_ok h1_0]; simp, hT⟩
 exact cutR_lt h1_0
 refine ap (aX rfl rfl) rfl rfl ?_
 refine ae ?_
 refine aj ?_
 refine au rfl ?_
 refine bC ?_
 refine aY ?_
 refine aU ?_
 refine a8 ?_
 refine i5 (ts := []) rfl rfl rfl (fun w hw => ?_)
 exact fY _ (.inr ⟨_, eL (rst r), by rw [hx2]; simp, hF⟩) hw
 refine ap (ak rfl) rfl rfl ?_
 refine aO rfl rfl rfl rfl ?_
 refine aO rfl rfl rfl rfl ?_
 refine aO rfl rfl rfl rfl ?_
 refine ap (aW rfl rfl) rfl rfl ?_
 refine ae ?_
 refine aj ?_
 refine au rfl ?_
 refine bC ?_
 refine aY ?_
 refine aU ?_
 refine a8 ?_
 refine i5 (ts := []) rfl rfl rfl (fun w hw => ?_)
 have hr : eL r = [] := by rw [gy, if_neg (by rw [h1_0]; simp)]
 exact fY _ (.inl (by rw [hxs, hr, List.append_nil]; exact hI)) hw

theorem c_AppendSeq_s (xs : List aV) (gf : Nat) (lb : List Value) (Sx : List Ch) (hit : Iter Tryz.prog gf lb Sx dw xs) (hen : Enters Tryz.prog gf) (hl : xs.length ≤ 1000000000000) : RC Tryz.prog 235 #[.slice none 0 0, .func (.func gf) #[] lb.toArray] Sx (α := Option Addr × Nat) (fun p => .slice p.1 xs.length p.2) (fun p => [Ch.ls p.1 p.2 9 1 dw xs]) := by
 refine iH (args := [.slice none 0 0, .func (.func gf) #[] lb.toArray]) 13 Tryz.func235 rfl rfl rfl (fun w0 => ?_)
 refine ao ?_
 refine ab ?_
 refine bE rfl rfl rfl (fun b1 => ?_)
 refine ap (ai rfl) rfl rfl ?_
 refine ae ?_
 refine aj ?_
 refine ao ?_
 refine ao ?_
 refine ab ?_
 refine ap (ak rfl) rfl rfl ?_
 refine ae ?_
 refine aj ?_
 refine aP ?_
 refine cH (fun w h => h.nilsl 9 1) ?_
 refine w_range (σ := List aV × Option Addr × Nat) (fun pre g => g.1 = pre) (fun c pre g => False) (fun g => [Ch.ls g.2.1 g.2.2 9 1 dw g.1, Ch.row b1 [.slice g.2.1 g.1.length g.2.2] 135]) (([], none, 0)) rfl rfl hen (hit) (fun s hs => hs) rfl (fun _ => rfl) (rfl) rfl (fun pre e post g hxs hI lr D r hr okb wb => ?_) (fun g D0 hI => ?_) (fun c pre post g D0 hxs hI => ?_)
 obtain ⟨q, A, c⟩ := g
 dsimp only at hI ⊢
 subst hI
 refine ab ?_
 refine ap (ai rfl) rfl rfl ?_
 refine ae ?_
 refine gW rfl hr .z ?_
 refine aP ?_
 refine ab ?_
 have hql : q.length < xs.length := by rw [hxs]; simp
 refine ap (aM 3 ty_135 rfl rfl rfl) rfl rfl ?_
 refine ap (ak rfl) rfl rfl ?_
 refine du (vs := [_]) ([_] : List (aV)) dq Tryz.underlying135 fy rfl rfl rfl rfl rfl rfl (fun As2 => ?_)
 refine cg (enc := dw) (sz := 1) _ Tryz.underlying135 fy rfl rfl rfl (fun A c => (.s (.s (.s (.z))))) (eZ 0 Tryz.underlying135 rfl) (by simp only [List.length_cons, List.length_nil, Nat.zero_add]; omega) (by simp only [List.length_cons, List.length_nil, Nat.zero_add]; omega) rfl (fun A2 c2 => ?_)
 refine aT ty_135 rfl rfl rfl (.s (.s (.s (.s (.z))))) rfl rfl rfl rfl ?_
 refine ae ?_
 refine bq ?_
 refine ib ((q ++ [e], A2, c2)) ?_ (bS 1)
 rfl
 obtain ⟨q, A, c⟩ := g
 dsimp only at hI ⊢
 subst hI
 refine bq ?_
 refine aj ?_
 refine ao ?_
 refine ab ?_
 refine ap (aM 2 ty_135 rfl rfl rfl) rfl rfl ?_
 refine ap (ai rfl) rfl rfl ?_
 refine ae ?_
 refine aj ?_
 refine aF ?_
 refine gg ?_
 refine fD .z ?_
 refine eN (rs := [.tmp 4]) rfl (cC rfl bR) (fun w hw => ?_)
 exact ⟨(A, c), rfl, hw.base, (hw.weak (.cons _ (.cons_cons _ (.cons _ .slnil))) (fun s hs => hs)).toNews⟩
 exact hI.elim

theorem c_Collect_s (xs : List aV) (gf : Nat) (lb : List Value) (Sx : List Ch) (hit : Iter Tryz.prog gf lb Sx dw xs) (hen : Enters Tryz.prog gf) (hl : xs.length ≤ 1000000000000) : RC Tryz.prog 201 #[.func (.func gf) #[] lb.toArray] Sx (α := Option Addr × Nat) (fun p => .slice p.1 xs.length p.2) (fun p => [Ch.ls p.1 p.2 9 1 dw xs]) := by
 refine bi (args := [.func (.func gf) #[] lb.toArray]) 5 Tryz.func201 rfl rfl rfl (fun w0 => ?_)
 refine ao ?_
 refine ab ?_
 refine ap (ai rfl) rfl rfl ?_
 refine ae ?_
 refine aj ?_
 refine ao ?_
 refine ab ?_
 refine ap (ak rfl) rfl rfl ?_
 refine co rfl ent_235 rfl (c_AppendSeq_s xs gf lb Sx hit hen hl) (fun w hw => hw.rd) (fun ⟨A0, c0⟩ => ?_)
 refine ap (ai rfl) rfl rfl ?_
 refine ae ?_
 refine aj ?_
 refine aF ?_
 refine aJ (ts := [2]) rfl rfl rfl (fun w hw => ?_)
 exact ⟨(A0, c0), rfl, hw.base, (hw.weak (.cons_cons _ .slnil) (fun s hs => hs)).toNews⟩

theorem c_name_Labels (n : aV) : RC Tryz.prog 146 #[.string (ba n)] [] (α := Option Addr × Nat) (fun p => .slice p.1 (ce n).length p.2) (fun p => [Ch.ls p.1 p.2 9 1 dw (ce n)]) := by
 refine bi (args := [.string (ba n)]) 9 Tryz.func146 rfl rfl rfl (fun w0 => ?_)
 refine ao ?_
 refine ab ?_
 refine ap (ai rfl) rfl rfl ?_
 refine ae ?_
 refine aj ?_
 refine ao ?_
 refine ao ?_
 refine ab ?_
 refine ap (ak rfl) rfl rfl ?_
 refine aS rfl ent_74 (iG _) rfl ?_
 refine ap (cv rfl rfl) rfl rfl ?_
 refine aC (t := 5) rfl (fun h1_2 => ?_) (fun h1_2 => ?_)
 refine ae ?_
 refine aj ?_
 refine ay rfl ?_
 refine ao ?_
 refine ab ?_
 refine ap (ai rfl) rfl rfl ?_
 refine ae ?_
 refine aj ?_
 refine aF ?_
 refine aA ?_
 refine aJ (ts := [2]) rfl rfl rfl (fun w hw => ?_)
 have hl : ce n = [] := if_neg (by omega)
 rw [hl]
 exact ⟨(none, 0), rfl, hw.base, (hw.nilsl 9 1).toNews⟩
 refine ae ?_
 refine aj ?_
 refine au rfl ?_
 refine aH ?_
 refine aj ?_
 refine ao ?_
 refine ab ?_
 refine ap (ak rfl) rfl rfl ?_
 refine co rfl ent_202 rfl (c_name_each _) (fun w hw => bf) (fun o0 => ?_)
 refine cE (fun w h => h.freeze) ?_
 have hck : bB n = 0 := by omega
 have hnl := nameCk_zero.1 hck
 have hll := labs_len n
 refine co rfl ent_201 rfl (c_Collect_s (eL n) 236 [.pointer (some ⟨o0, 0, none⟩)] [Ch.row o0 [.string (ba n)] 26] (c_name_each1 n _) ent_236 (by omega)) (fun w hw => (aQ (cI 0 rfl hw) bf)) (fun ⟨A1, c1⟩ => ?_)
 refine ap (ai rfl) rfl rfl ?_
 refine ae ?_
 refine aj ?_
 refine aF ?_
 refine aJ (ts := [2]) rfl rfl rfl (fun w hw => ?_)
 have hl : ce n = eL n := if_pos hck
 rw [hl]
 exact ⟨(A1, c1), rfl, hw.base, hw.toNews⟩
end Go.Proofs.YtnpdgmoeoidppaaGreat

/- strings.Builder, name.Make, name.Fold -/
namespace Go.Proofs.YtnpdgmoeoidppaaGreat
open Go.RowKit Go.Shelf
set_option linter.unusedVariables false
set_option linter.unusedSimpArgs false

theorem ent_146 : Enters Tryz.prog 146 := enters_of Tryz.func146 (by kernel_rfl) rfl
theorem ent_147 : Enters Tryz.prog 147 := enters_of Tryz.func147 (by kernel_rfl) rfl
theorem ent_148 : Enters Tryz.prog 148 := enters_of Tryz.func148 (by kernel_rfl) rfl
theorem ent_205 : Enters Tryz.prog 205 := enters_of Tryz.func205 (by kernel_rfl) rfl
theorem ent_206 : Enters Tryz.prog 206 := enters_of Tryz.func206 (by kernel_rfl) rfl
theorem ent_207 : Enters Tryz.prog 207 := enters_of Tryz.func207 (by kernel_rfl) rfl
theorem ent_208 : Enters Tryz.prog 208 := enters_of Tryz.func208 (by kernel_rfl) rfl
theorem ent_209 : Enters Tryz.prog 209 := enters_of Tryz.func209 (by kernel_rfl) rfl
theorem ent_237 : Enters Tryz.prog 237 := enters_of Tryz.func237 (by kernel_rfl) rfl
theorem ja : FA Tryz.prog 246 0 0 := fun b o w => by kernel_rfl
theorem fo : FA Tryz.prog 246 1 1 := fun b o w => by kernel_rfl
theorem ty_244 : TyI Tryz.prog 244 false 1 8 (.pointer none) := TyI.mk' (by kernel_rfl) (fun _ => by kernel_rfl)
theorem ty_246 : TyI Tryz.prog 246 true 2 32 (.agg #[.pointer none, .slice none 0 0]) := TyI.mk' (by kernel_rfl) (fun _ => by kernel_rfl)
theorem ty_75 : TyI Tryz.prog 75 false 1 24 (.slice none 0 0) := TyI.mk' (by kernel_rfl) (fun _ => by kernel_rfl)

theorem c_copyCheck (b : Nat) (A : Option Addr) (c : Nat) (s : aV) : UC Tryz.prog 237 #[.pointer (some ⟨b, 0, none⟩)] [] (Ch.bld 246 5 b A c s) (α := Unit) (fun _ => .tuple #[]) (fun _ => Ch.bld 246 5 b A c s) := by
 refine ea (args := [.pointer (some ⟨b, 0, none⟩)]) 20 Tryz.func237 rfl rfl rfl (fun w0 => ?_)
 refine w_bldo fun p hp => ?_
 rcases hp with rfl | rfl
 refine ao ?_
 refine ab ?_
 refine ap (ak rfl) rfl rfl ?_
 refine ap (aR rfl) rfl rfl ?_
 refine ap (aB ja rfl) rfl rfl ?_
 refine ap (aM 0 ty_244 rfl rfl rfl) rfl rfl ?_
 refine ap (eH Tryz.underlying244 rfl rfl) rfl rfl ?_
 refine bV (t := 6) (.bool true) rfl (congrArg Value.bool rfl) ?_
 refine ae ?_
 refine aj ?_
 refine ay rfl ?_
 refine ab ?_
 refine ap (ak rfl) rfl rfl ?_
 refine ap (ak rfl) rfl rfl ?_
 refine ap (y_tou (n := 2) Tryz.underlying244 Tryz.underlying287 ty_246 rfl (by omega) rfl (shape_rown 0 rfl rfl)) rfl rfl ?_
 refine o_ext rfl (fun w => by rw [run_callFunc_extern Tryz.func255 (by kernel_rfl) (by kernel_rfl) (by kernel_rfl) (e := Extern.AbiNoEscape.same) (by kernel_rfl), Lib.run_noEscape]; rfl) rfl ?_
 refine ap (y_fromu (n := 2) Tryz.underlying287 Tryz.underlying244 ty_246 (by kernel_rfl) rfl (shape_rown 0 rfl rfl)) rfl rfl ?_
 refine ap (aR rfl) rfl rfl ?_
 refine ap (aB ja rfl) rfl rfl ?_
 refine aT ty_244 rfl rfl rfl .z rfl rfl rfl rfl ?_
 refine ae ?_
 refine i5 (ts := []) rfl rfl rfl (fun w hw => ?_)
 exact ⟨(), rfl, (Hp.bldc (.inr rfl) rfl rfl hw).uc⟩
 refine ao ?_
 refine ab ?_
 refine ap (ak rfl) rfl rfl ?_
 refine ap (aR rfl) rfl rfl ?_
 refine ap (aB ja rfl) rfl rfl ?_
 refine ap (aM 0 ty_244 rfl rfl rfl) rfl rfl ?_
 refine ap (eH Tryz.underlying244 rfl rfl) rfl rfl ?_
 refine bV (t := 6) (.bool false) rfl (congrArg Value.bool rfl) ?_
 refine ae ?_
 refine aj ?_
 refine au rfl ?_
 refine ao ?_
 refine ab ?_
 refine ap (ak rfl) rfl rfl ?_
 refine ap (aR rfl) rfl rfl ?_
 refine ap (aB ja rfl) rfl rfl ?_
 refine ap (aM 0 ty_244 rfl rfl rfl) rfl rfl ?_
 refine ap (ak rfl) rfl rfl ?_
 refine ap (y_neps Tryz.underlying244 ty_246 rfl rfl) rfl rfl ?_
 refine ae ?_
 refine aj ?_
 refine au rfl ?_
 refine aH ?_
 refine i5 (ts := []) rfl rfl rfl (fun w hw => ?_)
 exact ⟨(), rfl, (Hp.bldc (.inr rfl) rfl rfl hw).uc⟩

theorem c_WriteByte (b : Nat) (A : Option Addr) (c : Nat) (s : aV) (ch : UInt8) (hs : s.length ≤ 1000000000000) : UC Tryz.prog 206 #[.pointer (some ⟨b, 0, none⟩), .int .u8 ch.toNat] [] (Ch.bld 246 5 b A c s) (α := Option Addr × Nat) (fun p => .nilIface) (fun p => Ch.bld 246 5 b p.1 p.2 (s ++ [ch])) := by
 refine ea (args := [.pointer (some ⟨b, 0, none⟩), .int .u8 ch.toNat]) 17 Tryz.func206 rfl rfl rfl (fun w0 => ?_)
 refine ao ?_
 refine ab ?_
 refine ap (ai rfl) rfl rfl ?_
 refine ae ?_
 refine aj ?_
 refine ao ?_
 refine ab ?_
 refine ap (ak rfl) rfl rfl ?_
 refine cu rfl ent_237 rfl (c_copyCheck _ _ _ _) (fun o => .z) (List.mem_of_getElem? (i := 0) rfl) (fun s hs => nomatch hs) (fun o0 => ?_)
 refine ae ?_
 refine aj ?_
 refine ao ?_
 refine w_bldo fun p hp => ?_
 refine ab ?_
 refine ap (ak rfl) rfl rfl ?_
 refine ap (ak rfl) rfl rfl ?_
 refine ap (aR rfl) rfl rfl ?_
 refine ap (aB fo rfl) rfl rfl ?_
 refine ap (aM 0 ty_75 rfl rfl rfl) rfl rfl ?_
 refine ap (ak rfl) rfl rfl ?_
 refine du (vs := [_]) ([_] : List (UInt8)) enc_b Tryz.underlying75 g9 rfl rfl rfl rfl rfl rfl (fun As2 => ?_)
 refine cg (enc := encb) (sz := 1) _ Tryz.underlying75 g9 rfl rfl rfl (fun A c => (.s (.s (.z)))) (eZ 0 Tryz.underlying75 rfl) (by simp only [List.length_cons, List.length_nil, Nat.zero_add]; omega) (by simp only [List.length_cons, List.length_nil, Nat.zero_add]; omega) rfl (fun A2 c2 => ?_)
 refine ap (aR rfl) rfl rfl ?_
 refine ap (aB fo rfl) rfl rfl ?_
 refine aT ty_75 rfl rfl rfl (.s (.z)) rfl rfl rfl rfl ?_
 refine ae ?_
 refine aj ?_
 refine ao ?_
 refine ab ?_
 refine ap (ai rfl) rfl rfl ?_
 refine ae ?_
 refine aj ?_
 refine aF ?_
 refine aJ (ts := [4]) rfl rfl rfl (fun w hw => ?_)
 exact ⟨(A2, c2), rfl, (Hp.bldc hp rfl rfl (hw.weak (.cons _ (.cons_cons _ (.cons_cons _ .slnil))) (fun s hs => hs))).uc⟩

theorem c_WriteString (b : Nat) (A : Option Addr) (c : Nat) (s t : aV) (hs : s.length + t.length ≤ 1000000000000) : UC Tryz.prog 207 #[.pointer (some ⟨b, 0, none⟩), .string (ba t)] [] (Ch.bld 246 5 b A c s) (α := Option Addr × Nat) (fun p => .tuple #[.int .i64 t.length, .nilIface]) (fun p => Ch.bld 246 5 b p.1 p.2 (s ++ t)) := by
 refine ea (args := [.pointer (some ⟨b, 0, none⟩), .string (ba t)]) 19 Tryz.func207 rfl rfl rfl (fun w0 => ?_)
 refine ao ?_
 refine ab ?_
 refine ap (ai rfl) rfl rfl ?_
 refine ap (ai rfl) rfl rfl ?_
 refine ae ?_
 refine aj ?_
 refine ao ?_
 refine ab ?_
 refine ap (ak rfl) rfl rfl ?_
 refine cu rfl ent_237 rfl (c_copyCheck _ _ _ _) (fun o => .z) (List.mem_of_getElem? (i := 0) rfl) (fun s hs => nomatch hs) (fun o0 => ?_)
 refine ae ?_
 refine aj ?_
 refine ao ?_
 refine w_bldo fun p hp => ?_
 refine ab ?_
 refine ap (ak rfl) rfl rfl ?_
 refine ap (ak rfl) rfl rfl ?_
 refine ap (aR rfl) rfl rfl ?_
 refine ap (aB fo rfl) rfl rfl ?_
 refine ap (aM 0 ty_75 rfl rfl rfl) rfl rfl ?_
 refine ap (ak rfl) rfl rfl ?_
 refine cg (enc := encb) (sz := 1) t Tryz.underlying75 g9 rfl rfl rfl (fun A c => (.s (.z))) (src_str Tryz.underlying9) (by omega) (by omega) rfl (fun A1 c1 => ?_)
 refine ap (aR rfl) rfl rfl ?_
 refine ap (aB fo rfl) rfl rfl ?_
 refine aT ty_75 rfl rfl rfl .z rfl rfl rfl rfl ?_
 refine ae ?_
 refine aj ?_
 refine ao ?_
 refine ab ?_
 refine ap (ak rfl) rfl rfl ?_
 refine ap (dW Tryz.underlying9 rfl) rfl rfl ?_
 refine ap (ai rfl) rfl rfl ?_
 refine ap (ai rfl) rfl rfl ?_
 refine ae ?_
 refine aj ?_
 refine aF ?_
 refine aJ (ts := [4, 5]) rfl rfl rfl (fun w hw => ?_)
 exact ⟨(A1, c1), rfl, (Hp.bldc hp rfl rfl (hw.weak (.cons_cons _ (.cons_cons _ .slnil)) (fun s hs => hs))).uc⟩

theorem c_bld_Len (b : Nat) (A : Option Addr) (c : Nat) (s : aV) : RC Tryz.prog 208 #[.pointer (some ⟨b, 0, none⟩)] [Ch.bld 246 5 b A c s] (α := Unit) (fun _ => .int .i64 s.length) (fun _ => []) := by
 refine bi (args := [.pointer (some ⟨b, 0, none⟩)]) 8 Tryz.func208 rfl rfl rfl (fun w0 => ?_)
 refine ao ?_
 refine ab ?_
 refine ap (ai rfl) rfl rfl ?_
 refine ae ?_
 refine aj ?_
 refine ao ?_
 refine ab ?_
 refine ap (ak rfl) rfl rfl ?_
 refine ap (aR rfl) rfl rfl ?_
 refine ap (aB fo rfl) rfl rfl ?_
 refine ap (y_load ty_75 rfl (fun w hw => bld_cell (hw.sh _ (List.mem_of_getElem? (i := 0) rfl)))) rfl rfl ?_
 refine ap (bM Tryz.underlying75 rfl) rfl rfl ?_
 refine ap (ai rfl) rfl rfl ?_
 refine ae ?_
 refine aj ?_
 refine aF ?_
 refine aJ (ts := [2]) rfl rfl rfl (fun w hw => ?_)
 exact ⟨(), rfl, hw.base, hw.toNews⟩

set_option maxRecDepth 100000 in
theorem c_bld_String (b : Nat) (A : Option Addr) (c : Nat) (s : aV) : UC Tryz.prog 209 #[.pointer (some ⟨b, 0, none⟩)] [] (Ch.bld 246 5 b A c s) (α := Unit) (fun _ => .string (ba s)) (fun _ => Ch.nil0) := by
 refine ea (args := [.pointer (some ⟨b, 0, none⟩)]) 14 Tryz.func209 rfl rfl rfl (fun w0 => ?_)
 refine ao ?_
 refine ab ?_
 refine ap (ai rfl) rfl rfl ?_
 refine ae ?_
 refine aj ?_
 refine ao ?_
 refine w_bldo fun p hp => ?_
 refine w_sf ?_
 refine eh 12 rfl mixed ?_
 refine aD (i := 0) rfl ah (ak rfl) aw aw rfl (aa ar) (by kernel_rfl) rfl ?_
 refine aD (i := 1) rfl ah (aR rfl) aw aw rfl (aa ar) (by kernel_rfl) rfl ?_
 refine aD (i := 2) rfl ah (aB fo rfl) aw aw rfl (aa ar) (by kernel_rfl) rfl ?_
 refine aD (i := 3) rfl ah (aM 0 ty_75 rfl rfl rfl) aw aw rfl (aa ar) (by kernel_rfl) rfl ?_
 refine aD (i := 5) rfl ah (ak rfl) aw aw rfl (aa ar) (by kernel_rfl) rfl ?_
 refine aD (i := 6) rfl ah (aR rfl) aw aw rfl (aa ar) (by kernel_rfl) rfl ?_
 refine aD (i := 7) rfl ah (aB fo rfl) aw aw rfl (aa ar) (by kernel_rfl) rfl ?_
 refine aD (i := 8) rfl ah (aM 0 ty_75 rfl rfl rfl) aw aw rfl (aa ar) (by kernel_rfl) rfl ?_
 refine aD (i := 9) rfl ah (bM Tryz.underlying75 rfl) aw aw rfl (aa ar) (by kernel_rfl) rfl ?_
 refine dm (i := 4) rfl rfl rfl (fun _ _ _ => a7 (by kernel_rfl)) (by kernel_rfl) rfl ?_
 refine o_usd (c := c) (s := s) Tryz.underlying273 rfl (fun w hw => hw.own _ (List.mem_of_getElem? (i := 1) rfl)) rfl (fun q hq => ?_)
 refine ae ?_
 refine dC aw ?_
 refine dm (i := 10) rfl rfl rfl (fun _ _ _ => a7 (by kernel_rfl)) (by kernel_rfl) rfl ?_
 refine o_us Tryz.underlying273 (by kernel_rfl) rfl rfl hq (.s .z) rfl ?_
 refine ae ?_
 refine dC aw ?_
 refine aD (i := 11) rfl ah (ai rfl) aw aw rfl (aa ar) (by kernel_rfl) rfl ?_
 refine cB (by kernel_rfl) ?_
 refine aj ?_
 refine aF ?_
 refine aJ (ts := [2]) rfl rfl rfl (fun w hw => ?_)
 exact ⟨(), rfl, hw.uc0⟩

/-- No more octets than are held. -/
theorem bH {α : Type} (l : List α) (d : α) (k : Nat) (h : k < l.length) : l.take (k + 1) = l.take k ++ [l.getD k d] := by
  rw [List.take_succ_eq_append_getElem h]; simp [List.getD_eq_getElem?_getD, h]
theorem el {α : Type} (l : List α) (d : α) (k : Nat) (h : k < l.length) : l.drop k = l.getD k d :: l.drop (k + 1) := by
  rw [List.drop_eq_getElem_cons h]; simp [List.getD_eq_getElem?_getD, h]
theorem gu (ls : List aV) (k : Nat) : (dz (ls.take k)).length ≤ (dz ls).length := by
  have e : dz ls = dz (ls.take k) ++ dz (ls.drop k) := by rw [← eT, List.take_append_drop]
  rw [e, List.length_append]; omega
theorem encn_one (s : aV) : dz [s] = UInt8.ofNat s.length :: s := by simp [dz]
theorem encn_ge : ∀ ls : List aV, ls.length ≤ (dz ls).length
  | [] => Nat.le_refl _
  | s :: r => by have := encn_ge r; rw [gh]; simp; omega

theorem c_name_Make (ls : List aV) (A : Option Addr) (ca : Nat) (hl : (dz ls).length ≤ 1000000000000) : RC Tryz.prog 148 #[.slice A ls.length ca] [Ch.rd A 1 dw ls] (α := Unit) (fun _ => .tuple #[.string (ba (fB ls).1), .int .i64 (fB ls).2]) (fun _ => []) := by
 refine bi (args := [.slice A ls.length ca]) 38 Tryz.func148 rfl rfl rfl (fun w0 => ?_)
 have hge := encn_ge ls
 refine ao ?_
 refine ab ?_
 refine ap (ai rfl) rfl rfl ?_
 refine ap (ai rfl) rfl rfl ?_
 refine ae ?_
 refine aj ?_
 refine ao ?_
 refine ao ?_
 refine ab ?_
 refine ap (ak rfl) rfl rfl ?_
 refine ap (bM Tryz.underlying135 rfl) rfl rfl ?_
 refine ap (ak rfl) rfl rfl ?_
 refine ae ?_
 refine aj ?_
 refine aP ?_
 refine b8 (σ := Nat) [2, 3, 5, 6, 12, 13, 14, 15, 16, 17, 18, 19, 20, 21] (fun k => k ≤ ls.length ∧ cJ ls = cJ (ls.drop k)) (fun k => ls.length - k) (fun k => [(12, .int .i64 k)]) (0) ?_ ⟨rfl, trivial⟩ (fun k hI => ?_)
 exact ⟨Nat.zero_le _, rfl⟩
 refine ao ?_
 refine ab ?_
 refine ap (bF rfl rfl) rfl rfl ?_
 refine aC (t := 13) rfl (fun h2_0 => ?_) (fun h2_0 => ?_)
 refine ae ?_
 refine aj ?_
 refine ao ?_
 refine ay rfl ?_
 refine aH ?_
 refine aj ?_
 refine ao ?_
 refine aP ?_
 refine ao ?_
 refine ab ?_
 refine ap (bP  Tryz.underlying135 fy rfl rfl (bY 0 rfl) rfl (by omega)) rfl rfl ?_
 refine ap (cG dq ([] : aV) fy rfl (bY 0 rfl) (by omega) rfl rfl) rfl rfl ?_
 refine ap (ai rfl) rfl rfl ?_
 refine ae ?_
 refine aj ?_
 refine ao ?_
 refine ab ?_
 refine ap (ak rfl) rfl rfl ?_
 refine aS rfl ent_205 (c_label_Check _) rfl ?_
 refine ap (ai rfl) rfl rfl ?_
 refine ae ?_
 refine aj ?_
 refine ao ?_
 refine ab ?_
 refine ap (ak rfl) rfl rfl ?_
 refine ap (cv rfl rfl) rfl rfl ?_
 refine aC (t := 19) rfl (fun h5_1 => ?_) (fun h5_1 => ?_)
 refine ae ?_
 refine aj ?_
 refine ay rfl ?_
 refine ao ?_
 refine ab ?_
 refine ap (ak rfl) rfl rfl ?_
 refine ap (ai rfl) rfl rfl ?_
 refine ap (ai rfl) rfl rfl ?_
 refine ae ?_
 refine aj ?_
 refine aF ?_
 refine aL ?_
 refine aA ?_
 refine bu ?_
 refine aL ?_
 refine aA ?_
 refine aJ (ts := [2, 3]) rfl rfl rfl (fun w hw => ?_)
 have hk : k < ls.length := by omega
 have hdk := el ls [] k hk
 have hf : cJ ls = fG (ls.getD k []) := by rw [hI.2, hdk, cJ, if_neg (by omega)]
 exact ⟨(), by rw [fB, if_pos (by omega), hf]; rfl, hw.base, hw.toNews⟩
 refine ae ?_
 refine aj ?_
 refine au rfl ?_
 refine aH ?_
 refine bq ?_
 refine aj ?_
 refine ab ?_
 refine ap (bg rfl rfl (by omega) (by omega)) rfl rfl ?_
 refine ap (ak rfl) rfl rfl ?_
 refine ae ?_
 have hk : k < ls.length := by omega
 have hdk := el ls [] k hk
 refine bo (k + 1) ?_ ?_ ⟨rfl, trivial⟩ (by repeat (first | exact trivial | refine ⟨rfl, ?_⟩)) aw
 exact ⟨by omega, by rw [hI.2, hdk, cJ, if_pos (by omega)]⟩
 omega
 refine ae ?_
 refine aj ?_
 refine ao ?_
 refine au rfl ?_
 refine bC ?_
 refine aY ?_
 refine aU ?_
 refine a8 ?_
 refine aj ?_
 refine ao ?_
 have hz : cJ ls = 0 := by rw [hI.2, List.drop_of_length_le (by omega)]; rfl
 refine ab ?_
 refine bz ty_246 rfl rfl (fun b1 => ?_)
 refine cE (fun w h => h.bldn 5) ?_
 refine ae ?_
 refine aj ?_
 refine ao ?_
 refine ao ?_
 refine ab ?_
 refine ap (ak rfl) rfl rfl ?_
 refine ap (bM Tryz.underlying135 rfl) rfl rfl ?_
 refine ap (ak rfl) rfl rfl ?_
 refine ae ?_
 refine aj ?_
 refine aP ?_
 refine d6 (σ := Nat × Option Addr × Nat) [9, 24, 25, 26, 27, 28, 29, 30, 31, 32, 33, 34] (fun q => q.1 ≤ ls.length) (fun q => ls.length - q.1) (fun q => [(24, .int .i64 q.1)]) (fun q => Ch.bld 246 5 b1 q.2.1 q.2.2 (dz (ls.take q.1))) ((0, none, 0)) ?_ ⟨rfl, trivial⟩ rfl (fun q hI => ?_)
 exact Nat.zero_le _
 obtain ⟨k, A3, c3⟩ := q
 dsimp only at hI ⊢
 have htl := gu ls k
 refine ao ?_
 refine ab ?_
 refine ap (bF rfl rfl) rfl rfl ?_
 refine aC (t := 25) rfl (fun h10_0 => ?_) (fun h10_0 => ?_)
 refine ae ?_
 refine aj ?_
 refine ao ?_
 refine ay rfl ?_
 refine aH ?_
 refine aj ?_
 refine ao ?_
 refine aP ?_
 refine ao ?_
 refine ab ?_
 refine ap (bP  Tryz.underlying135 fy rfl rfl (bY 0 rfl) rfl (by omega)) rfl rfl ?_
 refine ap (cG dq ([] : aV) fy rfl (bY 0 rfl) (by omega) rfl rfl) rfl rfl ?_
 refine ap (ai rfl) rfl rfl ?_
 refine ae ?_
 refine aj ?_
 refine ao ?_
 refine ab ?_
 refine ap (ak rfl) rfl rfl ?_
 refine ap (dW Tryz.underlying9 rfl) rfl rfl ?_
 refine ap (gD Tryz.underlying3 Tryz.underlying5 rfl) rfl rfl ?_
 have hk : k < ls.length := by omega
 have hlk : 1 ≤ (ls.getD k []).length ∧ (ls.getD k []).length ≤ 63 := firstCk_zero.1 hz (ls.getD k []) (by rw [List.getD_eq_getElem?_getD, List.getElem?_eq_getElem hk]; exact List.getElem_mem hk)
 have hlk2 := hlk
 refine bV (t := 30) (.int .u8 ((UInt8.ofNat (ls.getD k []).length).toNat : Int)) rfl (congrArg _ (by rw [gp (by omega) (by omega), u8len hlk2.2])) ?_
 have htk := bH ls [] k hk
 have htl2 := gu ls (k + 1)
 rw [htk, eT, encn_one, List.length_append, List.length_cons] at htl2
 refine cu rfl ent_206 rfl (c_WriteByte _ _ _ _ _ (by omega)) (fun o => .z) (List.mem_of_getElem? (i := 0) rfl) (fun s hs => nomatch hs) (fun o1 => ?_)
 refine ae ?_
 refine aj ?_
 refine ab ?_
 refine ap (ak rfl) rfl rfl ?_
 refine cu rfl ent_207 rfl (c_WriteString _ _ _ _ _ (by rw [List.length_append, List.length_singleton]; omega)) (fun o => .z) (List.mem_of_getElem? (i := 0) rfl) (fun s hs => nomatch hs) (fun o2 => ?_)
 refine ae ?_
 refine bq ?_
 refine aj ?_
 refine ab ?_
 refine ap (bg rfl rfl (by omega) (by omega)) rfl rfl ?_
 refine ap (ak rfl) rfl rfl ?_
 refine ae ?_
 have hk : k < ls.length := by omega
 have htk := bH ls [] k hk
 refine bo ((k + 1, o2.1, o2.2)) ?_ ?_ ⟨rfl, trivial⟩ (by repeat (first | exact trivial | refine ⟨rfl, ?_⟩)) (fun w h => by show Hp _ _ (Ch.bld _ _ _ _ _ (dz (ls.take (k + 1))) :: _) _ _; rw [htk, eT, encn_one]; have h2 := h; rw [List.append_assoc] at h2; exact h2)
 show k + 1 ≤ ls.length
 omega
 show ls.length - (k + 1) < ls.length - k
 omega
 refine ae ?_
 refine aj ?_
 refine ao ?_
 refine au rfl ?_
 refine bC ?_
 refine aY ?_
 refine aU ?_
 refine a8 ?_
 refine aj ?_
 refine ao ?_
 refine ao ?_
 refine ab ?_
 refine bv rfl ent_208 rfl (c_bld_Len _ _ _ _) (fun w hw => aQ (dL 0 rfl hw) bf) ?_
 refine ap (eI rfl rfl) rfl rfl ?_
 refine aC (t := 36) rfl (fun h15_1 => ?_) (fun h15_1 => ?_)
 refine ae ?_
 refine aj ?_
 refine ay rfl ?_
 refine ao ?_
 refine ab ?_
 refine ap (ai rfl) rfl rfl ?_
 refine ap (ai rfl) rfl rfl ?_
 refine ae ?_
 refine aj ?_
 refine aF ?_
 refine aA ?_
 refine aJ (ts := [2, 3]) rfl rfl rfl (fun w hw => ?_)
 have hk : k = ls.length := by omega
 rw [hk, List.take_length] at h15_1
 exact ⟨(), by rw [fB, if_neg (by omega), if_pos (by omega)]; rfl, hw.base, (hw.weak (List.nil_sublist _) (fun s hs => hs)).toNews⟩
 refine ae ?_
 refine aj ?_
 refine au rfl ?_
 refine aH ?_
 refine aj ?_
 refine ao ?_
 refine ab ?_
 refine cu rfl ent_209 rfl (c_bld_String _ _ _ _) (fun o => .z) (List.mem_of_getElem? (i := 0) rfl) (fun s hs => nomatch hs) (fun o3 => ?_)
 refine ap (ai rfl) rfl rfl ?_
 refine ap (ai rfl) rfl rfl ?_
 refine ae ?_
 refine aj ?_
 refine aF ?_
 refine aJ (ts := [2, 3]) rfl rfl rfl (fun w hw => ?_)
 have hk : k = ls.length := by omega
 subst hk
 rw [List.take_length] at h15_1 ⊢
 exact ⟨(), by rw [fB, if_neg (by omega), if_neg (by omega)]; rfl, hw.base, (hw.weak (List.nil_sublist _) (fun s hs => hs)).toNews⟩

theorem mapS_step (t : aV → aV) (l : List aV) (k : Nat) (h : k < l.length) : ((l.take k).map t ++ l.drop k).set k (t (l.getD k [])) = (l.take (k + 1)).map t ++ l.drop (k + 1) := by
  have e : l.getD k [] = l[k] := by simp [List.getD_eq_getElem?_getD, h]
  have hk : k - ((l.take k).map t).length = 0 := by simp; omega
  rw [List.set_append_right _ _ (by simp; omega), hk, List.drop_eq_getElem_cons h, List.set_cons_zero, e, List.take_succ_eq_append_getElem h, List.map_append]
  simp
theorem mapS_at (t : aV → aV) (l : List aV) (k : Nat) (h : k < l.length) : ((l.take k).map t ++ l.drop k).getD k [] = l.getD k [] := by
  simp [List.getD_eq_getElem?_getD, List.getElem?_append_right, Nat.min_eq_left (Nat.le_of_lt h)]
theorem cL (t : aV → aV) (l : List aV) (k : Nat) : ((l.take k).map t ++ l.drop k).length = l.length := by simp; omega
theorem labsN_le (n : aV) (h : n.length ≤ 1000000000) : (ce n).length ≤ 254 ∧ (∀ s ∈ ce n, 1 ≤ s.length ∧ s.length ≤ 63) ∧ (dz ((ce n).map d5)).length ≤ 254 := by
  unfold ce
  by_cases hc : bB n = 0
  · rw [if_pos hc]
    obtain ⟨h1, h2⟩ := nameCk_zero.1 hc
    have := labs_len n
    refine ⟨by omega, e7 n, ?_⟩
    rw [iL _ (e7 n), dd, fU n h2]; exact h1
  · rw [if_neg hc]; exact ⟨by simp, nofun, by simp [dz]⟩

theorem fold_b {n : aV} {k : Nat} (hk : k < (ce n).length) (h : ∀ s ∈ ce n, 1 ≤ s.length ∧ s.length ≤ 63) : ((((ce n).take k).map d5 ++ (ce n).drop k).getD k []).length ≤ 1000000000000 := by
  have e : (ce n).getD k [] = (ce n)[k] := by simp [List.getD_eq_getElem?_getD, hk]
  rw [mapS_at d5 _ k hk, e]
  have := h _ (List.getElem_mem hk)
  omega

theorem c_name_Fold (n : aV) (hn : n.length ≤ 1000000000) : RC Tryz.prog 73 #[.string (ba n)] [] (α := Unit) (fun _ => .string (ba (a6 n))) (fun _ => []) := by
 refine bi (args := [.string (ba n)]) 29 Tryz.func73 rfl rfl rfl (fun w0 => ?_)
 refine ao ?_
 refine ab ?_
 refine ap (ai rfl) rfl rfl ?_
 refine ae ?_
 refine aj ?_
 refine ao ?_
 refine ab ?_
 refine ap (ak rfl) rfl rfl ?_
 refine co rfl ent_146 rfl (c_name_Labels _) (fun w hw => bf) (fun ⟨A0, c0⟩ => ?_)
 have hlb := labsN_le n hn
 refine ap (ai rfl) rfl rfl ?_
 refine ae ?_
 refine aj ?_
 refine ao ?_
 refine ao ?_
 refine ab ?_
 refine ap (ak rfl) rfl rfl ?_
 refine ap (bM Tryz.underlying135 rfl) rfl rfl ?_
 refine ap (ak rfl) rfl rfl ?_
 refine ae ?_
 refine aj ?_
 refine aP ?_
 refine d6 (σ := Nat) [3, 4, 5, 10, 12, 13, 14, 15, 16, 17, 18, 19, 20, 21, 22] (fun k => k ≤ (ce n).length) (fun k => (ce n).length - k) (fun k => [(12, .int .i64 k), (10, .slice A0 (((ce n).take k).map d5 ++ (ce n).drop k).length c0), (3, .slice A0 (((ce n).take k).map d5 ++ (ce n).drop k).length c0)]) (fun k => Ch.ls A0 c0 9 1 dw (((ce n).take k).map d5 ++ (ce n).drop k)) (0) ?_ ⟨rfl, rfl, rfl, trivial⟩ rfl (fun k hI => ?_)
 exact Nat.zero_le _
 have hml := cL d5 (ce n) k
 refine ao ?_
 refine ab ?_
 refine ap (bF rfl rfl) rfl rfl ?_
 refine aC (t := 13) rfl (fun h3_0 => ?_) (fun h3_0 => ?_)
 refine ae ?_
 refine aj ?_
 refine ao ?_
 refine ay rfl ?_
 refine aH ?_
 refine aj ?_
 refine ao ?_
 refine aP ?_
 refine ao ?_
 refine ab ?_
 refine ap (ak rfl) rfl rfl ?_
 refine ap (bP  Tryz.underlying135 fy rfl rfl (ek 0 rfl) rfl (by rw [cL]; omega)) rfl rfl ?_
 refine ap (cG dq ([] : aV) fy rfl (ek 0 rfl) (by rw [cL]; omega) rfl rfl) rfl rfl ?_
 refine ap (ai rfl) rfl rfl ?_
 refine ap (ai rfl) rfl rfl ?_
 refine ae ?_
 refine aj ?_
 refine ab ?_
 refine ap (ak rfl) rfl rfl ?_
 refine ap (ak rfl) rfl rfl ?_
 refine ap (ak rfl) rfl rfl ?_
 refine aS rfl ent_147 (c_label_Fold _ (fold_b (by omega) hlb.2.1)) rfl ?_
 refine ap (bP  Tryz.underlying135 fy rfl rfl (ek 0 rfl) rfl (by rw [cL]; omega)) rfl rfl ?_
 refine o_stm0 dq ([] : aV) _ fy rfl rfl rfl .z rfl (by rw [cL]; omega) rfl rfl rfl ?_
 refine ae ?_
 refine bq ?_
 refine aj ?_
 refine ab ?_
 refine ap (bg rfl rfl (by omega) (by omega)) rfl rfl ?_
 refine ap (ak rfl) rfl rfl ?_
 refine ae ?_
 have hk : k < (ce n).length := by omega
 refine bo (k + 1) ?_ ?_ ⟨rfl, lk rfl (by rw [cL, cL]), lk rfl (by rw [cL, cL]), trivial⟩ (by repeat (first | exact trivial | refine ⟨rfl, ?_⟩)) (fun w h => by rw [mapS_at d5 (ce n) k hk, mapS_step d5 (ce n) k hk] at h; exact h)
 omega
 omega
 refine ae ?_
 refine aj ?_
 refine ao ?_
 refine au rfl ?_
 refine bC ?_
 refine aY ?_
 refine aU ?_
 refine a8 ?_
 refine aj ?_
 refine ao ?_
 refine ab ?_
 obtain rfl : k = (ce n).length := by omega
 refine ap (ak rfl) rfl rfl ?_
 refine bv rfl ent_148 rfl (c_name_Make _ _ _ (by have := hlb.2.2; simp; omega)) (fun w hw => (aQ (eF 0 rfl hw) bf)) ?_
 refine ap (ak rfl) rfl rfl ?_
 refine ap (aI rfl rfl) rfl rfl ?_
 refine ap (aI rfl rfl) rfl rfl ?_
 refine ap (ai rfl) rfl rfl ?_
 refine ap (ai rfl) rfl rfl ?_
 refine ae ?_
 refine aj ?_
 refine ao ?_
 refine ab ?_
 refine ap (ak rfl) rfl rfl ?_
 refine ap (ai rfl) rfl rfl ?_
 refine ae ?_
 refine aj ?_
 refine aF ?_
 refine aJ (ts := [2]) rfl rfl rfl (fun w hw => ?_)
 exact ⟨(), by rw [← make_fold]; simp [d3], hw.base, (hw.weak (List.nil_sublist _) (fun s hs => hs)).toNews⟩

theorem dK (n : aV) (hn : n.length ≤ 1000000000) : cO Tryz.prog 73 #[.string (ba n)] (.string (ba (a6 n))) := rc_pure (c_name_Fold n hn)

end Go.Proofs.YtnpdgmoeoidppaaGreat
