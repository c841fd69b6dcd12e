import Derived.Test.YtnpdgmoeoidppaaGreatPaQx
import Derived.Test.YtnpdgmoeoidppaaGreatProg
import Derived.KernelRfl
/- label, name: the contracts -/
namespace Go.Proofs.YtnpdgmoeoidppaaGreat
open Go.RowKit Go.Shelf
set_option linter.unusedVariables false
set_option linter.unusedSimpArgs false

theorem ent_149 : Enters Tryz.prog 149 := enters_of Tryz.func149 (by kernel_rfl) rfl
theorem ent_201 : Enters Tryz.prog 201 := enters_of Tryz.func201 (by kernel_rfl) rfl
theorem ent_202 : Enters Tryz.prog 202 := enters_of Tryz.func202 (by kernel_rfl) rfl
theorem ent_203 : Enters Tryz.prog 203 := enters_of Tryz.func203 (by kernel_rfl) rfl
theorem ent_204 : Enters Tryz.prog 204 := enters_of Tryz.func204 (by kernel_rfl) rfl
theorem ent_235 : Enters Tryz.prog 235 := enters_of Tryz.func235 (by kernel_rfl) rfl
theorem ent_236 : Enters Tryz.prog 236 := enters_of Tryz.func236 (by kernel_rfl) rfl
theorem ent_74 : Enters Tryz.prog 74 := enters_of Tryz.func74 (by kernel_rfl) rfl
theorem mixed : Tryz.prog.follows .mixedOrders = true := by kernel_rfl
theorem ty_135 : TyI Tryz.prog 135 false 1 24 (.slice none 0 0) := TyI.mk' (by kernel_rfl) (fun _ => by kernel_rfl)
theorem bE : TyI Tryz.prog 26 false 1 16 (.string ⟨#[]⟩) := TyI.mk' (by kernel_rfl) (fun _ => by kernel_rfl)
theorem i8 : TyI Tryz.prog 5 false 1 1 (.int .u8 0) := TyI.mk' (by kernel_rfl) (fun _ => by kernel_rfl)
theorem cI : TyI Tryz.prog 9 false 1 16 (.string ⟨#[]⟩) := TyI.mk' (by kernel_rfl) (fun _ => by kernel_rfl)

theorem gL (l : a6) : eC Tryz.prog 205 #[.string (ba l)] (.int .i64 (fW l)) := by
 intro w0
 refine bT (ok0 := no) (S := []) (args := [.string (ba l)]) 12 Tryz.func205 rfl rfl rfl (by simp) (by simp) ?_
 refine ap ?_
 refine ae ?_
 refine aq (ai rfl) rfl rfl ?_
 refine aa ?_
 refine aj ?_
 refine ap ?_
 refine ap ?_
 refine ae ?_
 refine aq (am rfl) rfl rfl ?_
 refine aq (dp Tryz.underlying9 rfl) rfl rfl ?_
 refine aq (ai rfl) rfl rfl ?_
 refine aa ?_
 refine aj ?_
 refine aS ?_
 refine ap ?_
 refine ae ?_
 refine aq (am rfl) rfl rfl ?_
 refine aq (cY rfl rfl) rfl rfl ?_
 refine ay (t := 8) rfl (fun h2_1 => ?_) (fun h2_1 => ?_)
 refine aq (ai rfl) rfl rfl ?_
 refine aa ?_
 refine aj ?_
 refine aA rfl ?_
 refine ap ?_
 refine ae ?_
 refine aq (ai rfl) rfl rfl ?_
 refine aa ?_
 refine aj ?_
 refine aN ?_
 refine aJ ?_
 refine ax ?_
 refine aR (ts := [2]) rfl rfl rfl (fun w hw => ?_)
 exact ⟨congrArg _ (by show Value.int _ _ = _; unfold fW; congr 1; (repeat (first | rw [if_pos (by omega)] | rw [if_neg (by omega)]))), hw.base⟩
 refine aq (ai rfl) rfl rfl ?_
 refine aa ?_
 refine aj ?_
 refine aD rfl ?_
 refine ap ?_
 refine ae ?_
 refine aq (am rfl) rfl rfl ?_
 refine aq (dB rfl rfl) rfl rfl ?_
 refine ay (t := 11) rfl (fun h4_1 => ?_) (fun h4_1 => ?_)
 refine aq (ai rfl) rfl rfl ?_
 refine aa ?_
 refine aj ?_
 refine aA rfl ?_
 refine ap ?_
 refine ae ?_
 refine aq (ai rfl) rfl rfl ?_
 refine aa ?_
 refine aj ?_
 refine aN ?_
 refine aJ ?_
 refine ax ?_
 refine aR (ts := [2]) rfl rfl rfl (fun w hw => ?_)
 exact ⟨congrArg _ (by show Value.int _ _ = _; unfold fW; congr 1; (repeat (first | rw [if_pos (by omega)] | rw [if_neg (by omega)]))), hw.base⟩
 refine aq (ai rfl) rfl rfl ?_
 refine aa ?_
 refine aj ?_
 refine aD rfl ?_
 refine aQ ?_
 refine bj ?_
 refine aj ?_
 refine ap ?_
 refine ae ?_
 refine aq (ai rfl) rfl rfl ?_
 refine aa ?_
 refine aj ?_
 refine aN ?_
 refine aR (ts := [2]) rfl rfl rfl (fun w hw => ?_)
 exact ⟨congrArg _ (by show Value.int _ _ = _; unfold fW; congr 1; (repeat (first | rw [if_pos (by omega)] | rw [if_neg (by omega)]))), hw.base⟩

theorem c_label_Fold1 (c : UInt8) : eC Tryz.prog 203 #[.int .u8 c.toNat] (.int .u8 (e5 c).toNat) := by
 intro w0
 have hc := UInt8.toNat_lt c
 refine bT (ok0 := no) (S := []) (args := [.int .u8 c.toNat]) 13 Tryz.func203 rfl rfl rfl (by simp) (by simp) ?_
 refine ap ?_
 refine ae ?_
 refine aq (ai rfl) rfl rfl ?_
 refine aa ?_
 refine aj ?_
 refine ap ?_
 refine ap ?_
 refine ae ?_
 refine aq (am rfl) rfl rfl ?_
 refine aq (gD rfl rfl) rfl rfl ?_
 refine ay (t := 4) rfl (fun h1_1 => ?_) (fun h1_1 => ?_)
 refine aq (am rfl) rfl rfl ?_
 refine au rfl rfl ?_
 refine aq (am rfl) rfl rfl ?_
 refine au rfl rfl ?_
 refine aq (ff rfl rfl) rfl rfl ?_
 refine ay (t := 7) rfl (fun h1_4 => ?_) (fun h1_4 => ?_)
 refine aq (aH rfl rfl) rfl rfl ?_
 refine aa ?_
 refine aj ?_
 refine aA rfl ?_
 refine ap ?_
 refine ae ?_
 refine aq (am rfl) rfl rfl ?_
 refine aq (y_sub rfl rfl) rfl rfl ?_
 refine aq (y_add rfl rfl) rfl rfl ?_
 refine aq (ai rfl) rfl rfl ?_
 refine aa ?_
 refine aj ?_
 refine aN ?_
 refine ax ?_
 refine aR (ts := [2]) rfl rfl rfl (fun w hw => ?_)
 exact ⟨congrArg _ (by show Value.int _ _ = _; congr 1; rw [ij (by rw [ij (by omega) (by omega)]; omega) (by rw [ij (by omega) (by omega)]; omega), ij (by omega) (by omega)]; unfold e5; rw [if_pos (by omega)]; simp; omega), hw.base⟩
 refine aq (aH rfl rfl) rfl rfl ?_
 refine aa ?_
 refine aj ?_
 refine aD rfl ?_
 refine aQ ?_
 refine aj ?_
 refine ap ?_
 refine ae ?_
 refine aq (am rfl) rfl rfl ?_
 refine aq (ai rfl) rfl rfl ?_
 refine aa ?_
 refine aj ?_
 refine aN ?_
 refine aR (ts := [2]) rfl rfl rfl (fun w hw => ?_)
 exact ⟨congrArg _ (by show Value.int _ _ = _; congr 2; unfold e5; rw [if_neg (by omega)]), hw.base⟩
 refine aq (am rfl) rfl rfl ?_
 refine ar rfl rfl rfl rfl ?_
 refine ar rfl rfl rfl rfl ?_
 refine aq (aF rfl rfl) rfl rfl ?_
 refine aa ?_
 refine aj ?_
 refine aD rfl ?_
 refine aQ ?_
 refine aj ?_
 refine ap ?_
 refine ae ?_
 refine aq (am rfl) rfl rfl ?_
 refine aq (ai rfl) rfl rfl ?_
 refine aa ?_
 refine aj ?_
 refine aN ?_
 refine aR (ts := [2]) rfl rfl rfl (fun w hw => ?_)
 exact ⟨congrArg _ (by show Value.int _ _ = _; congr 2; unfold e5; rw [if_neg (by omega)]), hw.base⟩

theorem gu (t : UInt8 → UInt8) (l : a6) (k : Nat) (h : k < l.length) : ((l.take k).map t ++ l.drop k).set k (t (l.getD k 0)) = (l.take (k + 1)).map t ++ l.drop (k + 1) := by
  have e : l.getD k 0 = l[k] := by simp [List.getD_eq_getElem?_getD, h]
  have hk : k - ((l.take k).map t).length = 0 := by simp; omega
  rw [List.set_append_right _ _ (by simp; omega), hk, List.drop_eq_getElem_cons h, List.set_cons_zero, e, List.take_succ_eq_append_getElem h, List.map_append]
  simp
theorem map_at (t : UInt8 → UInt8) (l : a6) (k : Nat) (h : k < l.length) : ((l.take k).map t ++ l.drop k).getD k 0 = l.getD k 0 := by
  simp [List.getD_eq_getElem?_getD, List.getElem?_append_right, Nat.min_eq_left (Nat.le_of_lt h)]
theorem cZ (t : UInt8 → UInt8) (l : a6) (k : Nat) : ((l.take k).map t ++ l.drop k).length = l.length := by simp; omega

theorem c_label_each (l : a6) (f : Nat) (t : UInt8 → UInt8) (hf : ∀ c, eC Tryz.prog f #[.int .u8 c.toNat] (.int .u8 (t c).toNat)) (hen : Enters Tryz.prog f) (hl : l.length ≤ 1000000000000) : eC Tryz.prog 204 #[.string (ba l), .func (.func f) #[] #[]] (.string (ba (l.map t))) := by
 intro w0
 refine bT (ok0 := no) (S := []) (args := [.string (ba l), .func (.func f) #[] #[]]) 26 Tryz.func204 rfl rfl rfl (by simp) (by simp) ?_
 refine ap ?_
 refine ae ?_
 refine aq (ai rfl) rfl rfl ?_
 refine aa ?_
 refine aj ?_
 refine ap ?_
 refine ae ?_
 refine aq (am rfl) rfl rfl ?_
 refine o_s2b Tryz.underlying9 Tryz.underlying75 Tryz.underlying5 (by omega) rfl rfl (fun As1 cs1 => ?_)
 refine aq (ai rfl) rfl rfl ?_
 refine aa ?_
 refine aj ?_
 refine ap ?_
 refine ap ?_
 refine ae ?_
 refine aq (am rfl) rfl rfl ?_
 refine aq (bg Tryz.underlying75 rfl) rfl rfl ?_
 refine aq (am rfl) rfl rfl ?_
 refine aa ?_
 refine aj ?_
 refine aS ?_
 refine dn (σ := Nat) [5, 6, 7, 10, 12, 13, 14, 15, 16, 17, 18, 19, 20, 21, 22, 23] (fun k => k ≤ l.length) (fun k => l.length - k) (fun k => [(12, .int .i64 k), (10, .slice As1 ((l.take k).map t ++ l.drop k).length cs1), (5, .slice As1 ((l.take k).map t ++ l.drop k).length cs1)]) (fun k => Ch.ls As1 cs1 5 1 encb ((l.take k).map t ++ l.drop k)) (0) ?_ ⟨rfl, rfl, rfl, trivial⟩ rfl (fun k hI => ?_)
 exact Nat.zero_le _
 have hml := cZ t l k
 refine ap ?_
 refine ae ?_
 refine aq (bW rfl rfl) rfl rfl ?_
 refine ay (t := 13) rfl (fun h3_0 => ?_) (fun h3_0 => ?_)
 refine aa ?_
 refine aj ?_
 refine ap ?_
 refine aA rfl ?_
 refine aQ ?_
 refine aj ?_
 refine ap ?_
 refine aS ?_
 refine ap ?_
 refine ae ?_
 refine aq (am rfl) rfl rfl ?_
 refine aq (bB  Tryz.underlying75 i8 rfl rfl (dL 0 rfl) rfl (by rw [cZ]; omega)) rfl rfl ?_
 refine aq (bZ enc_b (0 : UInt8) i8 rfl (dL 0 rfl) (by rw [cZ]; omega) rfl rfl) rfl rfl ?_
 refine aq (ai rfl) rfl rfl ?_
 refine aq (ai rfl) rfl rfl ?_
 refine aa ?_
 refine aj ?_
 refine ae ?_
 refine aq (am rfl) rfl rfl ?_
 refine aq (am rfl) rfl rfl ?_
 refine aq (am rfl) rfl rfl ?_
 refine aq (am rfl) rfl rfl ?_
 refine jT rfl rfl rfl hen (hf _) rfl ?_
 refine aq (bB  Tryz.underlying75 i8 rfl rfl (dL 0 rfl) rfl (by rw [cZ]; omega)) rfl rfl ?_
 refine fb enc_b (0 : UInt8) _ i8 rfl rfl rfl .z rfl (by rw [cZ]; omega) rfl rfl rfl ?_
 refine aa ?_
 refine bj ?_
 refine aj ?_
 refine ae ?_
 refine aq (br rfl rfl (by omega) (by omega)) rfl rfl ?_
 refine aq (am rfl) rfl rfl ?_
 refine aa ?_
 have hk : k < l.length := by omega
 refine bv (k + 1) ?_ ?_ ⟨rfl, lk rfl (by rw [cZ, cZ]), lk rfl (by rw [cZ, cZ]), trivial⟩ (by repeat (first | exact trivial | refine ⟨rfl, ?_⟩)) (fun w h => by rw [map_at t l k hk, gu t l k hk] at h; exact h)
 omega
 omega
 refine aa ?_
 refine aj ?_
 refine ap ?_
 refine aD rfl ?_
 refine bJ ?_
 refine aV ?_
 refine aX ?_
 refine a8 ?_
 refine aj ?_
 refine ap ?_
 refine ae ?_
 refine aq (am rfl) rfl rfl ?_
 refine aq (y_b2s Tryz.underlying75 Tryz.underlying9 Tryz.underlying5 rfl (dL 0 rfl)) rfl rfl ?_
 refine aq (ai rfl) rfl rfl ?_
 refine aa ?_
 refine aj ?_
 refine aN ?_
 refine aR (ts := [4]) rfl rfl rfl (fun w hw => ?_)
 obtain rfl : k = l.length := by omega
 exact ⟨by simp [eW], hw.base⟩

theorem hY (l : a6) (hl : l.length ≤ 1000000000000) : eC Tryz.prog 147 #[.string (ba l)] (.string (ba (bO l))) := by
 intro w0
 refine bT (ok0 := no) (S := []) (args := [.string (ba l)]) 7 Tryz.func147 rfl rfl rfl (by simp) (by simp) ?_
 refine ap ?_
 refine ae ?_
 refine aq (ai rfl) rfl rfl ?_
 refine aa ?_
 refine aj ?_
 refine ap ?_
 refine ae ?_
 refine aq (ai rfl) rfl rfl ?_
 refine aa ?_
 refine aj ?_
 refine ap ?_
 refine ae ?_
 refine aq (am rfl) rfl rfl ?_
 refine aq (am rfl) rfl rfl ?_
 refine bD rfl ent_204 (c_label_each _ 203 e5 c_label_Fold1 ent_203 hl) rfl ?_
 refine aq (ai rfl) rfl rfl ?_
 refine aa ?_
 refine aj ?_
 refine aN ?_
 refine aR (ts := [2]) rfl rfl rfl (fun w hw => ?_)
 exact ⟨rfl, hw.base⟩

def cutL (n : a6) : a6 := if d4 n then lab n else []
def cutR (n : a6) : a6 := if d4 n then rst n else n
theorem cutR_lt {n : a6} (h : d4 n = true) : (cutR n).length < n.length := by unfold cutR; rw [if_pos h]; exact iE h
theorem cutR_ok {n : a6} (h : d4 n = true) : cutR n = rst n := if_pos h
theorem cutL_ok {n : a6} (h : d4 n = true) : cutL n = lab n := if_pos h
theorem cut_no {n : a6} (h : n = [] ∨ bt n 0 < 1 ∨ 63 < bt n 0 ∨ n.length ≤ bt n 0) : d4 n = false := by
  cases hq : d4 n with
  | false => rfl
  | true =>
    obtain ⟨h0, h1, h2, h3⟩ := cutOk_iff.1 hq
    rcases h with h | h
    · exact absurd h h0
    · omega

set_option maxRecDepth 100000 in
theorem jl (n : a6) : eC Tryz.prog 149 #[.string (ba n)] (.tuple #[.string (ba (cutL n)), .string (ba (cutR n)), .bool (d4 n)]) := by
 intro w0
 refine bT (ok0 := no) (S := []) (args := [.string (ba n)]) 32 Tryz.func149 rfl rfl rfl (by simp) (by simp) ?_
 refine ap ?_
 refine ae ?_
 refine aq (ai rfl) rfl rfl ?_
 refine aq (ai rfl) rfl rfl ?_
 refine aq (ai rfl) rfl rfl ?_
 refine aa ?_
 refine aj ?_
 refine ap ?_
 refine ap ?_
 refine ae ?_
 refine aq (am rfl) rfl rfl ?_
 refine aq (eK rfl rfl) rfl rfl ?_
 refine ay (t := 7) rfl (fun h1_1 => ?_) (fun h1_1 => ?_)
 refine aa ?_
 refine aj ?_
 refine aA rfl ?_
 refine ap ?_
 refine ae ?_
 refine aq (ai rfl) rfl rfl ?_
 refine aq (ai rfl) rfl rfl ?_
 refine aq (ai rfl) rfl rfl ?_
 refine aa ?_
 refine aj ?_
 refine aN ?_
 refine ax ?_
 refine aR (ts := [2, 3, 4]) rfl rfl rfl (fun w hw => ?_)
 subst h1_1
 exact ⟨rfl, hw.base⟩
 refine aa ?_
 refine aj ?_
 refine aD rfl ?_
 refine aQ ?_
 refine aj ?_
 refine ap ?_
 refine ae ?_
 refine aq (am rfl) rfl rfl ?_
 have hs := len_pos h1_1
 have hb := bt_lt n 0
 refine aq (fA (k := 0) Tryz.underlying26 rfl rfl rfl (by omega)) rfl rfl ?_
 refine aq (j6 Tryz.underlying5 Tryz.underlying3 rfl (jA (by omega) (by omega))) rfl rfl ?_
 refine aq (ai rfl) rfl rfl ?_
 refine aa ?_
 refine aj ?_
 refine ap ?_
 refine ap ?_
 refine ae ?_
 refine aq (am rfl) rfl rfl ?_
 refine aq (bW rfl rfl) rfl rfl ?_
 refine ay (t := 12) rfl (fun h4_1 => ?_) (fun h4_1 => ?_)
 refine aq (am rfl) rfl rfl ?_
 refine ar rfl rfl rfl rfl ?_
 refine ar rfl rfl rfl rfl ?_
 refine aq (aH rfl rfl) rfl rfl ?_
 refine aq (am rfl) rfl rfl ?_
 refine ar rfl rfl rfl rfl ?_
 refine ar rfl rfl rfl rfl ?_
 refine ar rfl rfl rfl rfl ?_
 refine ar rfl rfl rfl rfl ?_
 refine aq (aH rfl rfl) rfl rfl ?_
 refine aa ?_
 refine aj ?_
 refine aA rfl ?_
 refine ap ?_
 refine ae ?_
 refine aq (am rfl) rfl rfl ?_
 refine aq (ai rfl) rfl rfl ?_
 refine aq (ai rfl) rfl rfl ?_
 refine aq (ai rfl) rfl rfl ?_
 refine aa ?_
 refine aj ?_
 refine aN ?_
 refine ax ?_
 refine aR (ts := [2, 3, 4]) rfl rfl rfl (fun w hw => ?_)
 have hc := cut_no (n := n) (by omega)
 exact ⟨by simp [eW, cutL, cutR, hc], hw.base⟩
 refine aq (am rfl) rfl rfl ?_
 refine au rfl rfl ?_
 refine aq (am rfl) rfl rfl ?_
 refine au rfl rfl ?_
 refine aq (dB rfl rfl) rfl rfl ?_
 refine ay (t := 15) rfl (fun h4_4 => ?_) (fun h4_4 => ?_)
 refine aq (aF rfl rfl) rfl rfl ?_
 refine aq (am rfl) rfl rfl ?_
 refine ar rfl rfl rfl rfl ?_
 refine ar rfl rfl rfl rfl ?_
 refine ar rfl rfl rfl rfl ?_
 refine ar rfl rfl rfl rfl ?_
 refine aq (aH rfl rfl) rfl rfl ?_
 refine aa ?_
 refine aj ?_
 refine aA rfl ?_
 refine ap ?_
 refine ae ?_
 refine aq (am rfl) rfl rfl ?_
 refine aq (ai rfl) rfl rfl ?_
 refine aq (ai rfl) rfl rfl ?_
 refine aq (ai rfl) rfl rfl ?_
 refine aa ?_
 refine aj ?_
 refine aN ?_
 refine ax ?_
 refine aR (ts := [2, 3, 4]) rfl rfl rfl (fun w hw => ?_)
 have hc := cut_no (n := n) (by omega)
 exact ⟨by simp [eW, cutL, cutR, hc], hw.base⟩
 refine aq (aF rfl rfl) rfl rfl ?_
 refine aq (am rfl) rfl rfl ?_
 refine au rfl rfl ?_
 refine aq (am rfl) rfl rfl ?_
 refine au rfl rfl ?_
 refine aq (am rfl) rfl rfl ?_
 refine au rfl rfl ?_
 refine aq (dp Tryz.underlying26 rfl) rfl rfl ?_
 refine au rfl rfl ?_
 refine aq (gD rfl rfl) rfl rfl ?_
 refine ay (t := 21) rfl (fun h4_10 => ?_) (fun h4_10 => ?_)
 refine aq (aF rfl rfl) rfl rfl ?_
 refine aa ?_
 refine aj ?_
 refine aA rfl ?_
 refine ap ?_
 refine ae ?_
 refine aq (am rfl) rfl rfl ?_
 refine aq (ai rfl) rfl rfl ?_
 refine aq (ai rfl) rfl rfl ?_
 refine aq (ai rfl) rfl rfl ?_
 refine aa ?_
 refine aj ?_
 refine aN ?_
 refine ax ?_
 refine aR (ts := [2, 3, 4]) rfl rfl rfl (fun w hw => ?_)
 have hc := cut_no (n := n) (by omega)
 exact ⟨by simp [eW, cutL, cutR, hc], hw.base⟩
 refine aq (aF rfl rfl) rfl rfl ?_
 refine aa ?_
 refine aj ?_
 refine aD rfl ?_
 refine aQ ?_
 refine aj ?_
 refine ap ?_
 refine dQ 11 rfl mixed ?_
 refine aK (i := 0) rfl ak (am rfl) aG aG rfl (ah aw) (by kernel_rfl) rfl ?_
 refine aK (i := 1) rfl ak (am rfl) aG aG rfl (ah aw) (by kernel_rfl) rfl ?_
 refine aK (i := 2) rfl ak (br rfl rfl (by omega) (by omega)) aG aG rfl (ah aw) (by kernel_rfl) rfl ?_
 refine aK (i := 3) rfl ak (y_slices (m := 1) (n := 1 + bt n 0) Tryz.underlying26 rfl rfl rfl rfl (by omega) (by omega) (by omega)) aG aG rfl (ah aw) (by kernel_rfl) rfl ?_
 refine aK (i := 4) rfl ak (am rfl) aG aG rfl (ah aw) (by kernel_rfl) rfl ?_
 refine aK (i := 5) rfl ak (am rfl) aG aG rfl (ah aw) (by kernel_rfl) rfl ?_
 refine aK (i := 6) rfl ak (br rfl rfl (by omega) (by omega)) aG aG rfl (ah aw) (by kernel_rfl) rfl ?_
 refine aK (i := 7) rfl ak (y_slices_lo (m := 1 + bt n 0) Tryz.underlying26 rfl rfl (by omega) (by omega)) aG aG rfl (ah aw) (by kernel_rfl) rfl ?_
 refine aK (i := 8) rfl ak (ai rfl) aG aG rfl (ah aw) (by kernel_rfl) rfl ?_
 refine aK (i := 9) rfl ak (ai rfl) aG aG rfl (ah aw) (by kernel_rfl) rfl ?_
 refine aK (i := 10) rfl ak (ai rfl) aG aG rfl (ah aw) (by kernel_rfl) rfl ?_
 refine cF (by kernel_rfl) ?_
 refine aj ?_
 refine aN ?_
 refine aR (ts := [2, 3, 4]) rfl rfl rfl (fun w hw => ?_)
 have hc : d4 n = true := cutOk_iff.2 ⟨h1_1, by omega, by omega, by omega⟩
 exact ⟨by simp [eW, cutL, cutR, hc, lab, rst], hw.base⟩

theorem eP (n : a6) : eC Tryz.prog 74 #[.string (ba n)] (.int .i64 (bd n)) := by
 intro w0
 refine bT (ok0 := no) (S := []) (args := [.string (ba n)]) 20 Tryz.func74 rfl rfl rfl (by simp) (by simp) ?_
 refine ap ?_
 refine ae ?_
 refine aq (ai rfl) rfl rfl ?_
 refine aa ?_
 refine aj ?_
 refine ap ?_
 refine ap ?_
 refine ae ?_
 refine aq (am rfl) rfl rfl ?_
 refine aq (dp Tryz.underlying26 rfl) rfl rfl ?_
 refine aq (dB rfl rfl) rfl rfl ?_
 refine ay (t := 8) rfl (fun h1_2 => ?_) (fun h1_2 => ?_)
 refine aa ?_
 refine aj ?_
 refine aA rfl ?_
 refine ap ?_
 refine ae ?_
 refine aq (ai rfl) rfl rfl ?_
 refine aa ?_
 refine aj ?_
 refine aN ?_
 refine ax ?_
 refine aR (ts := [2]) rfl rfl rfl (fun w hw => ?_)
 exact ⟨by simp [eW, bd, show 254 < n.length by omega], hw.base⟩
 refine aa ?_
 refine aj ?_
 refine aD rfl ?_
 refine aQ ?_
 refine aj ?_
 refine ap ?_
 refine aS ?_
 refine cC (σ := a6) [0, 2, 3, 4, 5, 9, 10, 11, 12, 13, 14, 15, 16, 17, 18, 19] (fun r => jx n = jx r) (fun r => r.length) (fun r => [(0, .string (ba r))]) (n) ?_ ⟨rfl, trivial⟩ (fun r hI => ?_)
 rfl
 refine ap ?_
 refine ap ?_
 refine ae ?_
 refine aq (am rfl) rfl rfl ?_
 refine aq (ju rfl rfl) rfl rfl ?_
 refine ay (t := 10) rfl (fun h3_1 => ?_) (fun h3_1 => ?_)
 refine aa ?_
 refine aj ?_
 refine aA rfl ?_
 refine aQ ?_
 refine aj ?_
 refine aS ?_
 refine ap ?_
 refine ae ?_
 refine aq (am rfl) rfl rfl ?_
 refine bD rfl ent_149 (jl _) rfl ?_
 refine aq (am rfl) rfl rfl ?_
 refine aq (bn rfl rfl) rfl rfl ?_
 refine aq (bn rfl rfl) rfl rfl ?_
 refine aq (bn rfl rfl) rfl rfl ?_
 refine bN (t := 16) rfl (fun h4_5 => ?_) (fun h4_5 => ?_)
 refine aq (ai rfl) rfl rfl ?_
 refine aq (ai rfl) rfl rfl ?_
 refine aq (ai rfl) rfl rfl ?_
 refine aa ?_
 refine aj ?_
 refine ap ?_
 refine ap ?_
 refine ae ?_
 refine aq (am rfl) rfl rfl ?_
 refine aq (bS rfl) rfl rfl ?_
 refine aa ?_
 refine aj ?_
 refine aD rfl ?_
 refine aQ ?_
 refine aj ?_
 refine ae ?_
 refine aq (am rfl) rfl rfl ?_
 refine aq (ai rfl) rfl rfl ?_
 refine aa ?_
 refine bj ?_
 refine bv (cutR r) ?_ ?_ ⟨rfl, trivial⟩ (by repeat (first | exact trivial | refine ⟨rfl, ?_⟩)) aG
 have hc := h4_5
 rw [hI, gK r, hc, cutR_ok hc]; simp [h3_1]
 have hc := h4_5
 exact cutR_lt hc
 refine aq (ai rfl) rfl rfl ?_
 refine aq (ai rfl) rfl rfl ?_
 refine aq (ai rfl) rfl rfl ?_
 refine aa ?_
 refine aj ?_
 refine ap ?_
 refine ap ?_
 refine ae ?_
 refine aq (am rfl) rfl rfl ?_
 refine aq (bS rfl) rfl rfl ?_
 refine aa ?_
 refine aj ?_
 refine aA rfl ?_
 refine ap ?_
 refine ae ?_
 refine aq (ai rfl) rfl rfl ?_
 refine aa ?_
 refine aj ?_
 refine aN ?_
 refine ax ?_
 refine aJ ?_
 refine bh ?_
 refine aJ ?_
 refine ax ?_
 refine aR (ts := [2]) rfl rfl rfl (fun w hw => ?_)
 have hc := h4_5
 have ho : jx n = false := by rw [hI, gK, hc]; simp [h3_1]
 exact ⟨by simp [eW, bd, show ¬ 254 < n.length by omega, ho], hw.base⟩
 refine aa ?_
 refine aj ?_
 refine aD rfl ?_
 refine bJ ?_
 refine aV ?_
 refine aX ?_
 refine a8 ?_
 refine aj ?_
 refine ap ?_
 refine ae ?_
 refine aq (ai rfl) rfl rfl ?_
 refine aa ?_
 refine aj ?_
 refine aN ?_
 refine aR (ts := [2]) rfl rfl rfl (fun w hw => ?_)
 have ho : jx n = true := by rw [hI, show r = [] by simpa using h3_1]; rfl
 exact ⟨by simp [eW, bd, show ¬ 254 < n.length by omega, ho], hw.base⟩

theorem c_name_each (n : a6) : RC Tryz.prog 202 #[.string (ba n)] [] (α := Nat) (fun b => .func (.func 236) #[] #[.pointer (some ⟨b, 0, none⟩)]) (fun b => [Ch.row b [.string (ba n)] 26]) := by
 refine bK (args := [.string (ba n)]) 4 Tryz.func202 rfl rfl rfl (fun w0 => ?_)
 refine ap ?_
 refine ae ?_
 refine cL rfl rfl rfl (fun b1 => ?_)
 refine aq (ai rfl) rfl rfl ?_
 refine aa ?_
 refine aj ?_
 refine ap ?_
 refine ae ?_
 refine aq (jn rfl rfl) rfl rfl ?_
 refine aq (ai rfl) rfl rfl ?_
 refine aa ?_
 refine aj ?_
 refine aN ?_
 refine aR (ts := [2]) rfl rfl rfl (fun w hw => ?_)
 exact ⟨b1, rfl, hw.base, (hw.weak (.cons_cons _ .slnil) (fun s hs => hs)).toNews⟩

theorem c_name_each1 (n : a6) (b : Nat) : Iter Tryz.prog 236 [.pointer (some ⟨b, 0, none⟩)] [Ch.row b [.string (ba n)] 26] dD (fj n) := by
 refine iter_of_W 24 Tryz.func236 rfl rfl rfl (fun lr σ I Ix C Sc hy g0 hg0 w0 => ?_)
 refine ap ?_
 refine ae ?_
 refine aq (y_loadSo 0 bE rfl rfl rfl) rfl rfl ?_
 refine bD rfl ent_149 (jl _) rfl ?_
 refine aq (am rfl) rfl rfl ?_
 refine aq (bn rfl rfl) rfl rfl ?_
 refine aq (bn rfl rfl) rfl rfl ?_
 refine aq (bn rfl rfl) rfl rfl ?_
 refine aq (ai rfl) rfl rfl ?_
 refine aq (ai rfl) rfl rfl ?_
 refine aq (ai rfl) rfl rfl ?_
 refine aa ?_
 refine aj ?_
 refine aS ?_
 refine dn (σ := List a6 × a6 × σ) [3, 4, 5, 12, 13, 14, 15, 16, 17, 18, 19, 20, 21, 22, 23] (fun q => fj n = q.1 ++ fj q.2.1 ∧ I q.1 q.2.2) (fun q => q.2.1.length) (fun q => [(3, .string (ba (cutL q.2.1))), (4, .string (ba (cutR q.2.1))), (5, .bool (d4 q.2.1))]) (fun q => C q.2.2) (([], n, g0)) ?_ ⟨rfl, rfl, rfl, trivial⟩ rfl (fun q hI => ?_)
 exact ⟨rfl, hg0⟩
 obtain ⟨pre, r, g⟩ := q
 obtain ⟨hxs, hI⟩ := hI
 dsimp only at hxs hI ⊢
 refine ap ?_
 refine ap ?_
 refine ae ?_
 refine aq (am rfl) rfl rfl ?_
 refine bN (t := 12) rfl (fun h1_0 => ?_) (fun h1_0 => ?_)
 have hx2 : fj n = pre ++ cutL r :: fj (rst r) := by rw [hxs, ic r, if_pos h1_0, cutL_ok h1_0]
 refine aq (am rfl) rfl rfl ?_
 refine au rfl rfl ?_
 refine aq (am rfl) rfl rfl ?_
 refine au rfl rfl ?_
 refine aq (am rfl) rfl rfl ?_
 refine au rfl rfl ?_
 refine iQ rfl rfl (hy pre (cutL r) _ g hx2 hI) (fun _ => .z) (fun s hs => List.mem_append_right _ hs) rfl (fun g' hT => ?_) (fun g' hF => ?_)
 refine aq (aH rfl rfl) rfl rfl ?_
 refine aa ?_
 refine aj ?_
 refine aA rfl ?_
 refine aQ ?_
 refine aj ?_
 refine ap ?_
 refine aS ?_
 refine aQ ?_
 refine bj ?_
 refine aj ?_
 refine ae ?_
 refine aq (am rfl) rfl rfl ?_
 refine bD rfl ent_149 (jl _) rfl ?_
 refine aq (am rfl) rfl rfl ?_
 refine aq (bn rfl rfl) rfl rfl ?_
 refine aq (bn rfl rfl) rfl rfl ?_
 refine aq (bn rfl rfl) rfl rfl ?_
 refine aq (ai rfl) rfl rfl ?_
 refine aq (ai rfl) rfl rfl ?_
 refine aq (ai rfl) rfl rfl ?_
 refine aa ?_
 refine bv ((pre ++ [cutL r], cutR r, g')) ?_ ?_ ⟨rfl, rfl, rfl, trivial⟩ (by repeat (first | exact trivial | refine ⟨rfl, ?_⟩)) aG
 exact ⟨by rw [hx2, cutR_ok h1_0]; simp, hT⟩
 exact cutR_lt h1_0
 refine aq (aH rfl rfl) rfl rfl ?_
 refine aa ?_
 refine aj ?_
 refine aD rfl ?_
 refine bJ ?_
 refine aV ?_
 refine aX ?_
 refine a8 ?_
 refine e_end (ts := []) rfl rfl rfl (fun w hw => ?_)
 exact iter_end _ (.inr ⟨_, fj (rst r), by rw [hx2]; simp, hF⟩) hw
 refine aq (am rfl) rfl rfl ?_
 refine ar rfl rfl rfl rfl ?_
 refine ar rfl rfl rfl rfl ?_
 refine ar rfl rfl rfl rfl ?_
 refine aq (aF rfl rfl) rfl rfl ?_
 refine aa ?_
 refine aj ?_
 refine aD rfl ?_
 refine bJ ?_
 refine aV ?_
 refine aX ?_
 refine a8 ?_
 refine e_end (ts := []) rfl rfl rfl (fun w hw => ?_)
 have hr : fj r = [] := by rw [ic, if_neg (by rw [h1_0]; simp)]
 exact iter_end _ (.inl (by rw [hxs, hr, List.append_nil]; exact hI)) hw

theorem c_AppendSeq_s (xs : List a6) (gf : Nat) (lb : List Value) (Sx : List Ch) (hit : Iter Tryz.prog gf lb Sx dD xs) (hen : Enters Tryz.prog gf) (hl : xs.length ≤ 1000000000000) : RC Tryz.prog 235 #[.slice none 0 0, .func (.func gf) #[] lb.toArray] Sx (α := Option Addr × Nat) (fun p => .slice p.1 xs.length p.2) (fun p => [Ch.ls p.1 p.2 9 1 dD xs]) := by
 refine rc_of_WM (args := [.slice none 0 0, .func (.func gf) #[] lb.toArray]) 13 Tryz.func235 rfl rfl rfl (fun w0 => ?_)
 refine ap ?_
 refine ae ?_
 refine cL rfl rfl rfl (fun b1 => ?_)
 refine aq (ai rfl) rfl rfl ?_
 refine aa ?_
 refine aj ?_
 refine ap ?_
 refine ap ?_
 refine ae ?_
 refine aq (am rfl) rfl rfl ?_
 refine aa ?_
 refine aj ?_
 refine aS ?_
 refine cz (fun w h => h.nilsl 9 1) ?_
 refine w_range (σ := List a6 × Option Addr × Nat) (fun pre g => g.1 = pre) (fun c pre g => False) (fun g => [Ch.ls g.2.1 g.2.2 9 1 dD g.1, Ch.row b1 [.slice g.2.1 g.1.length g.2.2] 135]) (([], none, 0)) rfl rfl hen (hit) (fun s hs => hs) rfl (fun _ => rfl) (rfl) rfl (fun pre e post g hxs hI lr D r hr okb wb => ?_) (fun g D0 hI => ?_) (fun c pre post g D0 hxs hI => ?_)
 obtain ⟨q, A, c⟩ := g
 dsimp only at hI ⊢
 subst hI
 refine ae ?_
 refine aq (ai rfl) rfl rfl ?_
 refine aa ?_
 refine e_begin rfl hr .z ?_
 refine aS ?_
 refine ae ?_
 have hql : q.length < xs.length := by rw [hxs]; simp
 refine aq (aC 3 ty_135 rfl rfl rfl) rfl rfl ?_
 refine aq (am rfl) rfl rfl ?_
 refine bY (vs := [_]) ([_] : List (a6)) bV Tryz.underlying135 cI rfl rfl rfl rfl rfl rfl (fun As2 => ?_)
 refine cv (enc := dD) (sz := 1) _ Tryz.underlying135 cI rfl rfl rfl (fun A c => (.s (.s (.s (.z))))) (d5 0 Tryz.underlying135 rfl) (by simp only [List.length_cons, List.length_nil, Nat.zero_add]; omega) (by simp only [List.length_cons, List.length_nil, Nat.zero_add]; omega) rfl (fun A2 c2 => ?_)
 refine aW ty_135 rfl rfl rfl (.s (.s (.s (.s (.z))))) rfl rfl rfl rfl ?_
 refine aa ?_
 refine bj ?_
 refine fq ((q ++ [e], A2, c2)) ?_ (bq 1)
 rfl
 obtain ⟨q, A, c⟩ := g
 dsimp only at hI ⊢
 subst hI
 refine bj ?_
 refine aj ?_
 refine ap ?_
 refine ae ?_
 refine aq (aC 2 ty_135 rfl rfl rfl) rfl rfl ?_
 refine aq (ai rfl) rfl rfl ?_
 refine aa ?_
 refine aj ?_
 refine aN ?_
 refine e_lvr ?_
 refine lv_take .z ?_
 refine iG (rs := [.tmp 4]) rfl (dv rfl cG) (fun w hw => ?_)
 exact ⟨(A, c), rfl, hw.base, (hw.weak (.cons _ (.cons_cons _ (.cons _ .slnil))) (fun s hs => hs)).toNews⟩
 exact hI.elim

theorem c_Collect_s (xs : List a6) (gf : Nat) (lb : List Value) (Sx : List Ch) (hit : Iter Tryz.prog gf lb Sx dD xs) (hen : Enters Tryz.prog gf) (hl : xs.length ≤ 1000000000000) : RC Tryz.prog 201 #[.func (.func gf) #[] lb.toArray] Sx (α := Option Addr × Nat) (fun p => .slice p.1 xs.length p.2) (fun p => [Ch.ls p.1 p.2 9 1 dD xs]) := by
 refine bK (args := [.func (.func gf) #[] lb.toArray]) 5 Tryz.func201 rfl rfl rfl (fun w0 => ?_)
 refine ap ?_
 refine ae ?_
 refine aq (ai rfl) rfl rfl ?_
 refine aa ?_
 refine aj ?_
 refine ap ?_
 refine ae ?_
 refine aq (am rfl) rfl rfl ?_
 refine dE rfl ent_235 rfl (c_AppendSeq_s xs gf lb Sx hit hen hl) (fun w hw => hw.rd) (fun ⟨A0, c0⟩ => ?_)
 refine aq (ai rfl) rfl rfl ?_
 refine aa ?_
 refine aj ?_
 refine aN ?_
 refine aR (ts := [2]) rfl rfl rfl (fun w hw => ?_)
 exact ⟨(A0, c0), rfl, hw.base, (hw.weak (.cons_cons _ .slnil) (fun s hs => hs)).toNews⟩

theorem gM (n : a6) : RC Tryz.prog 146 #[.string (ba n)] [] (α := Option Addr × Nat) (fun p => .slice p.1 (bk n).length p.2) (fun p => [Ch.ls p.1 p.2 9 1 dD (bk n)]) := by
 refine bK (args := [.string (ba n)]) 9 Tryz.func146 rfl rfl rfl (fun w0 => ?_)
 refine ap ?_
 refine ae ?_
 refine aq (ai rfl) rfl rfl ?_
 refine aa ?_
 refine aj ?_
 refine ap ?_
 refine ap ?_
 refine ae ?_
 refine aq (am rfl) rfl rfl ?_
 refine bD rfl ent_74 (eP _) rfl ?_
 refine aq (cO rfl rfl) rfl rfl ?_
 refine ay (t := 5) rfl (fun h1_2 => ?_) (fun h1_2 => ?_)
 refine aa ?_
 refine aj ?_
 refine aA rfl ?_
 refine ap ?_
 refine ae ?_
 refine aq (ai rfl) rfl rfl ?_
 refine aa ?_
 refine aj ?_
 refine aN ?_
 refine ax ?_
 refine aR (ts := [2]) rfl rfl rfl (fun w hw => ?_)
 have hl : bk n = [] := if_neg (by omega)
 rw [hl]
 exact ⟨(none, 0), rfl, hw.base, (hw.nilsl 9 1).toNews⟩
 refine aa ?_
 refine aj ?_
 refine aD rfl ?_
 refine aQ ?_
 refine aj ?_
 refine ap ?_
 refine ae ?_
 refine aq (am rfl) rfl rfl ?_
 refine dE rfl ent_202 rfl (c_name_each _) (fun w hw => aY) (fun o0 => ?_)
 refine wl_heap (fun w h => h.freeze) ?_
 have hck : bd n = 0 := by omega
 have hnl := nameCk_zero.1 hck
 have hll := labs_len n
 refine dE rfl ent_201 rfl (c_Collect_s (fj n) 236 [.pointer (some ⟨o0, 0, none⟩)] [Ch.row o0 [.string (ba n)] 26] (c_name_each1 n _) ent_236 (by omega)) (fun w hw => (az (bo 0 rfl hw) aY)) (fun ⟨A1, c1⟩ => ?_)
 refine aq (ai rfl) rfl rfl ?_
 refine aa ?_
 refine aj ?_
 refine aN ?_
 refine aR (ts := [2]) rfl rfl rfl (fun w hw => ?_)
 have hl : bk n = fj n := if_pos hck
 rw [hl]
 exact ⟨(A1, c1), rfl, hw.base, hw.toNews⟩
end Go.Proofs.YtnpdgmoeoidppaaGreat

/- strings.Builder, name.Make, name.Fold -/
namespace Go.Proofs.YtnpdgmoeoidppaaGreat
open Go.RowKit Go.Shelf
set_option linter.unusedVariables false
set_option linter.unusedSimpArgs false

theorem ent_146 : Enters Tryz.prog 146 := enters_of Tryz.func146 (by kernel_rfl) rfl
theorem ent_147 : Enters Tryz.prog 147 := enters_of Tryz.func147 (by kernel_rfl) rfl
theorem ent_148 : Enters Tryz.prog 148 := enters_of Tryz.func148 (by kernel_rfl) rfl
theorem ent_205 : Enters Tryz.prog 205 := enters_of Tryz.func205 (by kernel_rfl) rfl
theorem ent_206 : Enters Tryz.prog 206 := enters_of Tryz.func206 (by kernel_rfl) rfl
theorem ent_207 : Enters Tryz.prog 207 := enters_of Tryz.func207 (by kernel_rfl) rfl
theorem ent_208 : Enters Tryz.prog 208 := enters_of Tryz.func208 (by kernel_rfl) rfl
theorem ent_209 : Enters Tryz.prog 209 := enters_of Tryz.func209 (by kernel_rfl) rfl
theorem ent_237 : Enters Tryz.prog 237 := enters_of Tryz.func237 (by kernel_rfl) rfl
theorem j4 : FA Tryz.prog 246 0 0 := fun b o w => by kernel_rfl
theorem gv : FA Tryz.prog 246 1 1 := fun b o w => by kernel_rfl
theorem ty_244 : TyI Tryz.prog 244 false 1 8 (.pointer none) := TyI.mk' (by kernel_rfl) (fun _ => by kernel_rfl)
theorem ty_246 : TyI Tryz.prog 246 true 2 32 (.agg #[.pointer none, .slice none 0 0]) := TyI.mk' (by kernel_rfl) (fun _ => by kernel_rfl)
theorem ty_75 : TyI Tryz.prog 75 false 1 24 (.slice none 0 0) := TyI.mk' (by kernel_rfl) (fun _ => by kernel_rfl)

theorem c_copyCheck (b : Nat) (A : Option Addr) (c : Nat) (s : a6) : UC Tryz.prog 237 #[.pointer (some ⟨b, 0, none⟩)] [] (Ch.bld 246 5 b A c s) (α := Unit) (fun _ => .tuple #[]) (fun _ => Ch.bld 246 5 b A c s) := by
 refine il (args := [.pointer (some ⟨b, 0, none⟩)]) 20 Tryz.func237 rfl rfl rfl (fun w0 => ?_)
 refine w_bldo fun p hp => ?_
 rcases hp with rfl | rfl
 refine ap ?_
 refine ae ?_
 refine aq (am rfl) rfl rfl ?_
 refine aq (cR rfl) rfl rfl ?_
 refine aq (aB j4 rfl) rfl rfl ?_
 refine aq (aC 0 ty_244 rfl rfl rfl) rfl rfl ?_
 refine aq (y_eqp Tryz.underlying244 rfl rfl) rfl rfl ?_
 refine eo (t := 6) (.bool true) rfl (congrArg Value.bool rfl) ?_
 refine aa ?_
 refine aj ?_
 refine aA rfl ?_
 refine ae ?_
 refine aq (am rfl) rfl rfl ?_
 refine aq (am rfl) rfl rfl ?_
 refine aq (y_tou (n := 2) Tryz.underlying244 Tryz.underlying287 ty_246 rfl (by omega) rfl (shape_rown 0 rfl rfl)) rfl rfl ?_
 refine o_ext rfl (fun w => by rw [run_callFunc_extern Tryz.func255 (by kernel_rfl) (by kernel_rfl) (by kernel_rfl) (e := Extern.AbiNoEscape.same) (by kernel_rfl), Lib.run_noEscape]; rfl) rfl ?_
 refine aq (y_fromu (n := 2) Tryz.underlying287 Tryz.underlying244 ty_246 (by kernel_rfl) rfl (shape_rown 0 rfl rfl)) rfl rfl ?_
 refine aq (cR rfl) rfl rfl ?_
 refine aq (aB j4 rfl) rfl rfl ?_
 refine aW ty_244 rfl rfl rfl .z rfl rfl rfl rfl ?_
 refine aa ?_
 refine e_end (ts := []) rfl rfl rfl (fun w hw => ?_)
 exact ⟨(), rfl, (Hp.bldc (.inr rfl) rfl rfl hw).uc⟩
 refine ap ?_
 refine ae ?_
 refine aq (am rfl) rfl rfl ?_
 refine aq (cR rfl) rfl rfl ?_
 refine aq (aB j4 rfl) rfl rfl ?_
 refine aq (aC 0 ty_244 rfl rfl rfl) rfl rfl ?_
 refine aq (y_eqp Tryz.underlying244 rfl rfl) rfl rfl ?_
 refine eo (t := 6) (.bool false) rfl (congrArg Value.bool rfl) ?_
 refine aa ?_
 refine aj ?_
 refine aD rfl ?_
 refine ap ?_
 refine ae ?_
 refine aq (am rfl) rfl rfl ?_
 refine aq (cR rfl) rfl rfl ?_
 refine aq (aB j4 rfl) rfl rfl ?_
 refine aq (aC 0 ty_244 rfl rfl rfl) rfl rfl ?_
 refine aq (am rfl) rfl rfl ?_
 refine aq (y_neps Tryz.underlying244 ty_246 rfl rfl) rfl rfl ?_
 refine aa ?_
 refine aj ?_
 refine aD rfl ?_
 refine aQ ?_
 refine e_end (ts := []) rfl rfl rfl (fun w hw => ?_)
 exact ⟨(), rfl, (Hp.bldc (.inr rfl) rfl rfl hw).uc⟩

theorem c_WriteByte (b : Nat) (A : Option Addr) (c : Nat) (s : a6) (ch : UInt8) (hs : s.length ≤ 1000000000000) : UC Tryz.prog 206 #[.pointer (some ⟨b, 0, none⟩), .int .u8 ch.toNat] [] (Ch.bld 246 5 b A c s) (α := Option Addr × Nat) (fun p => .nilIface) (fun p => Ch.bld 246 5 b p.1 p.2 (s ++ [ch])) := by
 refine il (args := [.pointer (some ⟨b, 0, none⟩), .int .u8 ch.toNat]) 17 Tryz.func206 rfl rfl rfl (fun w0 => ?_)
 refine ap ?_
 refine ae ?_
 refine aq (ai rfl) rfl rfl ?_
 refine aa ?_
 refine aj ?_
 refine ap ?_
 refine ae ?_
 refine aq (am rfl) rfl rfl ?_
 refine f0 rfl ent_237 rfl (c_copyCheck _ _ _ _) (fun o => .z) (List.mem_of_getElem? (i := 0) rfl) (fun s hs => nomatch hs) (fun o0 => ?_)
 refine aa ?_
 refine aj ?_
 refine ap ?_
 refine w_bldo fun p hp => ?_
 refine ae ?_
 refine aq (am rfl) rfl rfl ?_
 refine aq (am rfl) rfl rfl ?_
 refine aq (cR rfl) rfl rfl ?_
 refine aq (aB gv rfl) rfl rfl ?_
 refine aq (aC 0 ty_75 rfl rfl rfl) rfl rfl ?_
 refine aq (am rfl) rfl rfl ?_
 refine bY (vs := [_]) ([_] : List (UInt8)) enc_b Tryz.underlying75 i8 rfl rfl rfl rfl rfl rfl (fun As2 => ?_)
 refine cv (enc := encb) (sz := 1) _ Tryz.underlying75 i8 rfl rfl rfl (fun A c => (.s (.s (.z)))) (d5 0 Tryz.underlying75 rfl) (by simp only [List.length_cons, List.length_nil, Nat.zero_add]; omega) (by simp only [List.length_cons, List.length_nil, Nat.zero_add]; omega) rfl (fun A2 c2 => ?_)
 refine aq (cR rfl) rfl rfl ?_
 refine aq (aB gv rfl) rfl rfl ?_
 refine aW ty_75 rfl rfl rfl (.s (.z)) rfl rfl rfl rfl ?_
 refine aa ?_
 refine aj ?_
 refine ap ?_
 refine ae ?_
 refine aq (ai rfl) rfl rfl ?_
 refine aa ?_
 refine aj ?_
 refine aN ?_
 refine aR (ts := [4]) rfl rfl rfl (fun w hw => ?_)
 exact ⟨(A2, c2), rfl, (Hp.bldc hp rfl rfl (hw.weak (.cons _ (.cons_cons _ (.cons_cons _ .slnil))) (fun s hs => hs))).uc⟩

theorem c_WriteString (b : Nat) (A : Option Addr) (c : Nat) (s t : a6) (hs : s.length + t.length ≤ 1000000000000) : UC Tryz.prog 207 #[.pointer (some ⟨b, 0, none⟩), .string (ba t)] [] (Ch.bld 246 5 b A c s) (α := Option Addr × Nat) (fun p => .tuple #[.int .i64 t.length, .nilIface]) (fun p => Ch.bld 246 5 b p.1 p.2 (s ++ t)) := by
 refine il (args := [.pointer (some ⟨b, 0, none⟩), .string (ba t)]) 19 Tryz.func207 rfl rfl rfl (fun w0 => ?_)
 refine ap ?_
 refine ae ?_
 refine aq (ai rfl) rfl rfl ?_
 refine aq (ai rfl) rfl rfl ?_
 refine aa ?_
 refine aj ?_
 refine ap ?_
 refine ae ?_
 refine aq (am rfl) rfl rfl ?_
 refine f0 rfl ent_237 rfl (c_copyCheck _ _ _ _) (fun o => .z) (List.mem_of_getElem? (i := 0) rfl) (fun s hs => nomatch hs) (fun o0 => ?_)
 refine aa ?_
 refine aj ?_
 refine ap ?_
 refine w_bldo fun p hp => ?_
 refine ae ?_
 refine aq (am rfl) rfl rfl ?_
 refine aq (am rfl) rfl rfl ?_
 refine aq (cR rfl) rfl rfl ?_
 refine aq (aB gv rfl) rfl rfl ?_
 refine aq (aC 0 ty_75 rfl rfl rfl) rfl rfl ?_
 refine aq (am rfl) rfl rfl ?_
 refine cv (enc := encb) (sz := 1) t Tryz.underlying75 i8 rfl rfl rfl (fun A c => (.s (.z))) (src_str Tryz.underlying9) (by omega) (by omega) rfl (fun A1 c1 => ?_)
 refine aq (cR rfl) rfl rfl ?_
 refine aq (aB gv rfl) rfl rfl ?_
 refine aW ty_75 rfl rfl rfl .z rfl rfl rfl rfl ?_
 refine aa ?_
 refine aj ?_
 refine ap ?_
 refine ae ?_
 refine aq (am rfl) rfl rfl ?_
 refine aq (dp Tryz.underlying9 rfl) rfl rfl ?_
 refine aq (ai rfl) rfl rfl ?_
 refine aq (ai rfl) rfl rfl ?_
 refine aa ?_
 refine aj ?_
 refine aN ?_
 refine aR (ts := [4, 5]) rfl rfl rfl (fun w hw => ?_)
 exact ⟨(A1, c1), rfl, (Hp.bldc hp rfl rfl (hw.weak (.cons_cons _ (.cons_cons _ .slnil)) (fun s hs => hs))).uc⟩

theorem c_bld_Len (b : Nat) (A : Option Addr) (c : Nat) (s : a6) : RC Tryz.prog 208 #[.pointer (some ⟨b, 0, none⟩)] [Ch.bld 246 5 b A c s] (α := Unit) (fun _ => .int .i64 s.length) (fun _ => []) := by
 refine bK (args := [.pointer (some ⟨b, 0, none⟩)]) 8 Tryz.func208 rfl rfl rfl (fun w0 => ?_)
 refine ap ?_
 refine ae ?_
 refine aq (ai rfl) rfl rfl ?_
 refine aa ?_
 refine aj ?_
 refine ap ?_
 refine ae ?_
 refine aq (am rfl) rfl rfl ?_
 refine aq (cR rfl) rfl rfl ?_
 refine aq (aB gv rfl) rfl rfl ?_
 refine aq (y_load ty_75 rfl (fun w hw => bld_cell (hw.sh _ (List.mem_of_getElem? (i := 0) rfl)))) rfl rfl ?_
 refine aq (bg Tryz.underlying75 rfl) rfl rfl ?_
 refine aq (ai rfl) rfl rfl ?_
 refine aa ?_
 refine aj ?_
 refine aN ?_
 refine aR (ts := [2]) rfl rfl rfl (fun w hw => ?_)
 exact ⟨(), rfl, hw.base, hw.toNews⟩

set_option maxRecDepth 100000 in
theorem c_bld_String (b : Nat) (A : Option Addr) (c : Nat) (s : a6) : UC Tryz.prog 209 #[.pointer (some ⟨b, 0, none⟩)] [] (Ch.bld 246 5 b A c s) (α := Unit) (fun _ => .string (ba s)) (fun _ => Ch.nil0) := by
 refine il (args := [.pointer (some ⟨b, 0, none⟩)]) 14 Tryz.func209 rfl rfl rfl (fun w0 => ?_)
 refine ap ?_
 refine ae ?_
 refine aq (ai rfl) rfl rfl ?_
 refine aa ?_
 refine aj ?_
 refine ap ?_
 refine w_bldo fun p hp => ?_
 refine w_sf ?_
 refine dQ 12 rfl mixed ?_
 refine aK (i := 0) rfl ak (am rfl) aG aG rfl (ah aw) (by kernel_rfl) rfl ?_
 refine aK (i := 1) rfl ak (cR rfl) aG aG rfl (ah aw) (by kernel_rfl) rfl ?_
 refine aK (i := 2) rfl ak (aB gv rfl) aG aG rfl (ah aw) (by kernel_rfl) rfl ?_
 refine aK (i := 3) rfl ak (aC 0 ty_75 rfl rfl rfl) aG aG rfl (ah aw) (by kernel_rfl) rfl ?_
 refine aK (i := 5) rfl ak (am rfl) aG aG rfl (ah aw) (by kernel_rfl) rfl ?_
 refine aK (i := 6) rfl ak (cR rfl) aG aG rfl (ah aw) (by kernel_rfl) rfl ?_
 refine aK (i := 7) rfl ak (aB gv rfl) aG aG rfl (ah aw) (by kernel_rfl) rfl ?_
 refine aK (i := 8) rfl ak (aC 0 ty_75 rfl rfl rfl) aG aG rfl (ah aw) (by kernel_rfl) rfl ?_
 refine aK (i := 9) rfl ak (bg Tryz.underlying75 rfl) aG aG rfl (ah aw) (by kernel_rfl) rfl ?_
 refine dG (i := 4) rfl rfl rfl (fun _ _ _ => aM (by kernel_rfl)) (by kernel_rfl) rfl ?_
 refine o_usd (c := c) (s := s) Tryz.underlying273 rfl (fun w hw => hw.own _ (List.mem_of_getElem? (i := 1) rfl)) rfl (fun q hq => ?_)
 refine aa ?_
 refine eO aG ?_
 refine dG (i := 10) rfl rfl rfl (fun _ _ _ => aM (by kernel_rfl)) (by kernel_rfl) rfl ?_
 refine o_us Tryz.underlying273 (by kernel_rfl) rfl rfl hq (.s .z) rfl ?_
 refine aa ?_
 refine eO aG ?_
 refine aK (i := 11) rfl ak (ai rfl) aG aG rfl (ah aw) (by kernel_rfl) rfl ?_
 refine cF (by kernel_rfl) ?_
 refine aj ?_
 refine aN ?_
 refine aR (ts := [2]) rfl rfl rfl (fun w hw => ?_)
 exact ⟨(), rfl, hw.uc0⟩

/-- No more octets than are held. -/
theorem dh {α : Type} (l : List α) (d : α) (k : Nat) (h : k < l.length) : l.take (k + 1) = l.take k ++ [l.getD k d] := by
  rw [List.take_succ_eq_append_getElem h]; simp [List.getD_eq_getElem?_getD, h]
theorem bG {α : Type} (l : List α) (d : α) (k : Nat) (h : k < l.length) : l.drop k = l.getD k d :: l.drop (k + 1) := by
  rw [List.drop_eq_getElem_cons h]; simp [List.getD_eq_getElem?_getD, h]
theorem hX (ls : List a6) (k : Nat) : (eB (ls.take k)).length ≤ (eB ls).length := by
  have e : eB ls = eB (ls.take k) ++ eB (ls.drop k) := by rw [← fN, List.take_append_drop]
  rw [e, List.length_append]; omega
theorem encn_one (s : a6) : eB [s] = UInt8.ofNat s.length :: s := by simp [eB]
theorem encn_ge : ∀ ls : List a6, ls.length ≤ (eB ls).length
  | [] => Nat.le_refl _
  | s :: r => by have := encn_ge r; rw [gZ]; simp; omega

theorem c_name_Make (ls : List a6) (A : Option Addr) (ca : Nat) (hl : (eB ls).length ≤ 1000000000000) : RC Tryz.prog 148 #[.slice A ls.length ca] [Ch.rd A 1 dD ls] (α := Unit) (fun _ => .tuple #[.string (ba (fR ls).1), .int .i64 (fR ls).2]) (fun _ => []) := by
 refine bK (args := [.slice A ls.length ca]) 38 Tryz.func148 rfl rfl rfl (fun w0 => ?_)
 have hge := encn_ge ls
 refine ap ?_
 refine ae ?_
 refine aq (ai rfl) rfl rfl ?_
 refine aq (ai rfl) rfl rfl ?_
 refine aa ?_
 refine aj ?_
 refine ap ?_
 refine ap ?_
 refine ae ?_
 refine aq (am rfl) rfl rfl ?_
 refine aq (bg Tryz.underlying135 rfl) rfl rfl ?_
 refine aq (am rfl) rfl rfl ?_
 refine aa ?_
 refine aj ?_
 refine aS ?_
 refine cC (σ := Nat) [2, 3, 5, 6, 12, 13, 14, 15, 16, 17, 18, 19, 20, 21] (fun k => k ≤ ls.length ∧ dO ls = dO (ls.drop k)) (fun k => ls.length - k) (fun k => [(12, .int .i64 k)]) (0) ?_ ⟨rfl, trivial⟩ (fun k hI => ?_)
 exact ⟨Nat.zero_le _, rfl⟩
 refine ap ?_
 refine ae ?_
 refine aq (bW rfl rfl) rfl rfl ?_
 refine ay (t := 13) rfl (fun h2_0 => ?_) (fun h2_0 => ?_)
 refine aa ?_
 refine aj ?_
 refine ap ?_
 refine aA rfl ?_
 refine aQ ?_
 refine aj ?_
 refine ap ?_
 refine aS ?_
 refine ap ?_
 refine ae ?_
 refine aq (bB  Tryz.underlying135 cI rfl rfl (bF 0 rfl) rfl (by omega)) rfl rfl ?_
 refine aq (bZ bV ([] : a6) cI rfl (bF 0 rfl) (by omega) rfl rfl) rfl rfl ?_
 refine aq (ai rfl) rfl rfl ?_
 refine aa ?_
 refine aj ?_
 refine ap ?_
 refine ae ?_
 refine aq (am rfl) rfl rfl ?_
 refine bD rfl ent_205 (gL _) rfl ?_
 refine aq (ai rfl) rfl rfl ?_
 refine aa ?_
 refine aj ?_
 refine ap ?_
 refine ae ?_
 refine aq (am rfl) rfl rfl ?_
 refine aq (cO rfl rfl) rfl rfl ?_
 refine ay (t := 19) rfl (fun h5_1 => ?_) (fun h5_1 => ?_)
 refine aa ?_
 refine aj ?_
 refine aA rfl ?_
 refine ap ?_
 refine ae ?_
 refine aq (am rfl) rfl rfl ?_
 refine aq (ai rfl) rfl rfl ?_
 refine aq (ai rfl) rfl rfl ?_
 refine aa ?_
 refine aj ?_
 refine aN ?_
 refine aJ ?_
 refine ax ?_
 refine bh ?_
 refine aJ ?_
 refine ax ?_
 refine aR (ts := [2, 3]) rfl rfl rfl (fun w hw => ?_)
 have hk : k < ls.length := by omega
 have hdk := bG ls [] k hk
 have hf : dO ls = fW (ls.getD k []) := by rw [hI.2, hdk, dO, if_neg (by omega)]
 exact ⟨(), by rw [fR, if_pos (by omega), hf]; rfl, hw.base, hw.toNews⟩
 refine aa ?_
 refine aj ?_
 refine aD rfl ?_
 refine aQ ?_
 refine bj ?_
 refine aj ?_
 refine ae ?_
 refine aq (br rfl rfl (by omega) (by omega)) rfl rfl ?_
 refine aq (am rfl) rfl rfl ?_
 refine aa ?_
 have hk : k < ls.length := by omega
 have hdk := bG ls [] k hk
 refine bv (k + 1) ?_ ?_ ⟨rfl, trivial⟩ (by repeat (first | exact trivial | refine ⟨rfl, ?_⟩)) aG
 exact ⟨by omega, by rw [hI.2, hdk, dO, if_pos (by omega)]⟩
 omega
 refine aa ?_
 refine aj ?_
 refine ap ?_
 refine aD rfl ?_
 refine bJ ?_
 refine aV ?_
 refine aX ?_
 refine a8 ?_
 refine aj ?_
 refine ap ?_
 have hz : dO ls = 0 := by rw [hI.2, List.drop_of_length_le (by omega)]; rfl
 refine ae ?_
 refine bH ty_246 rfl rfl (fun b1 => ?_)
 refine wl_heap (fun w h => h.bldn 5) ?_
 refine aa ?_
 refine aj ?_
 refine ap ?_
 refine ap ?_
 refine ae ?_
 refine aq (am rfl) rfl rfl ?_
 refine aq (bg Tryz.underlying135 rfl) rfl rfl ?_
 refine aq (am rfl) rfl rfl ?_
 refine aa ?_
 refine aj ?_
 refine aS ?_
 refine dn (σ := Nat × Option Addr × Nat) [9, 24, 25, 26, 27, 28, 29, 30, 31, 32, 33, 34] (fun q => q.1 ≤ ls.length) (fun q => ls.length - q.1) (fun q => [(24, .int .i64 q.1)]) (fun q => Ch.bld 246 5 b1 q.2.1 q.2.2 (eB (ls.take q.1))) ((0, none, 0)) ?_ ⟨rfl, trivial⟩ rfl (fun q hI => ?_)
 exact Nat.zero_le _
 obtain ⟨k, A3, c3⟩ := q
 dsimp only at hI ⊢
 have htl := hX ls k
 refine ap ?_
 refine ae ?_
 refine aq (bW rfl rfl) rfl rfl ?_
 refine ay (t := 25) rfl (fun h10_0 => ?_) (fun h10_0 => ?_)
 refine aa ?_
 refine aj ?_
 refine ap ?_
 refine aA rfl ?_
 refine aQ ?_
 refine aj ?_
 refine ap ?_
 refine aS ?_
 refine ap ?_
 refine ae ?_
 refine aq (bB  Tryz.underlying135 cI rfl rfl (bF 0 rfl) rfl (by omega)) rfl rfl ?_
 refine aq (bZ bV ([] : a6) cI rfl (bF 0 rfl) (by omega) rfl rfl) rfl rfl ?_
 refine aq (ai rfl) rfl rfl ?_
 refine aa ?_
 refine aj ?_
 refine ap ?_
 refine ae ?_
 refine aq (am rfl) rfl rfl ?_
 refine aq (dp Tryz.underlying9 rfl) rfl rfl ?_
 refine aq (y_convii Tryz.underlying3 Tryz.underlying5 rfl) rfl rfl ?_
 have hk : k < ls.length := by omega
 have hlk : 1 ≤ (ls.getD k []).length ∧ (ls.getD k []).length ≤ 63 := firstCk_zero.1 hz (ls.getD k []) (by rw [List.getD_eq_getElem?_getD, List.getElem?_eq_getElem hk]; exact List.getElem_mem hk)
 have hlk2 := hlk
 refine eo (t := 30) (.int .u8 ((UInt8.ofNat (ls.getD k []).length).toNat : Int)) rfl (congrArg _ (by rw [ij (by omega) (by omega), u8len hlk2.2])) ?_
 have htk := dh ls [] k hk
 have htl2 := hX ls (k + 1)
 rw [htk, fN, encn_one, List.length_append, List.length_cons] at htl2
 refine f0 rfl ent_206 rfl (c_WriteByte _ _ _ _ _ (by omega)) (fun o => .z) (List.mem_of_getElem? (i := 0) rfl) (fun s hs => nomatch hs) (fun o1 => ?_)
 refine aa ?_
 refine aj ?_
 refine ae ?_
 refine aq (am rfl) rfl rfl ?_
 refine f0 rfl ent_207 rfl (c_WriteString _ _ _ _ _ (by rw [List.length_append, List.length_singleton]; omega)) (fun o => .z) (List.mem_of_getElem? (i := 0) rfl) (fun s hs => nomatch hs) (fun o2 => ?_)
 refine aa ?_
 refine bj ?_
 refine aj ?_
 refine ae ?_
 refine aq (br rfl rfl (by omega) (by omega)) rfl rfl ?_
 refine aq (am rfl) rfl rfl ?_
 refine aa ?_
 have hk : k < ls.length := by omega
 have htk := dh ls [] k hk
 refine bv ((k + 1, o2.1, o2.2)) ?_ ?_ ⟨rfl, trivial⟩ (by repeat (first | exact trivial | refine ⟨rfl, ?_⟩)) (fun w h => by show Hp _ _ (Ch.bld _ _ _ _ _ (eB (ls.take (k + 1))) :: _) _ _; rw [htk, fN, encn_one]; have h2 := h; rw [List.append_assoc] at h2; exact h2)
 show k + 1 ≤ ls.length
 omega
 show ls.length - (k + 1) < ls.length - k
 omega
 refine aa ?_
 refine aj ?_
 refine ap ?_
 refine aD rfl ?_
 refine bJ ?_
 refine aV ?_
 refine aX ?_
 refine a8 ?_
 refine aj ?_
 refine ap ?_
 refine ap ?_
 refine ae ?_
 refine bA rfl ent_208 rfl (c_bld_Len _ _ _ _) (fun w hw => az (ja 0 rfl hw) aY) ?_
 refine aq (dB rfl rfl) rfl rfl ?_
 refine ay (t := 36) rfl (fun h15_1 => ?_) (fun h15_1 => ?_)
 refine aa ?_
 refine aj ?_
 refine aA rfl ?_
 refine ap ?_
 refine ae ?_
 refine aq (ai rfl) rfl rfl ?_
 refine aq (ai rfl) rfl rfl ?_
 refine aa ?_
 refine aj ?_
 refine aN ?_
 refine ax ?_
 refine aR (ts := [2, 3]) rfl rfl rfl (fun w hw => ?_)
 have hk : k = ls.length := by omega
 rw [hk, List.take_length] at h15_1
 exact ⟨(), by rw [fR, if_neg (by omega), if_pos (by omega)]; rfl, hw.base, (hw.weak (List.nil_sublist _) (fun s hs => hs)).toNews⟩
 refine aa ?_
 refine aj ?_
 refine aD rfl ?_
 refine aQ ?_
 refine aj ?_
 refine ap ?_
 refine ae ?_
 refine f0 rfl ent_209 rfl (c_bld_String _ _ _ _) (fun o => .z) (List.mem_of_getElem? (i := 0) rfl) (fun s hs => nomatch hs) (fun o3 => ?_)
 refine aq (ai rfl) rfl rfl ?_
 refine aq (ai rfl) rfl rfl ?_
 refine aa ?_
 refine aj ?_
 refine aN ?_
 refine aR (ts := [2, 3]) rfl rfl rfl (fun w hw => ?_)
 have hk : k = ls.length := by omega
 subst hk
 rw [List.take_length] at h15_1 ⊢
 exact ⟨(), by rw [fR, if_neg (by omega), if_neg (by omega)]; rfl, hw.base, (hw.weak (List.nil_sublist _) (fun s hs => hs)).toNews⟩

theorem mapS_step (t : a6 → a6) (l : List a6) (k : Nat) (h : k < l.length) : ((l.take k).map t ++ l.drop k).set k (t (l.getD k [])) = (l.take (k + 1)).map t ++ l.drop (k + 1) := by
  have e : l.getD k [] = l[k] := by simp [List.getD_eq_getElem?_getD, h]
  have hk : k - ((l.take k).map t).length = 0 := by simp; omega
  rw [List.set_append_right _ _ (by simp; omega), hk, List.drop_eq_getElem_cons h, List.set_cons_zero, e, List.take_succ_eq_append_getElem h, List.map_append]
  simp
theorem mapS_at (t : a6 → a6) (l : List a6) (k : Nat) (h : k < l.length) : ((l.take k).map t ++ l.drop k).getD k [] = l.getD k [] := by
  simp [List.getD_eq_getElem?_getD, List.getElem?_append_right, Nat.min_eq_left (Nat.le_of_lt h)]
theorem dS (t : a6 → a6) (l : List a6) (k : Nat) : ((l.take k).map t ++ l.drop k).length = l.length := by simp; omega
theorem gS (n : a6) (h : n.length ≤ 1000000000) : (bk n).length ≤ 254 ∧ (∀ s ∈ bk n, 1 ≤ s.length ∧ s.length ≤ 63) ∧ (eB ((bk n).map bO)).length ≤ 254 := by
  unfold bk
  by_cases hc : bd n = 0
  · rw [if_pos hc]
    obtain ⟨h1, h2⟩ := nameCk_zero.1 hc
    have := labs_len n
    refine ⟨by omega, fD n, ?_⟩
    rw [iy _ (fD n), dW, gq n h2]; exact h1
  · rw [if_neg hc]; exact ⟨by simp, nofun, by simp [eB]⟩

theorem fold_b {n : a6} {k : Nat} (hk : k < (bk n).length) (h : ∀ s ∈ bk n, 1 ≤ s.length ∧ s.length ≤ 63) : ((((bk n).take k).map bO ++ (bk n).drop k).getD k []).length ≤ 1000000000000 := by
  have e : (bk n).getD k [] = (bk n)[k] := by simp [List.getD_eq_getElem?_getD, hk]
  rw [mapS_at bO _ k hk, e]
  have := h _ (List.getElem_mem hk)
  omega

theorem c_name_Fold (n : a6) (hn : n.length ≤ 1000000000) : RC Tryz.prog 73 #[.string (ba n)] [] (α := Unit) (fun _ => .string (ba (a7 n))) (fun _ => []) := by
 refine bK (args := [.string (ba n)]) 29 Tryz.func73 rfl rfl rfl (fun w0 => ?_)
 refine ap ?_
 refine ae ?_
 refine aq (ai rfl) rfl rfl ?_
 refine aa ?_
 refine aj ?_
 refine ap ?_
 refine ae ?_
 refine aq (am rfl) rfl rfl ?_
 refine dE rfl ent_146 rfl (gM _) (fun w hw => aY) (fun ⟨A0, c0⟩ => ?_)
 have hlb := gS n hn
 refine aq (ai rfl) rfl rfl ?_
 refine aa ?_
 refine aj ?_
 refine ap ?_
 refine ap ?_
 refine ae ?_
 refine aq (am rfl) rfl rfl ?_
 refine aq (bg Tryz.underlying135 rfl) rfl rfl ?_
 refine aq (am rfl) rfl rfl ?_
 refine aa ?_
 refine aj ?_
 refine aS ?_
 refine dn (σ := Nat) [3, 4, 5, 10, 12, 13, 14, 15, 16, 17, 18, 19, 20, 21, 22] (fun k => k ≤ (bk n).length) (fun k => (bk n).length - k) (fun k => [(12, .int .i64 k), (10, .slice A0 (((bk n).take k).map bO ++ (bk n).drop k).length c0), (3, .slice A0 (((bk n).take k).map bO ++ (bk n).drop k).length c0)]) (fun k => Ch.ls A0 c0 9 1 dD (((bk n).take k).map bO ++ (bk n).drop k)) (0) ?_ ⟨rfl, rfl, rfl, trivial⟩ rfl (fun k hI => ?_)
 exact Nat.zero_le _
 have hml := dS bO (bk n) k
 refine ap ?_
 refine ae ?_
 refine aq (bW rfl rfl) rfl rfl ?_
 refine ay (t := 13) rfl (fun h3_0 => ?_) (fun h3_0 => ?_)
 refine aa ?_
 refine aj ?_
 refine ap ?_
 refine aA rfl ?_
 refine aQ ?_
 refine aj ?_
 refine ap ?_
 refine aS ?_
 refine ap ?_
 refine ae ?_
 refine aq (am rfl) rfl rfl ?_
 refine aq (bB  Tryz.underlying135 cI rfl rfl (dL 0 rfl) rfl (by rw [dS]; omega)) rfl rfl ?_
 refine aq (bZ bV ([] : a6) cI rfl (dL 0 rfl) (by rw [dS]; omega) rfl rfl) rfl rfl ?_
 refine aq (ai rfl) rfl rfl ?_
 refine aq (ai rfl) rfl rfl ?_
 refine aa ?_
 refine aj ?_
 refine ae ?_
 refine aq (am rfl) rfl rfl ?_
 refine aq (am rfl) rfl rfl ?_
 refine aq (am rfl) rfl rfl ?_
 refine bD rfl ent_147 (hY _ (fold_b (by omega) hlb.2.1)) rfl ?_
 refine aq (bB  Tryz.underlying135 cI rfl rfl (dL 0 rfl) rfl (by rw [dS]; omega)) rfl rfl ?_
 refine fb bV ([] : a6) _ cI rfl rfl rfl .z rfl (by rw [dS]; omega) rfl rfl rfl ?_
 refine aa ?_
 refine bj ?_
 refine aj ?_
 refine ae ?_
 refine aq (br rfl rfl (by omega) (by omega)) rfl rfl ?_
 refine aq (am rfl) rfl rfl ?_
 refine aa ?_
 have hk : k < (bk n).length := by omega
 refine bv (k + 1) ?_ ?_ ⟨rfl, lk rfl (by rw [dS, dS]), lk rfl (by rw [dS, dS]), trivial⟩ (by repeat (first | exact trivial | refine ⟨rfl, ?_⟩)) (fun w h => by rw [mapS_at bO (bk n) k hk, mapS_step bO (bk n) k hk] at h; exact h)
 omega
 omega
 refine aa ?_
 refine aj ?_
 refine ap ?_
 refine aD rfl ?_
 refine bJ ?_
 refine aV ?_
 refine aX ?_
 refine a8 ?_
 refine aj ?_
 refine ap ?_
 refine ae ?_
 obtain rfl : k = (bk n).length := by omega
 refine aq (am rfl) rfl rfl ?_
 refine bA rfl ent_148 rfl (c_name_Make _ _ _ (by have := hlb.2.2; simp; omega)) (fun w hw => (az (ci 0 rfl hw) aY)) ?_
 refine aq (am rfl) rfl rfl ?_
 refine aq (bn rfl rfl) rfl rfl ?_
 refine aq (bn rfl rfl) rfl rfl ?_
 refine aq (ai rfl) rfl rfl ?_
 refine aq (ai rfl) rfl rfl ?_
 refine aa ?_
 refine aj ?_
 refine ap ?_
 refine ae ?_
 refine aq (am rfl) rfl rfl ?_
 refine aq (ai rfl) rfl rfl ?_
 refine aa ?_
 refine aj ?_
 refine aN ?_
 refine aR (ts := [2]) rfl rfl rfl (fun w hw => ?_)
 exact ⟨(), by rw [← iR]; simp [eW], hw.base, (hw.weak (List.nil_sublist _) (fun s hs => hs)).toNews⟩

theorem gx (n : a6) (hn : n.length ≤ 1000000000) : eC Tryz.prog 73 #[.string (ba n)] (.string (ba (a7 n))) := rc_pure (c_name_Fold n hn)

end Go.Proofs.YtnpdgmoeoidppaaGreat

/- hash: the sums -/
namespace Go.Proofs.YtnpdgmoeoidppaaGreat
open Go.RowKit Go.Shelf
set_option linter.unusedVariables false
set_option linter.unusedSimpArgs false

theorem ent_73 : Enters Tryz.prog 73 := enters_of Tryz.func73 (by kernel_rfl) rfl
theorem cX : TyI Tryz.prog 3 false 1 8 (.int .i64 0) := TyI.mk' (by kernel_rfl) (fun _ => by kernel_rfl)

end Go.Proofs.YtnpdgmoeoidppaaGreat
