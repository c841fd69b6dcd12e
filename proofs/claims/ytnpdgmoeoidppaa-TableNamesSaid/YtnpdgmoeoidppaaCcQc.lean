import Derived.Test.YtnpdgmoeoidppaaPaQc
import Derived.Test.YtnpdgmoeoidppaaProg
import Derived.KernelRfl
/- label, name: the contracts -/
namespace Go.Proofs.Ytnpdgmoeoidppaa
open Go.RowKit Go.Shelf
set_option linter.unusedVariables false
set_option linter.unusedSimpArgs false

theorem ent_132 : Enters Try.prog 132 := enters_of Try.func132 (by kernel_rfl) rfl
theorem ent_133 : Enters Try.prog 133 := enters_of Try.func133 (by kernel_rfl) rfl
theorem ent_141 : Enters Try.prog 141 := enters_of Try.func141 (by kernel_rfl) rfl
theorem ent_142 : Enters Try.prog 142 := enters_of Try.func142 (by kernel_rfl) rfl
theorem ent_158 : Enters Try.prog 158 := enters_of Try.func158 (by kernel_rfl) rfl
theorem ent_159 : Enters Try.prog 159 := enters_of Try.func159 (by kernel_rfl) rfl
theorem ent_56 : Enters Try.prog 56 := enters_of Try.func56 (by kernel_rfl) rfl
theorem ent_95 : Enters Try.prog 95 := enters_of Try.func95 (by kernel_rfl) rfl
theorem mixed : Try.prog.follows .mixedOrders = true := by kernel_rfl
theorem ty_105 : TyI Try.prog 105 false 1 24 (.slice none 0 0) := TyI.mk' (by kernel_rfl) (fun _ => by kernel_rfl)
theorem bN : TyI Try.prog 37 false 1 16 (.string ⟨#[]⟩) := TyI.mk' (by kernel_rfl) (fun _ => by kernel_rfl)
theorem ty_5 : TyI Try.prog 5 false 1 1 (.int .u8 0) := TyI.mk' (by kernel_rfl) (fun _ => by kernel_rfl)
theorem bK : TyI Try.prog 9 false 1 16 (.string ⟨#[]⟩) := TyI.mk' (by kernel_rfl) (fun _ => by kernel_rfl)

theorem fb (l : aW) : d4 Try.prog 137 #[.string (ba l)] (.int .i64 (eC l)) := by
 intro w0
 refine bR (ok0 := no) (S := []) (args := [.string (ba l)]) 12 Try.func137 rfl rfl rfl (by simp) (by simp) ?_
 refine ap ?_
 refine ah ?_
 refine au (aj rfl) rfl rfl ?_
 refine aa ?_
 refine am ?_
 refine ap ?_
 refine ap ?_
 refine ah ?_
 refine au (ak rfl) rfl rfl ?_
 refine au (eQ Try.underlying9 rfl) rfl rfl ?_
 refine au (aj rfl) rfl rfl ?_
 refine aa ?_
 refine am ?_
 refine bk ?_
 refine ap ?_
 refine ah ?_
 refine au (ak rfl) rfl rfl ?_
 refine au (bW rfl rfl) rfl rfl ?_
 refine aG (t := 8) rfl (fun h2_1 => ?_) (fun h2_1 => ?_)
 refine au (aj rfl) rfl rfl ?_
 refine aa ?_
 refine am ?_
 refine aI rfl ?_
 refine ap ?_
 refine ah ?_
 refine au (aj rfl) rfl rfl ?_
 refine aa ?_
 refine am ?_
 refine aU ?_
 refine aO ?_
 refine aA ?_
 refine aX (ts := [2]) rfl rfl rfl (fun w hw => ?_)
 exact ⟨congrArg _ (by show Value.int _ _ = _; unfold eC; congr 1; (repeat (first | rw [if_pos (by omega)] | rw [if_neg (by omega)]))), hw.base⟩
 refine au (aj rfl) rfl rfl ?_
 refine aa ?_
 refine am ?_
 refine aK rfl ?_
 refine ap ?_
 refine ah ?_
 refine au (ak rfl) rfl rfl ?_
 refine au (em rfl rfl) rfl rfl ?_
 refine aG (t := 11) rfl (fun h4_1 => ?_) (fun h4_1 => ?_)
 refine au (aj rfl) rfl rfl ?_
 refine aa ?_
 refine am ?_
 refine aI rfl ?_
 refine ap ?_
 refine ah ?_
 refine au (aj rfl) rfl rfl ?_
 refine aa ?_
 refine am ?_
 refine aU ?_
 refine aO ?_
 refine aA ?_
 refine aX (ts := [2]) rfl rfl rfl (fun w hw => ?_)
 exact ⟨congrArg _ (by show Value.int _ _ = _; unfold eC; congr 1; (repeat (first | rw [if_pos (by omega)] | rw [if_neg (by omega)]))), hw.base⟩
 refine au (aj rfl) rfl rfl ?_
 refine aa ?_
 refine am ?_
 refine aK rfl ?_
 refine aZ ?_
 refine bV ?_
 refine am ?_
 refine ap ?_
 refine ah ?_
 refine au (aj rfl) rfl rfl ?_
 refine aa ?_
 refine am ?_
 refine aU ?_
 refine aX (ts := [2]) rfl rfl rfl (fun w hw => ?_)
 exact ⟨congrArg _ (by show Value.int _ _ = _; unfold eC; congr 1; (repeat (first | rw [if_pos (by omega)] | rw [if_neg (by omega)]))), hw.base⟩

theorem c_label_Fold1 (c : UInt8) : d4 Try.prog 141 #[.int .u8 c.toNat] (.int .u8 (lowB c).toNat) := by
 intro w0
 have hc := UInt8.toNat_lt c
 refine bR (ok0 := no) (S := []) (args := [.int .u8 c.toNat]) 13 Try.func141 rfl rfl rfl (by simp) (by simp) ?_
 refine ap ?_
 refine ah ?_
 refine au (aj rfl) rfl rfl ?_
 refine aa ?_
 refine am ?_
 refine ap ?_
 refine ap ?_
 refine ah ?_
 refine au (ak rfl) rfl rfl ?_
 refine au (gV rfl rfl) rfl rfl ?_
 refine aG (t := 4) rfl (fun h1_1 => ?_) (fun h1_1 => ?_)
 refine au (ak rfl) rfl rfl ?_
 refine av rfl rfl ?_
 refine au (ak rfl) rfl rfl ?_
 refine av rfl rfl ?_
 refine au (y_leq rfl rfl) rfl rfl ?_
 refine aG (t := 7) rfl (fun h1_4 => ?_) (fun h1_4 => ?_)
 refine au (aF rfl rfl) rfl rfl ?_
 refine aa ?_
 refine am ?_
 refine aI rfl ?_
 refine ap ?_
 refine ah ?_
 refine au (ak rfl) rfl rfl ?_
 refine au (y_sub rfl rfl) rfl rfl ?_
 refine au (y_add rfl rfl) rfl rfl ?_
 refine au (aj rfl) rfl rfl ?_
 refine aa ?_
 refine am ?_
 refine aU ?_
 refine aA ?_
 refine aX (ts := [2]) rfl rfl rfl (fun w hw => ?_)
 exact ⟨congrArg _ (by show Value.int _ _ = _; congr 1; rw [eX (by rw [eX (by omega) (by omega)]; omega) (by rw [eX (by omega) (by omega)]; omega), eX (by omega) (by omega)]; unfold lowB; rw [if_pos (by omega)]; simp; omega), hw.base⟩
 refine au (aF rfl rfl) rfl rfl ?_
 refine aa ?_
 refine am ?_
 refine aK rfl ?_
 refine aZ ?_
 refine am ?_
 refine ap ?_
 refine ah ?_
 refine au (ak rfl) rfl rfl ?_
 refine au (aj rfl) rfl rfl ?_
 refine aa ?_
 refine am ?_
 refine aU ?_
 refine aX (ts := [2]) rfl rfl rfl (fun w hw => ?_)
 exact ⟨congrArg _ (by show Value.int _ _ = _; congr 2; unfold lowB; rw [if_neg (by omega)]), hw.base⟩
 refine au (ak rfl) rfl rfl ?_
 refine aw rfl rfl rfl rfl ?_
 refine aw rfl rfl rfl rfl ?_
 refine au (aT rfl rfl) rfl rfl ?_
 refine aa ?_
 refine am ?_
 refine aK rfl ?_
 refine aZ ?_
 refine am ?_
 refine ap ?_
 refine ah ?_
 refine au (ak rfl) rfl rfl ?_
 refine au (aj rfl) rfl rfl ?_
 refine aa ?_
 refine am ?_
 refine aU ?_
 refine aX (ts := [2]) rfl rfl rfl (fun w hw => ?_)
 exact ⟨congrArg _ (by show Value.int _ _ = _; congr 2; unfold lowB; rw [if_neg (by omega)]), hw.base⟩

theorem map_step (t : UInt8 → UInt8) (l : aW) (k : Nat) (h : k < l.length) : ((l.take k).map t ++ l.drop k).set k (t (l.getD k 0)) = (l.take (k + 1)).map t ++ l.drop (k + 1) := by
  have e : l.getD k 0 = l[k] := by simp [List.getD_eq_getElem?_getD, h]
  have hk : k - ((l.take k).map t).length = 0 := by simp; omega
  rw [List.set_append_right _ _ (by simp; omega), hk, List.drop_eq_getElem_cons h, List.set_cons_zero, e, List.take_succ_eq_append_getElem h, List.map_append]
  simp
theorem map_at (t : UInt8 → UInt8) (l : aW) (k : Nat) (h : k < l.length) : ((l.take k).map t ++ l.drop k).getD k 0 = l.getD k 0 := by
  simp [List.getD_eq_getElem?_getD, List.getElem?_append_right, Nat.min_eq_left (Nat.le_of_lt h)]
theorem eD (t : UInt8 → UInt8) (l : aW) (k : Nat) : ((l.take k).map t ++ l.drop k).length = l.length := by simp; omega

theorem c_label_each (l : aW) (f : Nat) (t : UInt8 → UInt8) (hf : ∀ c, d4 Try.prog f #[.int .u8 c.toNat] (.int .u8 (t c).toNat)) (hen : Enters Try.prog f) (hl : l.length ≤ 1000000000000) : d4 Try.prog 142 #[.string (ba l), .func (.func f) #[] #[]] (.string (ba (l.map t))) := by
 intro w0
 refine bR (ok0 := no) (S := []) (args := [.string (ba l), .func (.func f) #[] #[]]) 26 Try.func142 rfl rfl rfl (by simp) (by simp) ?_
 refine ap ?_
 refine ah ?_
 refine au (aj rfl) rfl rfl ?_
 refine aa ?_
 refine am ?_
 refine ap ?_
 refine ah ?_
 refine au (ak rfl) rfl rfl ?_
 refine o_s2b Try.underlying9 Try.underlying54 Try.underlying5 (by omega) rfl rfl (fun As1 cs1 => ?_)
 refine au (aj rfl) rfl rfl ?_
 refine aa ?_
 refine am ?_
 refine ap ?_
 refine ap ?_
 refine ah ?_
 refine au (ak rfl) rfl rfl ?_
 refine au (bu Try.underlying54 rfl) rfl rfl ?_
 refine au (ak rfl) rfl rfl ?_
 refine aa ?_
 refine am ?_
 refine bk ?_
 refine dZ (σ := Nat) [5, 6, 7, 10, 12, 13, 14, 15, 16, 17, 18, 19, 20, 21, 22, 23] (fun k => k ≤ l.length) (fun k => l.length - k) (fun k => [(12, .int .i64 k), (10, .slice As1 ((l.take k).map t ++ l.drop k).length cs1), (5, .slice As1 ((l.take k).map t ++ l.drop k).length cs1)]) (fun k => Ch.ls As1 cs1 5 1 encb ((l.take k).map t ++ l.drop k)) (0) ?_ ⟨rfl, rfl, rfl, trivial⟩ rfl (fun k hI => ?_)
 exact Nat.zero_le _
 have hml := eD t l k
 refine ap ?_
 refine ah ?_
 refine au (cX rfl rfl) rfl rfl ?_
 refine aG (t := 13) rfl (fun h3_0 => ?_) (fun h3_0 => ?_)
 refine aa ?_
 refine am ?_
 refine ap ?_
 refine aI rfl ?_
 refine aZ ?_
 refine am ?_
 refine ap ?_
 refine bk ?_
 refine ap ?_
 refine ah ?_
 refine au (ak rfl) rfl rfl ?_
 refine au (co  Try.underlying54 ty_5 rfl rfl (dS 0 rfl) rfl (by rw [eD]; omega)) rfl rfl ?_
 refine au (cP enc_b (0 : UInt8) ty_5 rfl (dS 0 rfl) (by rw [eD]; omega) rfl rfl) rfl rfl ?_
 refine au (aj rfl) rfl rfl ?_
 refine au (aj rfl) rfl rfl ?_
 refine aa ?_
 refine am ?_
 refine ah ?_
 refine au (ak rfl) rfl rfl ?_
 refine au (ak rfl) rfl rfl ?_
 refine au (ak rfl) rfl rfl ?_
 refine au (ak rfl) rfl rfl ?_
 refine g4 rfl rfl rfl hen (hf _) rfl ?_
 refine au (co  Try.underlying54 ty_5 rfl rfl (dS 0 rfl) rfl (by rw [eD]; omega)) rfl rfl ?_
 refine eb enc_b (0 : UInt8) _ ty_5 rfl rfl rfl .z rfl (by rw [eD]; omega) rfl rfl rfl ?_
 refine aa ?_
 refine bV ?_
 refine am ?_
 refine ah ?_
 refine au (cr rfl rfl (by omega) (by omega)) rfl rfl ?_
 refine au (ak rfl) rfl rfl ?_
 refine aa ?_
 have hk : k < l.length := by omega
 refine cn (k + 1) ?_ ?_ ⟨rfl, lk rfl (by rw [eD, eD]), lk rfl (by rw [eD, eD]), trivial⟩ (by repeat (first | exact trivial | refine ⟨rfl, ?_⟩)) (fun w h => by rw [map_at t l k hk, map_step t l k hk] at h; exact h)
 omega
 omega
 refine aa ?_
 refine am ?_
 refine ap ?_
 refine aK rfl ?_
 refine cB ?_
 refine bl ?_
 refine bq ?_
 refine bA ?_
 refine am ?_
 refine ap ?_
 refine ah ?_
 refine au (ak rfl) rfl rfl ?_
 refine au (y_b2s Try.underlying54 Try.underlying9 Try.underlying5 rfl (dS 0 rfl)) rfl rfl ?_
 refine au (aj rfl) rfl rfl ?_
 refine aa ?_
 refine am ?_
 refine aU ?_
 refine aX (ts := [4]) rfl rfl rfl (fun w hw => ?_)
 obtain rfl : k = l.length := by omega
 exact ⟨by simp [fc], hw.base⟩

theorem fx (l : aW) (hl : l.length ≤ 1000000000000) : d4 Try.prog 103 #[.string (ba l)] (.string (ba (cG l))) := by
 intro w0
 refine bR (ok0 := no) (S := []) (args := [.string (ba l)]) 7 Try.func103 rfl rfl rfl (by simp) (by simp) ?_
 refine ap ?_
 refine ah ?_
 refine au (aj rfl) rfl rfl ?_
 refine aa ?_
 refine am ?_
 refine ap ?_
 refine ah ?_
 refine au (aj rfl) rfl rfl ?_
 refine aa ?_
 refine am ?_
 refine ap ?_
 refine ah ?_
 refine au (ak rfl) rfl rfl ?_
 refine au (ak rfl) rfl rfl ?_
 refine bL rfl ent_142 (c_label_each _ 141 lowB c_label_Fold1 ent_141 hl) rfl ?_
 refine au (aj rfl) rfl rfl ?_
 refine aa ?_
 refine am ?_
 refine aU ?_
 refine aX (ts := [2]) rfl rfl rfl (fun w hw => ?_)
 exact ⟨rfl, hw.base⟩

def cutL (n : aW) : aW := if dp n then lab n else []
def cutR (n : aW) : aW := if dp n then rst n else n
theorem cutR_lt {n : aW} (h : dp n = true) : (cutR n).length < n.length := by unfold cutR; rw [if_pos h]; exact fQ h
theorem cutR_ok {n : aW} (h : dp n = true) : cutR n = rst n := if_pos h
theorem cutL_ok {n : aW} (h : dp n = true) : cutL n = lab n := if_pos h
theorem cut_no {n : aW} (h : n = [] ∨ bt n 0 < 1 ∨ 63 < bt n 0 ∨ n.length ≤ bt n 0) : dp n = false := by
  cases hq : dp n with
  | false => rfl
  | true =>
    obtain ⟨h0, h1, h2, h3⟩ := cutOk_iff.1 hq
    rcases h with h | h
    · exact absurd h h0
    · omega

set_option maxRecDepth 100000 in
theorem gH (n : aW) : d4 Try.prog 95 #[.string (ba n)] (.tuple #[.string (ba (cutL n)), .string (ba (cutR n)), .bool (dp n)]) := by
 intro w0
 refine bR (ok0 := no) (S := []) (args := [.string (ba n)]) 32 Try.func95 rfl rfl rfl (by simp) (by simp) ?_
 refine ap ?_
 refine ah ?_
 refine au (aj rfl) rfl rfl ?_
 refine au (aj rfl) rfl rfl ?_
 refine au (aj rfl) rfl rfl ?_
 refine aa ?_
 refine am ?_
 refine ap ?_
 refine ap ?_
 refine ah ?_
 refine au (ak rfl) rfl rfl ?_
 refine au (d8 rfl rfl) rfl rfl ?_
 refine aG (t := 7) rfl (fun h1_1 => ?_) (fun h1_1 => ?_)
 refine aa ?_
 refine am ?_
 refine aI rfl ?_
 refine ap ?_
 refine ah ?_
 refine au (aj rfl) rfl rfl ?_
 refine au (aj rfl) rfl rfl ?_
 refine au (aj rfl) rfl rfl ?_
 refine aa ?_
 refine am ?_
 refine aU ?_
 refine aA ?_
 refine aX (ts := [2, 3, 4]) rfl rfl rfl (fun w hw => ?_)
 subst h1_1
 exact ⟨rfl, hw.base⟩
 refine aa ?_
 refine am ?_
 refine aK rfl ?_
 refine aZ ?_
 refine am ?_
 refine ap ?_
 refine ah ?_
 refine au (ak rfl) rfl rfl ?_
 have hs := len_pos h1_1
 have hb := bt_lt n 0
 refine au (y_indexs (k := 0) Try.underlying37 rfl rfl rfl (by omega)) rfl rfl ?_
 refine au (y_convi Try.underlying5 Try.underlying3 rfl (wrap_i64 (by omega) (by omega))) rfl rfl ?_
 refine au (aj rfl) rfl rfl ?_
 refine aa ?_
 refine am ?_
 refine ap ?_
 refine ap ?_
 refine ah ?_
 refine au (ak rfl) rfl rfl ?_
 refine au (cX rfl rfl) rfl rfl ?_
 refine aG (t := 12) rfl (fun h4_1 => ?_) (fun h4_1 => ?_)
 refine au (ak rfl) rfl rfl ?_
 refine aw rfl rfl rfl rfl ?_
 refine aw rfl rfl rfl rfl ?_
 refine au (aF rfl rfl) rfl rfl ?_
 refine au (ak rfl) rfl rfl ?_
 refine aw rfl rfl rfl rfl ?_
 refine aw rfl rfl rfl rfl ?_
 refine aw rfl rfl rfl rfl ?_
 refine aw rfl rfl rfl rfl ?_
 refine au (aF rfl rfl) rfl rfl ?_
 refine aa ?_
 refine am ?_
 refine aI rfl ?_
 refine ap ?_
 refine ah ?_
 refine au (ak rfl) rfl rfl ?_
 refine au (aj rfl) rfl rfl ?_
 refine au (aj rfl) rfl rfl ?_
 refine au (aj rfl) rfl rfl ?_
 refine aa ?_
 refine am ?_
 refine aU ?_
 refine aA ?_
 refine aX (ts := [2, 3, 4]) rfl rfl rfl (fun w hw => ?_)
 have hc := cut_no (n := n) (by omega)
 exact ⟨by simp [fc, cutL, cutR, hc], hw.base⟩
 refine au (ak rfl) rfl rfl ?_
 refine av rfl rfl ?_
 refine au (ak rfl) rfl rfl ?_
 refine av rfl rfl ?_
 refine au (em rfl rfl) rfl rfl ?_
 refine aG (t := 15) rfl (fun h4_4 => ?_) (fun h4_4 => ?_)
 refine au (aT rfl rfl) rfl rfl ?_
 refine au (ak rfl) rfl rfl ?_
 refine aw rfl rfl rfl rfl ?_
 refine aw rfl rfl rfl rfl ?_
 refine aw rfl rfl rfl rfl ?_
 refine aw rfl rfl rfl rfl ?_
 refine au (aF rfl rfl) rfl rfl ?_
 refine aa ?_
 refine am ?_
 refine aI rfl ?_
 refine ap ?_
 refine ah ?_
 refine au (ak rfl) rfl rfl ?_
 refine au (aj rfl) rfl rfl ?_
 refine au (aj rfl) rfl rfl ?_
 refine au (aj rfl) rfl rfl ?_
 refine aa ?_
 refine am ?_
 refine aU ?_
 refine aA ?_
 refine aX (ts := [2, 3, 4]) rfl rfl rfl (fun w hw => ?_)
 have hc := cut_no (n := n) (by omega)
 exact ⟨by simp [fc, cutL, cutR, hc], hw.base⟩
 refine au (aT rfl rfl) rfl rfl ?_
 refine au (ak rfl) rfl rfl ?_
 refine av rfl rfl ?_
 refine au (ak rfl) rfl rfl ?_
 refine av rfl rfl ?_
 refine au (ak rfl) rfl rfl ?_
 refine av rfl rfl ?_
 refine au (eQ Try.underlying37 rfl) rfl rfl ?_
 refine av rfl rfl ?_
 refine au (gV rfl rfl) rfl rfl ?_
 refine aG (t := 21) rfl (fun h4_10 => ?_) (fun h4_10 => ?_)
 refine au (aT rfl rfl) rfl rfl ?_
 refine aa ?_
 refine am ?_
 refine aI rfl ?_
 refine ap ?_
 refine ah ?_
 refine au (ak rfl) rfl rfl ?_
 refine au (aj rfl) rfl rfl ?_
 refine au (aj rfl) rfl rfl ?_
 refine au (aj rfl) rfl rfl ?_
 refine aa ?_
 refine am ?_
 refine aU ?_
 refine aA ?_
 refine aX (ts := [2, 3, 4]) rfl rfl rfl (fun w hw => ?_)
 have hc := cut_no (n := n) (by omega)
 exact ⟨by simp [fc, cutL, cutR, hc], hw.base⟩
 refine au (aT rfl rfl) rfl rfl ?_
 refine aa ?_
 refine am ?_
 refine aK rfl ?_
 refine aZ ?_
 refine am ?_
 refine ap ?_
 refine dX 11 rfl mixed ?_
 refine aY (i := 0) rfl ae (ak rfl) aD aD rfl (ai ar) (by kernel_rfl) rfl ?_
 refine aY (i := 1) rfl ae (ak rfl) aD aD rfl (ai ar) (by kernel_rfl) rfl ?_
 refine aY (i := 2) rfl ae (cr rfl rfl (by omega) (by omega)) aD aD rfl (ai ar) (by kernel_rfl) rfl ?_
 refine aY (i := 3) rfl ae (y_slices (m := 1) (n := 1 + bt n 0) Try.underlying37 rfl rfl rfl rfl (by omega) (by omega) (by omega)) aD aD rfl (ai ar) (by kernel_rfl) rfl ?_
 refine aY (i := 4) rfl ae (ak rfl) aD aD rfl (ai ar) (by kernel_rfl) rfl ?_
 refine aY (i := 5) rfl ae (ak rfl) aD aD rfl (ai ar) (by kernel_rfl) rfl ?_
 refine aY (i := 6) rfl ae (cr rfl rfl (by omega) (by omega)) aD aD rfl (ai ar) (by kernel_rfl) rfl ?_
 refine aY (i := 7) rfl ae (y_slices_lo (m := 1 + bt n 0) Try.underlying37 rfl rfl (by omega) (by omega)) aD aD rfl (ai ar) (by kernel_rfl) rfl ?_
 refine aY (i := 8) rfl ae (aj rfl) aD aD rfl (ai ar) (by kernel_rfl) rfl ?_
 refine aY (i := 9) rfl ae (aj rfl) aD aD rfl (ai ar) (by kernel_rfl) rfl ?_
 refine aY (i := 10) rfl ae (aj rfl) aD aD rfl (ai ar) (by kernel_rfl) rfl ?_
 refine dz (by kernel_rfl) ?_
 refine am ?_
 refine aU ?_
 refine aX (ts := [2, 3, 4]) rfl rfl rfl (fun w hw => ?_)
 have hc : dp n = true := cutOk_iff.2 ⟨h1_1, by omega, by omega, by omega⟩
 exact ⟨by simp [fc, cutL, cutR, hc, lab, rst], hw.base⟩

theorem dF (n : aW) : d4 Try.prog 56 #[.string (ba n)] (.int .i64 (bi n)) := by
 intro w0
 refine bR (ok0 := no) (S := []) (args := [.string (ba n)]) 20 Try.func56 rfl rfl rfl (by simp) (by simp) ?_
 refine ap ?_
 refine ah ?_
 refine au (aj rfl) rfl rfl ?_
 refine aa ?_
 refine am ?_
 refine ap ?_
 refine ap ?_
 refine ah ?_
 refine au (ak rfl) rfl rfl ?_
 refine au (eQ Try.underlying37 rfl) rfl rfl ?_
 refine au (em rfl rfl) rfl rfl ?_
 refine aG (t := 8) rfl (fun h1_2 => ?_) (fun h1_2 => ?_)
 refine aa ?_
 refine am ?_
 refine aI rfl ?_
 refine ap ?_
 refine ah ?_
 refine au (aj rfl) rfl rfl ?_
 refine aa ?_
 refine am ?_
 refine aU ?_
 refine aA ?_
 refine aX (ts := [2]) rfl rfl rfl (fun w hw => ?_)
 exact ⟨by simp [fc, bi, show 254 < n.length by omega], hw.base⟩
 refine aa ?_
 refine am ?_
 refine aK rfl ?_
 refine aZ ?_
 refine am ?_
 refine ap ?_
 refine bk ?_
 refine dd (σ := aW) [0, 2, 3, 4, 5, 9, 10, 11, 12, 13, 14, 15, 16, 17, 18, 19] (fun r => okN n = okN r) (fun r => r.length) (fun r => [(0, .string (ba r))]) (n) ?_ ⟨rfl, trivial⟩ (fun r hI => ?_)
 rfl
 refine ap ?_
 refine ap ?_
 refine ah ?_
 refine au (ak rfl) rfl rfl ?_
 refine au (y_neqs rfl rfl) rfl rfl ?_
 refine aG (t := 10) rfl (fun h3_1 => ?_) (fun h3_1 => ?_)
 refine aa ?_
 refine am ?_
 refine aI rfl ?_
 refine aZ ?_
 refine am ?_
 refine bk ?_
 refine ap ?_
 refine ah ?_
 refine au (ak rfl) rfl rfl ?_
 refine bL rfl ent_95 (gH _) rfl ?_
 refine au (ak rfl) rfl rfl ?_
 refine au (aL rfl rfl) rfl rfl ?_
 refine au (aL rfl rfl) rfl rfl ?_
 refine au (aL rfl rfl) rfl rfl ?_
 refine b6 (t := 16) rfl (fun h4_5 => ?_) (fun h4_5 => ?_)
 refine au (aj rfl) rfl rfl ?_
 refine au (aj rfl) rfl rfl ?_
 refine au (aj rfl) rfl rfl ?_
 refine aa ?_
 refine am ?_
 refine ap ?_
 refine ap ?_
 refine ah ?_
 refine au (ak rfl) rfl rfl ?_
 refine au (cC rfl) rfl rfl ?_
 refine aa ?_
 refine am ?_
 refine aK rfl ?_
 refine aZ ?_
 refine am ?_
 refine ah ?_
 refine au (ak rfl) rfl rfl ?_
 refine au (aj rfl) rfl rfl ?_
 refine aa ?_
 refine bV ?_
 refine cn (cutR r) ?_ ?_ ⟨rfl, trivial⟩ (by repeat (first | exact trivial | refine ⟨rfl, ?_⟩)) aD
 have hc := h4_5
 rw [hI, okN_eq r, hc, cutR_ok hc]; simp [h3_1]
 have hc := h4_5
 exact cutR_lt hc
 refine au (aj rfl) rfl rfl ?_
 refine au (aj rfl) rfl rfl ?_
 refine au (aj rfl) rfl rfl ?_
 refine aa ?_
 refine am ?_
 refine ap ?_
 refine ap ?_
 refine ah ?_
 refine au (ak rfl) rfl rfl ?_
 refine au (cC rfl) rfl rfl ?_
 refine aa ?_
 refine am ?_
 refine aI rfl ?_
 refine ap ?_
 refine ah ?_
 refine au (aj rfl) rfl rfl ?_
 refine aa ?_
 refine am ?_
 refine aU ?_
 refine aA ?_
 refine aO ?_
 refine bG ?_
 refine aO ?_
 refine aA ?_
 refine aX (ts := [2]) rfl rfl rfl (fun w hw => ?_)
 have hc := h4_5
 have ho : okN n = false := by rw [hI, okN_eq, hc]; simp [h3_1]
 exact ⟨by simp [fc, bi, show ¬ 254 < n.length by omega, ho], hw.base⟩
 refine aa ?_
 refine am ?_
 refine aK rfl ?_
 refine cB ?_
 refine bl ?_
 refine bq ?_
 refine bA ?_
 refine am ?_
 refine ap ?_
 refine ah ?_
 refine au (aj rfl) rfl rfl ?_
 refine aa ?_
 refine am ?_
 refine aU ?_
 refine aX (ts := [2]) rfl rfl rfl (fun w hw => ?_)
 have ho : okN n = true := by rw [hI, show r = [] by simpa using h3_1]; rfl
 exact ⟨by simp [fc, bi, show ¬ 254 < n.length by omega, ho], hw.base⟩

theorem c_name_each (n : aW) : RC Try.prog 133 #[.string (ba n)] [] (α := Nat) (fun b => .func (.func 159) #[] #[.pointer (some ⟨b, 0, none⟩)]) (fun b => [Ch.row b [.string (ba n)] 37]) := by
 refine bZ (args := [.string (ba n)]) 4 Try.func133 rfl rfl rfl (fun w0 => ?_)
 refine ap ?_
 refine ah ?_
 refine da rfl rfl rfl (fun b1 => ?_)
 refine au (aj rfl) rfl rfl ?_
 refine aa ?_
 refine am ?_
 refine ap ?_
 refine ah ?_
 refine au (gF rfl rfl) rfl rfl ?_
 refine au (aj rfl) rfl rfl ?_
 refine aa ?_
 refine am ?_
 refine aU ?_
 refine aX (ts := [2]) rfl rfl rfl (fun w hw => ?_)
 exact ⟨b1, rfl, hw.base, (hw.weak (.cons_cons _ .slnil) (fun s hs => hs)).toNews⟩

theorem c_name_each1 (n : aW) (b : Nat) : Iter Try.prog 159 [.pointer (some ⟨b, 0, none⟩)] [Ch.row b [.string (ba n)] 37] er (ey n) := by
 refine iter_of_W 24 Try.func159 rfl rfl rfl (fun lr σ I Ix C Sc hy g0 hg0 w0 => ?_)
 refine ap ?_
 refine ah ?_
 refine au (y_loadSo 0 bN rfl rfl rfl) rfl rfl ?_
 refine bL rfl ent_95 (gH _) rfl ?_
 refine au (ak rfl) rfl rfl ?_
 refine au (aL rfl rfl) rfl rfl ?_
 refine au (aL rfl rfl) rfl rfl ?_
 refine au (aL rfl rfl) rfl rfl ?_
 refine au (aj rfl) rfl rfl ?_
 refine au (aj rfl) rfl rfl ?_
 refine au (aj rfl) rfl rfl ?_
 refine aa ?_
 refine am ?_
 refine bk ?_
 refine dZ (σ := List aW × aW × σ) [3, 4, 5, 12, 13, 14, 15, 16, 17, 18, 19, 20, 21, 22, 23] (fun q => ey n = q.1 ++ ey q.2.1 ∧ I q.1 q.2.2) (fun q => q.2.1.length) (fun q => [(3, .string (ba (cutL q.2.1))), (4, .string (ba (cutR q.2.1))), (5, .bool (dp q.2.1))]) (fun q => C q.2.2) (([], n, g0)) ?_ ⟨rfl, rfl, rfl, trivial⟩ rfl (fun q hI => ?_)
 exact ⟨rfl, hg0⟩
 obtain ⟨pre, r, g⟩ := q
 obtain ⟨hxs, hI⟩ := hI
 dsimp only at hxs hI ⊢
 refine ap ?_
 refine ap ?_
 refine ah ?_
 refine au (ak rfl) rfl rfl ?_
 refine b6 (t := 12) rfl (fun h1_0 => ?_) (fun h1_0 => ?_)
 have hx2 : ey n = pre ++ cutL r :: ey (rst r) := by rw [hxs, gn r, if_pos h1_0, cutL_ok h1_0]
 refine au (ak rfl) rfl rfl ?_
 refine av rfl rfl ?_
 refine au (ak rfl) rfl rfl ?_
 refine av rfl rfl ?_
 refine au (ak rfl) rfl rfl ?_
 refine av rfl rfl ?_
 refine f5 rfl rfl (hy pre (cutL r) _ g hx2 hI) (fun _ => .z) (fun s hs => List.mem_append_right _ hs) rfl (fun g' hT => ?_) (fun g' hF => ?_)
 refine au (aF rfl rfl) rfl rfl ?_
 refine aa ?_
 refine am ?_
 refine aI rfl ?_
 refine aZ ?_
 refine am ?_
 refine ap ?_
 refine bk ?_
 refine aZ ?_
 refine bV ?_
 refine am ?_
 refine ah ?_
 refine au (ak rfl) rfl rfl ?_
 refine bL rfl ent_95 (gH _) rfl ?_
 refine au (ak rfl) rfl rfl ?_
 refine au (aL rfl rfl) rfl rfl ?_
 refine au (aL rfl rfl) rfl rfl ?_
 refine au (aL rfl rfl) rfl rfl ?_
 refine au (aj rfl) rfl rfl ?_
 refine au (aj rfl) rfl rfl ?_
 refine au (aj rfl) rfl rfl ?_
 refine aa ?_
 refine cn ((pre ++ [cutL r], cutR r, g')) ?_ ?_ ⟨rfl, rfl, rfl, trivial⟩ (by repeat (first | exact trivial | refine ⟨rfl, ?_⟩)) aD
 exact ⟨by rw [hx2, cutR_ok h1_0]; simp, hT⟩
 exact cutR_lt h1_0
 refine au (aF rfl rfl) rfl rfl ?_
 refine aa ?_
 refine am ?_
 refine aK rfl ?_
 refine cB ?_
 refine bl ?_
 refine bq ?_
 refine bA ?_
 refine e_end (ts := []) rfl rfl rfl (fun w hw => ?_)
 exact iter_end _ (.inr ⟨_, ey (rst r), by rw [hx2]; simp, hF⟩) hw
 refine au (ak rfl) rfl rfl ?_
 refine aw rfl rfl rfl rfl ?_
 refine aw rfl rfl rfl rfl ?_
 refine aw rfl rfl rfl rfl ?_
 refine au (aT rfl rfl) rfl rfl ?_
 refine aa ?_
 refine am ?_
 refine aK rfl ?_
 refine cB ?_
 refine bl ?_
 refine bq ?_
 refine bA ?_
 refine e_end (ts := []) rfl rfl rfl (fun w hw => ?_)
 have hr : ey r = [] := by rw [gn, if_neg (by rw [h1_0]; simp)]
 exact iter_end _ (.inl (by rw [hxs, hr, List.append_nil]; exact hI)) hw

theorem c_AppendSeq_s (xs : List aW) (gf : Nat) (lb : List Value) (Sx : List Ch) (hit : Iter Try.prog gf lb Sx er xs) (hen : Enters Try.prog gf) (hl : xs.length ≤ 1000000000000) : RC Try.prog 158 #[.slice none 0 0, .func (.func gf) #[] lb.toArray] Sx (α := Option Addr × Nat) (fun p => .slice p.1 xs.length p.2) (fun p => [Ch.ls p.1 p.2 9 1 er xs]) := by
 refine rc_of_WM (args := [.slice none 0 0, .func (.func gf) #[] lb.toArray]) 13 Try.func158 rfl rfl rfl (fun w0 => ?_)
 refine ap ?_
 refine ah ?_
 refine da rfl rfl rfl (fun b1 => ?_)
 refine au (aj rfl) rfl rfl ?_
 refine aa ?_
 refine am ?_
 refine ap ?_
 refine ap ?_
 refine ah ?_
 refine au (ak rfl) rfl rfl ?_
 refine aa ?_
 refine am ?_
 refine bk ?_
 refine cu (fun w h => h.nilsl 9 1) ?_
 refine w_range (σ := List aW × Option Addr × Nat) (fun pre g => g.1 = pre) (fun c pre g => False) (fun g => [Ch.ls g.2.1 g.2.2 9 1 er g.1, Ch.row b1 [.slice g.2.1 g.1.length g.2.2] 105]) (([], none, 0)) rfl rfl hen (hit) (fun s hs => hs) rfl (fun _ => rfl) (rfl) rfl (fun pre e post g hxs hI lr D r hr okb wb => ?_) (fun g D0 hI => ?_) (fun c pre post g D0 hxs hI => ?_)
 obtain ⟨q, A, c⟩ := g
 dsimp only at hI ⊢
 subst hI
 refine ah ?_
 refine au (aj rfl) rfl rfl ?_
 refine aa ?_
 refine e_begin rfl hr .z ?_
 refine bk ?_
 refine ah ?_
 have hql : q.length < xs.length := by rw [hxs]; simp
 refine au (aN 3 ty_105 rfl rfl rfl) rfl rfl ?_
 refine au (ak rfl) rfl rfl ?_
 refine bh (vs := [_]) ([_] : List (aW)) bm Try.underlying105 bK rfl rfl rfl rfl rfl rfl (fun As2 => ?_)
 refine d1 (enc := er) (sz := 1) _ Try.underlying105 bK rfl rfl rfl (fun A c => (.s (.s (.s (.z))))) (gt 0 Try.underlying105 rfl) (by simp only [List.length_cons, List.length_nil, Nat.zero_add]; omega) (by simp only [List.length_cons, List.length_nil, Nat.zero_add]; omega) rfl (fun A2 c2 => ?_)
 refine bf ty_105 rfl rfl rfl (.s (.s (.s (.s (.z))))) rfl rfl rfl rfl ?_
 refine aa ?_
 refine bV ?_
 refine gJ ((q ++ [e], A2, c2)) ?_ (aJ 1)
 rfl
 obtain ⟨q, A, c⟩ := g
 dsimp only at hI ⊢
 subst hI
 refine bV ?_
 refine am ?_
 refine ap ?_
 refine ah ?_
 refine au (aN 2 ty_105 rfl rfl rfl) rfl rfl ?_
 refine au (aj rfl) rfl rfl ?_
 refine aa ?_
 refine am ?_
 refine aU ?_
 refine e_lvr ?_
 refine lv_take .z ?_
 refine lv_nil (rs := [.tmp 4]) rfl (fy rfl eN) (fun w hw => ?_)
 exact ⟨(A, c), rfl, hw.base, (hw.weak (.cons _ (.cons_cons _ (.cons _ .slnil))) (fun s hs => hs)).toNews⟩
 exact hI.elim

theorem c_Collect_s (xs : List aW) (gf : Nat) (lb : List Value) (Sx : List Ch) (hit : Iter Try.prog gf lb Sx er xs) (hen : Enters Try.prog gf) (hl : xs.length ≤ 1000000000000) : RC Try.prog 132 #[.func (.func gf) #[] lb.toArray] Sx (α := Option Addr × Nat) (fun p => .slice p.1 xs.length p.2) (fun p => [Ch.ls p.1 p.2 9 1 er xs]) := by
 refine bZ (args := [.func (.func gf) #[] lb.toArray]) 5 Try.func132 rfl rfl rfl (fun w0 => ?_)
 refine ap ?_
 refine ah ?_
 refine au (aj rfl) rfl rfl ?_
 refine aa ?_
 refine am ?_
 refine ap ?_
 refine ah ?_
 refine au (ak rfl) rfl rfl ?_
 refine cY rfl ent_158 rfl (c_AppendSeq_s xs gf lb Sx hit hen hl) (fun w hw => hw.rd) (fun ⟨A0, c0⟩ => ?_)
 refine au (aj rfl) rfl rfl ?_
 refine aa ?_
 refine am ?_
 refine aU ?_
 refine aX (ts := [2]) rfl rfl rfl (fun w hw => ?_)
 exact ⟨(A0, c0), rfl, hw.base, (hw.weak (.cons_cons _ .slnil) (fun s hs => hs)).toNews⟩

theorem fe (n : aW) : RC Try.prog 84 #[.string (ba n)] [] (α := Option Addr × Nat) (fun p => .slice p.1 (bE n).length p.2) (fun p => [Ch.ls p.1 p.2 9 1 er (bE n)]) := by
 refine bZ (args := [.string (ba n)]) 9 Try.func84 rfl rfl rfl (fun w0 => ?_)
 refine ap ?_
 refine ah ?_
 refine au (aj rfl) rfl rfl ?_
 refine aa ?_
 refine am ?_
 refine ap ?_
 refine ap ?_
 refine ah ?_
 refine au (ak rfl) rfl rfl ?_
 refine bL rfl ent_56 (dF _) rfl ?_
 refine au (dA rfl rfl) rfl rfl ?_
 refine aG (t := 5) rfl (fun h1_2 => ?_) (fun h1_2 => ?_)
 refine aa ?_
 refine am ?_
 refine aI rfl ?_
 refine ap ?_
 refine ah ?_
 refine au (aj rfl) rfl rfl ?_
 refine aa ?_
 refine am ?_
 refine aU ?_
 refine aA ?_
 refine aX (ts := [2]) rfl rfl rfl (fun w hw => ?_)
 have hl : bE n = [] := if_neg (by omega)
 rw [hl]
 exact ⟨(none, 0), rfl, hw.base, (hw.nilsl 9 1).toNews⟩
 refine aa ?_
 refine am ?_
 refine aK rfl ?_
 refine aZ ?_
 refine am ?_
 refine ap ?_
 refine ah ?_
 refine au (ak rfl) rfl rfl ?_
 refine cY rfl ent_133 rfl (c_name_each _) (fun w hw => aM) (fun o0 => ?_)
 refine wl_heap (fun w h => h.freeze) ?_
 have hck : bi n = 0 := by omega
 have hnl := nameCk_zero.1 hck
 have hll := labs_len n
 refine cY rfl ent_132 rfl (c_Collect_s (ey n) 159 [.pointer (some ⟨o0, 0, none⟩)] [Ch.row o0 [.string (ba n)] 37] (c_name_each1 n _) ent_159 (by omega)) (fun w hw => (ao (cW 0 rfl hw) aM)) (fun ⟨A1, c1⟩ => ?_)
 refine au (aj rfl) rfl rfl ?_
 refine aa ?_
 refine am ?_
 refine aU ?_
 refine aX (ts := [2]) rfl rfl rfl (fun w hw => ?_)
 have hl : bE n = ey n := if_pos hck
 rw [hl]
 exact ⟨(A1, c1), rfl, hw.base, hw.toNews⟩
end Go.Proofs.Ytnpdgmoeoidppaa

/- strings.Builder, name.Make, name.Fold -/
namespace Go.Proofs.Ytnpdgmoeoidppaa
open Go.RowKit Go.Shelf
set_option linter.unusedVariables false
set_option linter.unusedSimpArgs false

theorem ent_103 : Enters Try.prog 103 := enters_of Try.func103 (by kernel_rfl) rfl
theorem ent_104 : Enters Try.prog 104 := enters_of Try.func104 (by kernel_rfl) rfl
theorem ent_137 : Enters Try.prog 137 := enters_of Try.func137 (by kernel_rfl) rfl
theorem ent_143 : Enters Try.prog 143 := enters_of Try.func143 (by kernel_rfl) rfl
theorem ent_144 : Enters Try.prog 144 := enters_of Try.func144 (by kernel_rfl) rfl
theorem ent_145 : Enters Try.prog 145 := enters_of Try.func145 (by kernel_rfl) rfl
theorem ent_146 : Enters Try.prog 146 := enters_of Try.func146 (by kernel_rfl) rfl
theorem ent_162 : Enters Try.prog 162 := enters_of Try.func162 (by kernel_rfl) rfl
theorem ent_84 : Enters Try.prog 84 := enters_of Try.func84 (by kernel_rfl) rfl
theorem g1 : FA Try.prog 200 0 0 := fun b o w => by kernel_rfl
theorem eU : FA Try.prog 200 1 1 := fun b o w => by kernel_rfl
theorem ty_198 : TyI Try.prog 198 false 1 8 (.pointer none) := TyI.mk' (by kernel_rfl) (fun _ => by kernel_rfl)
theorem ty_200 : TyI Try.prog 200 true 2 32 (.agg #[.pointer none, .slice none 0 0]) := TyI.mk' (by kernel_rfl) (fun _ => by kernel_rfl)
theorem ty_54 : TyI Try.prog 54 false 1 24 (.slice none 0 0) := TyI.mk' (by kernel_rfl) (fun _ => by kernel_rfl)

theorem c_copyCheck (b : Nat) (A : Option Addr) (c : Nat) (s : aW) : UC Try.prog 162 #[.pointer (some ⟨b, 0, none⟩)] [] (Ch.bld 200 5 b A c s) (α := Unit) (fun _ => .tuple #[]) (fun _ => Ch.bld 200 5 b A c s) := by
 refine fI (args := [.pointer (some ⟨b, 0, none⟩)]) 20 Try.func162 rfl rfl rfl (fun w0 => ?_)
 refine w_bldo fun p hp => ?_
 rcases hp with rfl | rfl
 refine ap ?_
 refine ah ?_
 refine au (ak rfl) rfl rfl ?_
 refine au (cL rfl) rfl rfl ?_
 refine au (aR g1 rfl) rfl rfl ?_
 refine au (aN 0 ty_198 rfl rfl rfl) rfl rfl ?_
 refine au (y_eqp Try.underlying198 rfl rfl) rfl rfl ?_
 refine du (t := 6) (.bool true) rfl (congrArg Value.bool rfl) ?_
 refine aa ?_
 refine am ?_
 refine aI rfl ?_
 refine ah ?_
 refine au (ak rfl) rfl rfl ?_
 refine au (ak rfl) rfl rfl ?_
 refine au (y_tou (n := 2) Try.underlying198 Try.underlying234 ty_200 rfl (by omega) rfl (shape_rown 0 rfl rfl)) rfl rfl ?_
 refine o_ext rfl (fun w => by rw [run_callFunc_extern Try.func175 (by kernel_rfl) (by kernel_rfl) (by kernel_rfl) (e := Extern.AbiNoEscape.same) (by kernel_rfl), Lib.run_noEscape]; rfl) rfl ?_
 refine au (y_fromu (n := 2) Try.underlying234 Try.underlying198 ty_200 (by kernel_rfl) rfl (shape_rown 0 rfl rfl)) rfl rfl ?_
 refine au (cL rfl) rfl rfl ?_
 refine au (aR g1 rfl) rfl rfl ?_
 refine bf ty_198 rfl rfl rfl .z rfl rfl rfl rfl ?_
 refine aa ?_
 refine e_end (ts := []) rfl rfl rfl (fun w hw => ?_)
 exact ⟨(), rfl, (Hp.bldc (.inr rfl) rfl rfl hw).uc⟩
 refine ap ?_
 refine ah ?_
 refine au (ak rfl) rfl rfl ?_
 refine au (cL rfl) rfl rfl ?_
 refine au (aR g1 rfl) rfl rfl ?_
 refine au (aN 0 ty_198 rfl rfl rfl) rfl rfl ?_
 refine au (y_eqp Try.underlying198 rfl rfl) rfl rfl ?_
 refine du (t := 6) (.bool false) rfl (congrArg Value.bool rfl) ?_
 refine aa ?_
 refine am ?_
 refine aK rfl ?_
 refine ap ?_
 refine ah ?_
 refine au (ak rfl) rfl rfl ?_
 refine au (cL rfl) rfl rfl ?_
 refine au (aR g1 rfl) rfl rfl ?_
 refine au (aN 0 ty_198 rfl rfl rfl) rfl rfl ?_
 refine au (ak rfl) rfl rfl ?_
 refine au (y_neps Try.underlying198 ty_200 rfl rfl) rfl rfl ?_
 refine aa ?_
 refine am ?_
 refine aK rfl ?_
 refine aZ ?_
 refine e_end (ts := []) rfl rfl rfl (fun w hw => ?_)
 exact ⟨(), rfl, (Hp.bldc (.inr rfl) rfl rfl hw).uc⟩

theorem c_WriteByte (b : Nat) (A : Option Addr) (c : Nat) (s : aW) (ch : UInt8) (hs : s.length ≤ 1000000000000) : UC Try.prog 143 #[.pointer (some ⟨b, 0, none⟩), .int .u8 ch.toNat] [] (Ch.bld 200 5 b A c s) (α := Option Addr × Nat) (fun p => .nilIface) (fun p => Ch.bld 200 5 b p.1 p.2 (s ++ [ch])) := by
 refine fI (args := [.pointer (some ⟨b, 0, none⟩), .int .u8 ch.toNat]) 17 Try.func143 rfl rfl rfl (fun w0 => ?_)
 refine ap ?_
 refine ah ?_
 refine au (aj rfl) rfl rfl ?_
 refine aa ?_
 refine am ?_
 refine ap ?_
 refine ah ?_
 refine au (ak rfl) rfl rfl ?_
 refine eE rfl ent_162 rfl (c_copyCheck _ _ _ _) (fun o => .z) (List.mem_of_getElem? (i := 0) rfl) (fun s hs => nomatch hs) (fun o0 => ?_)
 refine aa ?_
 refine am ?_
 refine ap ?_
 refine w_bldo fun p hp => ?_
 refine ah ?_
 refine au (ak rfl) rfl rfl ?_
 refine au (ak rfl) rfl rfl ?_
 refine au (cL rfl) rfl rfl ?_
 refine au (aR eU rfl) rfl rfl ?_
 refine au (aN 0 ty_54 rfl rfl rfl) rfl rfl ?_
 refine au (ak rfl) rfl rfl ?_
 refine bh (vs := [_]) ([_] : List (UInt8)) enc_b Try.underlying54 ty_5 rfl rfl rfl rfl rfl rfl (fun As2 => ?_)
 refine d1 (enc := encb) (sz := 1) _ Try.underlying54 ty_5 rfl rfl rfl (fun A c => (.s (.s (.z)))) (gt 0 Try.underlying54 rfl) (by simp only [List.length_cons, List.length_nil, Nat.zero_add]; omega) (by simp only [List.length_cons, List.length_nil, Nat.zero_add]; omega) rfl (fun A2 c2 => ?_)
 refine au (cL rfl) rfl rfl ?_
 refine au (aR eU rfl) rfl rfl ?_
 refine bf ty_54 rfl rfl rfl (.s (.z)) rfl rfl rfl rfl ?_
 refine aa ?_
 refine am ?_
 refine ap ?_
 refine ah ?_
 refine au (aj rfl) rfl rfl ?_
 refine aa ?_
 refine am ?_
 refine aU ?_
 refine aX (ts := [4]) rfl rfl rfl (fun w hw => ?_)
 exact ⟨(A2, c2), rfl, (Hp.bldc hp rfl rfl (hw.weak (.cons _ (.cons_cons _ (.cons_cons _ .slnil))) (fun s hs => hs))).uc⟩

theorem c_WriteString (b : Nat) (A : Option Addr) (c : Nat) (s t : aW) (hs : s.length + t.length ≤ 1000000000000) : UC Try.prog 144 #[.pointer (some ⟨b, 0, none⟩), .string (ba t)] [] (Ch.bld 200 5 b A c s) (α := Option Addr × Nat) (fun p => .tuple #[.int .i64 t.length, .nilIface]) (fun p => Ch.bld 200 5 b p.1 p.2 (s ++ t)) := by
 refine fI (args := [.pointer (some ⟨b, 0, none⟩), .string (ba t)]) 19 Try.func144 rfl rfl rfl (fun w0 => ?_)
 refine ap ?_
 refine ah ?_
 refine au (aj rfl) rfl rfl ?_
 refine au (aj rfl) rfl rfl ?_
 refine aa ?_
 refine am ?_
 refine ap ?_
 refine ah ?_
 refine au (ak rfl) rfl rfl ?_
 refine eE rfl ent_162 rfl (c_copyCheck _ _ _ _) (fun o => .z) (List.mem_of_getElem? (i := 0) rfl) (fun s hs => nomatch hs) (fun o0 => ?_)
 refine aa ?_
 refine am ?_
 refine ap ?_
 refine w_bldo fun p hp => ?_
 refine ah ?_
 refine au (ak rfl) rfl rfl ?_
 refine au (ak rfl) rfl rfl ?_
 refine au (cL rfl) rfl rfl ?_
 refine au (aR eU rfl) rfl rfl ?_
 refine au (aN 0 ty_54 rfl rfl rfl) rfl rfl ?_
 refine au (ak rfl) rfl rfl ?_
 refine d1 (enc := encb) (sz := 1) t Try.underlying54 ty_5 rfl rfl rfl (fun A c => (.s (.z))) (src_str Try.underlying9) (by omega) (by omega) rfl (fun A1 c1 => ?_)
 refine au (cL rfl) rfl rfl ?_
 refine au (aR eU rfl) rfl rfl ?_
 refine bf ty_54 rfl rfl rfl .z rfl rfl rfl rfl ?_
 refine aa ?_
 refine am ?_
 refine ap ?_
 refine ah ?_
 refine au (ak rfl) rfl rfl ?_
 refine au (eQ Try.underlying9 rfl) rfl rfl ?_
 refine au (aj rfl) rfl rfl ?_
 refine au (aj rfl) rfl rfl ?_
 refine aa ?_
 refine am ?_
 refine aU ?_
 refine aX (ts := [4, 5]) rfl rfl rfl (fun w hw => ?_)
 exact ⟨(A1, c1), rfl, (Hp.bldc hp rfl rfl (hw.weak (.cons_cons _ (.cons_cons _ .slnil)) (fun s hs => hs))).uc⟩

theorem c_bld_Len (b : Nat) (A : Option Addr) (c : Nat) (s : aW) : RC Try.prog 145 #[.pointer (some ⟨b, 0, none⟩)] [Ch.bld 200 5 b A c s] (α := Unit) (fun _ => .int .i64 s.length) (fun _ => []) := by
 refine bZ (args := [.pointer (some ⟨b, 0, none⟩)]) 8 Try.func145 rfl rfl rfl (fun w0 => ?_)
 refine ap ?_
 refine ah ?_
 refine au (aj rfl) rfl rfl ?_
 refine aa ?_
 refine am ?_
 refine ap ?_
 refine ah ?_
 refine au (ak rfl) rfl rfl ?_
 refine au (cL rfl) rfl rfl ?_
 refine au (aR eU rfl) rfl rfl ?_
 refine au (y_load ty_54 rfl (fun w hw => bld_cell (hw.sh _ (List.mem_of_getElem? (i := 0) rfl)))) rfl rfl ?_
 refine au (bu Try.underlying54 rfl) rfl rfl ?_
 refine au (aj rfl) rfl rfl ?_
 refine aa ?_
 refine am ?_
 refine aU ?_
 refine aX (ts := [2]) rfl rfl rfl (fun w hw => ?_)
 exact ⟨(), rfl, hw.base, hw.toNews⟩

set_option maxRecDepth 100000 in
theorem c_bld_String (b : Nat) (A : Option Addr) (c : Nat) (s : aW) : UC Try.prog 146 #[.pointer (some ⟨b, 0, none⟩)] [] (Ch.bld 200 5 b A c s) (α := Unit) (fun _ => .string (ba s)) (fun _ => Ch.nil0) := by
 refine fI (args := [.pointer (some ⟨b, 0, none⟩)]) 14 Try.func146 rfl rfl rfl (fun w0 => ?_)
 refine ap ?_
 refine ah ?_
 refine au (aj rfl) rfl rfl ?_
 refine aa ?_
 refine am ?_
 refine ap ?_
 refine w_bldo fun p hp => ?_
 refine w_sf ?_
 refine dX 12 rfl mixed ?_
 refine aY (i := 0) rfl ae (ak rfl) aD aD rfl (ai ar) (by kernel_rfl) rfl ?_
 refine aY (i := 1) rfl ae (cL rfl) aD aD rfl (ai ar) (by kernel_rfl) rfl ?_
 refine aY (i := 2) rfl ae (aR eU rfl) aD aD rfl (ai ar) (by kernel_rfl) rfl ?_
 refine aY (i := 3) rfl ae (aN 0 ty_54 rfl rfl rfl) aD aD rfl (ai ar) (by kernel_rfl) rfl ?_
 refine aY (i := 5) rfl ae (ak rfl) aD aD rfl (ai ar) (by kernel_rfl) rfl ?_
 refine aY (i := 6) rfl ae (cL rfl) aD aD rfl (ai ar) (by kernel_rfl) rfl ?_
 refine aY (i := 7) rfl ae (aR eU rfl) aD aD rfl (ai ar) (by kernel_rfl) rfl ?_
 refine aY (i := 8) rfl ae (aN 0 ty_54 rfl rfl rfl) aD aD rfl (ai ar) (by kernel_rfl) rfl ?_
 refine aY (i := 9) rfl ae (bu Try.underlying54 rfl) aD aD rfl (ai ar) (by kernel_rfl) rfl ?_
 refine eB (i := 4) rfl rfl rfl (fun _ _ _ => az (by kernel_rfl)) (by kernel_rfl) rfl ?_
 refine o_usd (c := c) (s := s) Try.underlying224 rfl (fun w hw => hw.own _ (List.mem_of_getElem? (i := 1) rfl)) rfl (fun q hq => ?_)
 refine aa ?_
 refine e_one aD ?_
 refine eB (i := 10) rfl rfl rfl (fun _ _ _ => az (by kernel_rfl)) (by kernel_rfl) rfl ?_
 refine o_us Try.underlying224 (by kernel_rfl) rfl rfl hq (.s .z) rfl ?_
 refine aa ?_
 refine e_one aD ?_
 refine aY (i := 11) rfl ae (aj rfl) aD aD rfl (ai ar) (by kernel_rfl) rfl ?_
 refine dz (by kernel_rfl) ?_
 refine am ?_
 refine aU ?_
 refine aX (ts := [2]) rfl rfl rfl (fun w hw => ?_)
 exact ⟨(), rfl, hw.uc0⟩

/-- No more octets than are held. -/
theorem dE {α : Type} (l : List α) (d : α) (k : Nat) (h : k < l.length) : l.take (k + 1) = l.take k ++ [l.getD k d] := by
  rw [List.take_succ_eq_append_getElem h]; simp [List.getD_eq_getElem?_getD, h]
theorem b4 {α : Type} (l : List α) (d : α) (k : Nat) (h : k < l.length) : l.drop k = l.getD k d :: l.drop (k + 1) := by
  rw [List.drop_eq_getElem_cons h]; simp [List.getD_eq_getElem?_getD, h]
theorem fB (ls : List aW) (k : Nat) : (dw (ls.take k)).length ≤ (dw ls).length := by
  have e : dw ls = dw (ls.take k) ++ dw (ls.drop k) := by rw [← ew, List.take_append_drop]
  rw [e, List.length_append]; omega
theorem encn_one (s : aW) : dw [s] = UInt8.ofNat s.length :: s := by simp [dw]
theorem encn_ge : ∀ ls : List aW, ls.length ≤ (dw ls).length
  | [] => Nat.le_refl _
  | s :: r => by have := encn_ge r; rw [fq]; simp; omega

theorem c_name_Make (ls : List aW) (A : Option Addr) (ca : Nat) (hl : (dw ls).length ≤ 1000000000000) : RC Try.prog 104 #[.slice A ls.length ca] [Ch.rd A 1 er ls] (α := Unit) (fun _ => .tuple #[.string (ba (eo ls).1), .int .i64 (eo ls).2]) (fun _ => []) := by
 refine bZ (args := [.slice A ls.length ca]) 38 Try.func104 rfl rfl rfl (fun w0 => ?_)
 have hge := encn_ge ls
 refine ap ?_
 refine ah ?_
 refine au (aj rfl) rfl rfl ?_
 refine au (aj rfl) rfl rfl ?_
 refine aa ?_
 refine am ?_
 refine ap ?_
 refine ap ?_
 refine ah ?_
 refine au (ak rfl) rfl rfl ?_
 refine au (bu Try.underlying105 rfl) rfl rfl ?_
 refine au (ak rfl) rfl rfl ?_
 refine aa ?_
 refine am ?_
 refine bk ?_
 refine dd (σ := Nat) [2, 3, 5, 6, 12, 13, 14, 15, 16, 17, 18, 19, 20, 21] (fun k => k ≤ ls.length ∧ cO ls = cO (ls.drop k)) (fun k => ls.length - k) (fun k => [(12, .int .i64 k)]) (0) ?_ ⟨rfl, trivial⟩ (fun k hI => ?_)
 exact ⟨Nat.zero_le _, rfl⟩
 refine ap ?_
 refine ah ?_
 refine au (cX rfl rfl) rfl rfl ?_
 refine aG (t := 13) rfl (fun h2_0 => ?_) (fun h2_0 => ?_)
 refine aa ?_
 refine am ?_
 refine ap ?_
 refine aI rfl ?_
 refine aZ ?_
 refine am ?_
 refine ap ?_
 refine bk ?_
 refine ap ?_
 refine ah ?_
 refine au (co  Try.underlying105 bK rfl rfl (cI 0 rfl) rfl (by omega)) rfl rfl ?_
 refine au (cP bm ([] : aW) bK rfl (cI 0 rfl) (by omega) rfl rfl) rfl rfl ?_
 refine au (aj rfl) rfl rfl ?_
 refine aa ?_
 refine am ?_
 refine ap ?_
 refine ah ?_
 refine au (ak rfl) rfl rfl ?_
 refine bL rfl ent_137 (fb _) rfl ?_
 refine au (aj rfl) rfl rfl ?_
 refine aa ?_
 refine am ?_
 refine ap ?_
 refine ah ?_
 refine au (ak rfl) rfl rfl ?_
 refine au (dA rfl rfl) rfl rfl ?_
 refine aG (t := 19) rfl (fun h5_1 => ?_) (fun h5_1 => ?_)
 refine aa ?_
 refine am ?_
 refine aI rfl ?_
 refine ap ?_
 refine ah ?_
 refine au (ak rfl) rfl rfl ?_
 refine au (aj rfl) rfl rfl ?_
 refine au (aj rfl) rfl rfl ?_
 refine aa ?_
 refine am ?_
 refine aU ?_
 refine aO ?_
 refine aA ?_
 refine bG ?_
 refine aO ?_
 refine aA ?_
 refine aX (ts := [2, 3]) rfl rfl rfl (fun w hw => ?_)
 have hk : k < ls.length := by omega
 have hdk := b4 ls [] k hk
 have hf : cO ls = eC (ls.getD k []) := by rw [hI.2, hdk, cO, if_neg (by omega)]
 exact ⟨(), by rw [eo, if_pos (by omega), hf]; rfl, hw.base, hw.toNews⟩
 refine aa ?_
 refine am ?_
 refine aK rfl ?_
 refine aZ ?_
 refine bV ?_
 refine am ?_
 refine ah ?_
 refine au (cr rfl rfl (by omega) (by omega)) rfl rfl ?_
 refine au (ak rfl) rfl rfl ?_
 refine aa ?_
 have hk : k < ls.length := by omega
 have hdk := b4 ls [] k hk
 refine cn (k + 1) ?_ ?_ ⟨rfl, trivial⟩ (by repeat (first | exact trivial | refine ⟨rfl, ?_⟩)) aD
 exact ⟨by omega, by rw [hI.2, hdk, cO, if_pos (by omega)]⟩
 omega
 refine aa ?_
 refine am ?_
 refine ap ?_
 refine aK rfl ?_
 refine cB ?_
 refine bl ?_
 refine bq ?_
 refine bA ?_
 refine am ?_
 refine ap ?_
 have hz : cO ls = 0 := by rw [hI.2, List.drop_of_length_le (by omega)]; rfl
 refine ah ?_
 refine bo ty_200 rfl rfl (fun b1 => ?_)
 refine wl_heap (fun w h => h.bldn 5) ?_
 refine aa ?_
 refine am ?_
 refine ap ?_
 refine ap ?_
 refine ah ?_
 refine au (ak rfl) rfl rfl ?_
 refine au (bu Try.underlying105 rfl) rfl rfl ?_
 refine au (ak rfl) rfl rfl ?_
 refine aa ?_
 refine am ?_
 refine bk ?_
 refine dZ (σ := Nat × Option Addr × Nat) [9, 24, 25, 26, 27, 28, 29, 30, 31, 32, 33, 34] (fun q => q.1 ≤ ls.length) (fun q => ls.length - q.1) (fun q => [(24, .int .i64 q.1)]) (fun q => Ch.bld 200 5 b1 q.2.1 q.2.2 (dw (ls.take q.1))) ((0, none, 0)) ?_ ⟨rfl, trivial⟩ rfl (fun q hI => ?_)
 exact Nat.zero_le _
 obtain ⟨k, A3, c3⟩ := q
 dsimp only at hI ⊢
 have htl := fB ls k
 refine ap ?_
 refine ah ?_
 refine au (cX rfl rfl) rfl rfl ?_
 refine aG (t := 25) rfl (fun h10_0 => ?_) (fun h10_0 => ?_)
 refine aa ?_
 refine am ?_
 refine ap ?_
 refine aI rfl ?_
 refine aZ ?_
 refine am ?_
 refine ap ?_
 refine bk ?_
 refine ap ?_
 refine ah ?_
 refine au (co  Try.underlying105 bK rfl rfl (cI 0 rfl) rfl (by omega)) rfl rfl ?_
 refine au (cP bm ([] : aW) bK rfl (cI 0 rfl) (by omega) rfl rfl) rfl rfl ?_
 refine au (aj rfl) rfl rfl ?_
 refine aa ?_
 refine am ?_
 refine ap ?_
 refine ah ?_
 refine au (ak rfl) rfl rfl ?_
 refine au (eQ Try.underlying9 rfl) rfl rfl ?_
 refine au (fU Try.underlying3 Try.underlying5 rfl) rfl rfl ?_
 have hk : k < ls.length := by omega
 have hlk : 1 ≤ (ls.getD k []).length ∧ (ls.getD k []).length ≤ 63 := firstCk_zero.1 hz (ls.getD k []) (by rw [List.getD_eq_getElem?_getD, List.getElem?_eq_getElem hk]; exact List.getElem_mem hk)
 have hlk2 := hlk
 refine du (t := 30) (.int .u8 ((UInt8.ofNat (ls.getD k []).length).toNat : Int)) rfl (congrArg _ (by rw [eX (by omega) (by omega), u8len hlk2.2])) ?_
 have htk := dE ls [] k hk
 have htl2 := fB ls (k + 1)
 rw [htk, ew, encn_one, List.length_append, List.length_cons] at htl2
 refine eE rfl ent_143 rfl (c_WriteByte _ _ _ _ _ (by omega)) (fun o => .z) (List.mem_of_getElem? (i := 0) rfl) (fun s hs => nomatch hs) (fun o1 => ?_)
 refine aa ?_
 refine am ?_
 refine ah ?_
 refine au (ak rfl) rfl rfl ?_
 refine eE rfl ent_144 rfl (c_WriteString _ _ _ _ _ (by rw [List.length_append, List.length_singleton]; omega)) (fun o => .z) (List.mem_of_getElem? (i := 0) rfl) (fun s hs => nomatch hs) (fun o2 => ?_)
 refine aa ?_
 refine bV ?_
 refine am ?_
 refine ah ?_
 refine au (cr rfl rfl (by omega) (by omega)) rfl rfl ?_
 refine au (ak rfl) rfl rfl ?_
 refine aa ?_
 have hk : k < ls.length := by omega
 have htk := dE ls [] k hk
 refine cn ((k + 1, o2.1, o2.2)) ?_ ?_ ⟨rfl, trivial⟩ (by repeat (first | exact trivial | refine ⟨rfl, ?_⟩)) (fun w h => by show Hp _ _ (Ch.bld _ _ _ _ _ (dw (ls.take (k + 1))) :: _) _ _; rw [htk, ew, encn_one]; have h2 := h; rw [List.append_assoc] at h2; exact h2)
 show k + 1 ≤ ls.length
 omega
 show ls.length - (k + 1) < ls.length - k
 omega
 refine aa ?_
 refine am ?_
 refine ap ?_
 refine aK rfl ?_
 refine cB ?_
 refine bl ?_
 refine bq ?_
 refine bA ?_
 refine am ?_
 refine ap ?_
 refine ap ?_
 refine ah ?_
 refine aS rfl ent_145 rfl (c_bld_Len _ _ _ _) (fun w hw => ao (cz 0 rfl hw) aM) ?_
 refine au (em rfl rfl) rfl rfl ?_
 refine aG (t := 36) rfl (fun h15_1 => ?_) (fun h15_1 => ?_)
 refine aa ?_
 refine am ?_
 refine aI rfl ?_
 refine ap ?_
 refine ah ?_
 refine au (aj rfl) rfl rfl ?_
 refine au (aj rfl) rfl rfl ?_
 refine aa ?_
 refine am ?_
 refine aU ?_
 refine aA ?_
 refine aX (ts := [2, 3]) rfl rfl rfl (fun w hw => ?_)
 have hk : k = ls.length := by omega
 rw [hk, List.take_length] at h15_1
 exact ⟨(), by rw [eo, if_neg (by omega), if_pos (by omega)]; rfl, hw.base, (hw.weak (List.nil_sublist _) (fun s hs => hs)).toNews⟩
 refine aa ?_
 refine am ?_
 refine aK rfl ?_
 refine aZ ?_
 refine am ?_
 refine ap ?_
 refine ah ?_
 refine eE rfl ent_146 rfl (c_bld_String _ _ _ _) (fun o => .z) (List.mem_of_getElem? (i := 0) rfl) (fun s hs => nomatch hs) (fun o3 => ?_)
 refine au (aj rfl) rfl rfl ?_
 refine au (aj rfl) rfl rfl ?_
 refine aa ?_
 refine am ?_
 refine aU ?_
 refine aX (ts := [2, 3]) rfl rfl rfl (fun w hw => ?_)
 have hk : k = ls.length := by omega
 subst hk
 rw [List.take_length] at h15_1 ⊢
 exact ⟨(), by rw [eo, if_neg (by omega), if_neg (by omega)]; rfl, hw.base, (hw.weak (List.nil_sublist _) (fun s hs => hs)).toNews⟩

theorem mapS_step (t : aW → aW) (l : List aW) (k : Nat) (h : k < l.length) : ((l.take k).map t ++ l.drop k).set k (t (l.getD k [])) = (l.take (k + 1)).map t ++ l.drop (k + 1) := by
  have e : l.getD k [] = l[k] := by simp [List.getD_eq_getElem?_getD, h]
  have hk : k - ((l.take k).map t).length = 0 := by simp; omega
  rw [List.set_append_right _ _ (by simp; omega), hk, List.drop_eq_getElem_cons h, List.set_cons_zero, e, List.take_succ_eq_append_getElem h, List.map_append]
  simp
theorem mapS_at (t : aW → aW) (l : List aW) (k : Nat) (h : k < l.length) : ((l.take k).map t ++ l.drop k).getD k [] = l.getD k [] := by
  simp [List.getD_eq_getElem?_getD, List.getElem?_append_right, Nat.min_eq_left (Nat.le_of_lt h)]
theorem d3 (t : aW → aW) (l : List aW) (k : Nat) : ((l.take k).map t ++ l.drop k).length = l.length := by simp; omega
theorem labsN_le (n : aW) (h : n.length ≤ 1000000000) : (bE n).length ≤ 254 ∧ (∀ s ∈ bE n, 1 ≤ s.length ∧ s.length ≤ 63) ∧ (dw ((bE n).map cG)).length ≤ 254 := by
  unfold bE
  by_cases hc : bi n = 0
  · rw [if_pos hc]
    obtain ⟨h1, h2⟩ := nameCk_zero.1 hc
    have := labs_len n
    refine ⟨by omega, dW n, ?_⟩
    rw [fR _ (dW n), dv, eM n h2]; exact h1
  · rw [if_neg hc]; exact ⟨by simp, nofun, by simp [dw]⟩

theorem fold_b {n : aW} {k : Nat} (hk : k < (bE n).length) (h : ∀ s ∈ bE n, 1 ≤ s.length ∧ s.length ≤ 63) : ((((bE n).take k).map cG ++ (bE n).drop k).getD k []).length ≤ 1000000000000 := by
  have e : (bE n).getD k [] = (bE n)[k] := by simp [List.getD_eq_getElem?_getD, hk]
  rw [mapS_at cG _ k hk, e]
  have := h _ (List.getElem_mem hk)
  omega

theorem c_name_Fold (n : aW) (hn : n.length ≤ 1000000000) : RC Try.prog 63 #[.string (ba n)] [] (α := Unit) (fun _ => .string (ba (bg n))) (fun _ => []) := by
 refine bZ (args := [.string (ba n)]) 29 Try.func63 rfl rfl rfl (fun w0 => ?_)
 refine ap ?_
 refine ah ?_
 refine au (aj rfl) rfl rfl ?_
 refine aa ?_
 refine am ?_
 refine ap ?_
 refine ah ?_
 refine au (ak rfl) rfl rfl ?_
 refine cY rfl ent_84 rfl (fe _) (fun w hw => aM) (fun ⟨A0, c0⟩ => ?_)
 have hlb := labsN_le n hn
 refine au (aj rfl) rfl rfl ?_
 refine aa ?_
 refine am ?_
 refine ap ?_
 refine ap ?_
 refine ah ?_
 refine au (ak rfl) rfl rfl ?_
 refine au (bu Try.underlying105 rfl) rfl rfl ?_
 refine au (ak rfl) rfl rfl ?_
 refine aa ?_
 refine am ?_
 refine bk ?_
 refine dZ (σ := Nat) [3, 4, 5, 10, 12, 13, 14, 15, 16, 17, 18, 19, 20, 21, 22] (fun k => k ≤ (bE n).length) (fun k => (bE n).length - k) (fun k => [(12, .int .i64 k), (10, .slice A0 (((bE n).take k).map cG ++ (bE n).drop k).length c0), (3, .slice A0 (((bE n).take k).map cG ++ (bE n).drop k).length c0)]) (fun k => Ch.ls A0 c0 9 1 er (((bE n).take k).map cG ++ (bE n).drop k)) (0) ?_ ⟨rfl, rfl, rfl, trivial⟩ rfl (fun k hI => ?_)
 exact Nat.zero_le _
 have hml := d3 cG (bE n) k
 refine ap ?_
 refine ah ?_
 refine au (cX rfl rfl) rfl rfl ?_
 refine aG (t := 13) rfl (fun h3_0 => ?_) (fun h3_0 => ?_)
 refine aa ?_
 refine am ?_
 refine ap ?_
 refine aI rfl ?_
 refine aZ ?_
 refine am ?_
 refine ap ?_
 refine bk ?_
 refine ap ?_
 refine ah ?_
 refine au (ak rfl) rfl rfl ?_
 refine au (co  Try.underlying105 bK rfl rfl (dS 0 rfl) rfl (by rw [d3]; omega)) rfl rfl ?_
 refine au (cP bm ([] : aW) bK rfl (dS 0 rfl) (by rw [d3]; omega) rfl rfl) rfl rfl ?_
 refine au (aj rfl) rfl rfl ?_
 refine au (aj rfl) rfl rfl ?_
 refine aa ?_
 refine am ?_
 refine ah ?_
 refine au (ak rfl) rfl rfl ?_
 refine au (ak rfl) rfl rfl ?_
 refine au (ak rfl) rfl rfl ?_
 refine bL rfl ent_103 (fx _ (fold_b (by omega) hlb.2.1)) rfl ?_
 refine au (co  Try.underlying105 bK rfl rfl (dS 0 rfl) rfl (by rw [d3]; omega)) rfl rfl ?_
 refine eb bm ([] : aW) _ bK rfl rfl rfl .z rfl (by rw [d3]; omega) rfl rfl rfl ?_
 refine aa ?_
 refine bV ?_
 refine am ?_
 refine ah ?_
 refine au (cr rfl rfl (by omega) (by omega)) rfl rfl ?_
 refine au (ak rfl) rfl rfl ?_
 refine aa ?_
 have hk : k < (bE n).length := by omega
 refine cn (k + 1) ?_ ?_ ⟨rfl, lk rfl (by rw [d3, d3]), lk rfl (by rw [d3, d3]), trivial⟩ (by repeat (first | exact trivial | refine ⟨rfl, ?_⟩)) (fun w h => by rw [mapS_at cG (bE n) k hk, mapS_step cG (bE n) k hk] at h; exact h)
 omega
 omega
 refine aa ?_
 refine am ?_
 refine ap ?_
 refine aK rfl ?_
 refine cB ?_
 refine bl ?_
 refine bq ?_
 refine bA ?_
 refine am ?_
 refine ap ?_
 refine ah ?_
 obtain rfl : k = (bE n).length := by omega
 refine au (ak rfl) rfl rfl ?_
 refine aS rfl ent_104 rfl (c_name_Make _ _ _ (by have := hlb.2.2; simp; omega)) (fun w hw => (ao (aP 0 rfl hw) aM)) ?_
 refine au (ak rfl) rfl rfl ?_
 refine au (aL rfl rfl) rfl rfl ?_
 refine au (aL rfl rfl) rfl rfl ?_
 refine au (aj rfl) rfl rfl ?_
 refine au (aj rfl) rfl rfl ?_
 refine aa ?_
 refine am ?_
 refine ap ?_
 refine ah ?_
 refine au (ak rfl) rfl rfl ?_
 refine au (aj rfl) rfl rfl ?_
 refine aa ?_
 refine am ?_
 refine aU ?_
 refine aX (ts := [2]) rfl rfl rfl (fun w hw => ?_)
 exact ⟨(), by rw [← make_fold]; simp [fc], hw.base, (hw.weak (List.nil_sublist _) (fun s hs => hs)).toNews⟩

theorem e5 (n : aW) (hn : n.length ≤ 1000000000) : d4 Try.prog 63 #[.string (ba n)] (.string (ba (bg n))) := rc_pure (c_name_Fold n hn)

end Go.Proofs.Ytnpdgmoeoidppaa

/- hash: the sums -/
namespace Go.Proofs.Ytnpdgmoeoidppaa
open Go.RowKit Go.Shelf
set_option linter.unusedVariables false
set_option linter.unusedSimpArgs false

theorem ent_63 : Enters Try.prog 63 := enters_of Try.func63 (by kernel_rfl) rfl
theorem d6 : TyI Try.prog 3 false 1 8 (.int .i64 0) := TyI.mk' (by kernel_rfl) (fun _ => by kernel_rfl)

end Go.Proofs.Ytnpdgmoeoidppaa
