import Derived.Test.YtnpdgmoeoidppaaPaQb
import Derived.Test.YtnpdgmoeoidppaaProg
import Derived.KernelRfl
/- label, name: the contracts -/
namespace Go.Proofs.Ytnpdgmoeoidppaa
open Go.RowKit Go.Shelf
set_option linter.unusedVariables false
set_option linter.unusedSimpArgs false

theorem ent_132 : Enters Try.prog 132 := enters_of Try.func132 (by kernel_rfl) rfl
theorem ent_133 : Enters Try.prog 133 := enters_of Try.func133 (by kernel_rfl) rfl
theorem ent_141 : Enters Try.prog 141 := enters_of Try.func141 (by kernel_rfl) rfl
theorem ent_142 : Enters Try.prog 142 := enters_of Try.func142 (by kernel_rfl) rfl
theorem ent_158 : Enters Try.prog 158 := enters_of Try.func158 (by kernel_rfl) rfl
theorem ent_159 : Enters Try.prog 159 := enters_of Try.func159 (by kernel_rfl) rfl
theorem ent_56 : Enters Try.prog 56 := enters_of Try.func56 (by kernel_rfl) rfl
theorem ent_95 : Enters Try.prog 95 := enters_of Try.func95 (by kernel_rfl) rfl
theorem mixed : Try.prog.follows .mixedOrders = true := by kernel_rfl
theorem ty_105 : TyI Try.prog 105 false 1 24 (.slice none 0 0) := TyI.mk' (by kernel_rfl) (fun _ => by kernel_rfl)
theorem bF : TyI Try.prog 37 false 1 16 (.string ⟨#[]⟩) := TyI.mk' (by kernel_rfl) (fun _ => by kernel_rfl)
theorem ia : TyI Try.prog 5 false 1 1 (.int .u8 0) := TyI.mk' (by kernel_rfl) (fun _ => by kernel_rfl)
theorem cF : TyI Try.prog 9 false 1 16 (.string ⟨#[]⟩) := TyI.mk' (by kernel_rfl) (fun _ => by kernel_rfl)

theorem fT (l : bg) : em Try.prog 137 #[.string (ba l)] (.int .i64 (fg l)) := by
 intro w0
 refine ce (ok0 := no) (S := []) (args := [.string (ba l)]) 12 Try.func137 rfl rfl rfl (by simp) (by simp) ?_
 refine ar ?_
 refine ah ?_
 refine ap (ai rfl) rfl rfl ?_
 refine ae ?_
 refine ao ?_
 refine ar ?_
 refine ar ?_
 refine ah ?_
 refine ap (am rfl) rfl rfl ?_
 refine ap (dS Try.underlying9 rfl) rfl rfl ?_
 refine ap (ai rfl) rfl rfl ?_
 refine ae ?_
 refine ao ?_
 refine bn ?_
 refine ar ?_
 refine ah ?_
 refine ap (am rfl) rfl rfl ?_
 refine ap (dg rfl rfl) rfl rfl ?_
 refine aC (t := 8) rfl (fun h2_1 => ?_) (fun h2_1 => ?_)
 refine ap (ai rfl) rfl rfl ?_
 refine ae ?_
 refine ao ?_
 refine aI rfl ?_
 refine ar ?_
 refine ah ?_
 refine ap (ai rfl) rfl rfl ?_
 refine ae ?_
 refine ao ?_
 refine aV ?_
 refine aT ?_
 refine aB ?_
 refine aY (ts := [2]) rfl rfl rfl (fun w hw => ?_)
 exact ⟨congrArg _ (by show Value.int _ _ = _; unfold fg; congr 1; (repeat (first | rw [if_pos (by omega)] | rw [if_neg (by omega)]))), hw.base⟩
 refine ap (ai rfl) rfl rfl ?_
 refine ae ?_
 refine ao ?_
 refine aN rfl ?_
 refine ar ?_
 refine ah ?_
 refine ap (am rfl) rfl rfl ?_
 refine ap (eo rfl rfl) rfl rfl ?_
 refine aC (t := 11) rfl (fun h4_1 => ?_) (fun h4_1 => ?_)
 refine ap (ai rfl) rfl rfl ?_
 refine ae ?_
 refine ao ?_
 refine aI rfl ?_
 refine ar ?_
 refine ah ?_
 refine ap (ai rfl) rfl rfl ?_
 refine ae ?_
 refine ao ?_
 refine aV ?_
 refine aT ?_
 refine aB ?_
 refine aY (ts := [2]) rfl rfl rfl (fun w hw => ?_)
 exact ⟨congrArg _ (by show Value.int _ _ = _; unfold fg; congr 1; (repeat (first | rw [if_pos (by omega)] | rw [if_neg (by omega)]))), hw.base⟩
 refine ap (ai rfl) rfl rfl ?_
 refine ae ?_
 refine ao ?_
 refine aN rfl ?_
 refine bd ?_
 refine bV ?_
 refine ao ?_
 refine ar ?_
 refine ah ?_
 refine ap (ai rfl) rfl rfl ?_
 refine ae ?_
 refine ao ?_
 refine aV ?_
 refine aY (ts := [2]) rfl rfl rfl (fun w hw => ?_)
 exact ⟨congrArg _ (by show Value.int _ _ = _; unfold fg; congr 1; (repeat (first | rw [if_pos (by omega)] | rw [if_neg (by omega)]))), hw.base⟩

theorem c_label_Fold1 (c : UInt8) : em Try.prog 141 #[.int .u8 c.toNat] (.int .u8 (eB c).toNat) := by
 intro w0
 have hc := UInt8.toNat_lt c
 refine ce (ok0 := no) (S := []) (args := [.int .u8 c.toNat]) 13 Try.func141 rfl rfl rfl (by simp) (by simp) ?_
 refine ar ?_
 refine ah ?_
 refine ap (ai rfl) rfl rfl ?_
 refine ae ?_
 refine ao ?_
 refine ar ?_
 refine ar ?_
 refine ah ?_
 refine ap (am rfl) rfl rfl ?_
 refine ap (gR rfl rfl) rfl rfl ?_
 refine aC (t := 4) rfl (fun h1_1 => ?_) (fun h1_1 => ?_)
 refine ap (am rfl) rfl rfl ?_
 refine aw rfl rfl ?_
 refine ap (am rfl) rfl rfl ?_
 refine aw rfl rfl ?_
 refine ap (eP rfl rfl) rfl rfl ?_
 refine aC (t := 7) rfl (fun h1_4 => ?_) (fun h1_4 => ?_)
 refine ap (aM rfl rfl) rfl rfl ?_
 refine ae ?_
 refine ao ?_
 refine aI rfl ?_
 refine ar ?_
 refine ah ?_
 refine ap (am rfl) rfl rfl ?_
 refine ap (y_sub rfl rfl) rfl rfl ?_
 refine ap (y_add rfl rfl) rfl rfl ?_
 refine ap (ai rfl) rfl rfl ?_
 refine ae ?_
 refine ao ?_
 refine aV ?_
 refine aB ?_
 refine aY (ts := [2]) rfl rfl rfl (fun w hw => ?_)
 exact ⟨congrArg _ (by show Value.int _ _ = _; congr 1; rw [gu (by rw [gu (by omega) (by omega)]; omega) (by rw [gu (by omega) (by omega)]; omega), gu (by omega) (by omega)]; unfold eB; rw [if_pos (by omega)]; simp; omega), hw.base⟩
 refine ap (aM rfl rfl) rfl rfl ?_
 refine ae ?_
 refine ao ?_
 refine aN rfl ?_
 refine bd ?_
 refine ao ?_
 refine ar ?_
 refine ah ?_
 refine ap (am rfl) rfl rfl ?_
 refine ap (ai rfl) rfl rfl ?_
 refine ae ?_
 refine ao ?_
 refine aV ?_
 refine aY (ts := [2]) rfl rfl rfl (fun w hw => ?_)
 exact ⟨congrArg _ (by show Value.int _ _ = _; congr 2; unfold eB; rw [if_neg (by omega)]), hw.base⟩
 refine ap (am rfl) rfl rfl ?_
 refine aq rfl rfl rfl rfl ?_
 refine aq rfl rfl rfl rfl ?_
 refine ap (aQ rfl rfl) rfl rfl ?_
 refine ae ?_
 refine ao ?_
 refine aN rfl ?_
 refine bd ?_
 refine ao ?_
 refine ar ?_
 refine ah ?_
 refine ap (am rfl) rfl rfl ?_
 refine ap (ai rfl) rfl rfl ?_
 refine ae ?_
 refine ao ?_
 refine aV ?_
 refine aY (ts := [2]) rfl rfl rfl (fun w hw => ?_)
 exact ⟨congrArg _ (by show Value.int _ _ = _; congr 2; unfold eB; rw [if_neg (by omega)]), hw.base⟩

theorem fC (t : UInt8 → UInt8) (l : bg) (k : Nat) (h : k < l.length) : ((l.take k).map t ++ l.drop k).set k (t (l.getD k 0)) = (l.take (k + 1)).map t ++ l.drop (k + 1) := by
  have e : l.getD k 0 = l[k] := by simp [List.getD_eq_getElem?_getD, h]
  have hk : k - ((l.take k).map t).length = 0 := by simp; omega
  rw [List.set_append_right _ _ (by simp; omega), hk, List.drop_eq_getElem_cons h, List.set_cons_zero, e, List.take_succ_eq_append_getElem h, List.map_append]
  simp
theorem map_at (t : UInt8 → UInt8) (l : bg) (k : Nat) (h : k < l.length) : ((l.take k).map t ++ l.drop k).getD k 0 = l.getD k 0 := by
  simp [List.getD_eq_getElem?_getD, List.getElem?_append_right, Nat.min_eq_left (Nat.le_of_lt h)]
theorem cO (t : UInt8 → UInt8) (l : bg) (k : Nat) : ((l.take k).map t ++ l.drop k).length = l.length := by simp; omega

theorem c_label_each (l : bg) (f : Nat) (t : UInt8 → UInt8) (hf : ∀ c, em Try.prog f #[.int .u8 c.toNat] (.int .u8 (t c).toNat)) (hen : Enters Try.prog f) (hl : l.length ≤ 1000000000000) : em Try.prog 142 #[.string (ba l), .func (.func f) #[] #[]] (.string (ba (l.map t))) := by
 intro w0
 refine ce (ok0 := no) (S := []) (args := [.string (ba l), .func (.func f) #[] #[]]) 26 Try.func142 rfl rfl rfl (by simp) (by simp) ?_
 refine ar ?_
 refine ah ?_
 refine ap (ai rfl) rfl rfl ?_
 refine ae ?_
 refine ao ?_
 refine ar ?_
 refine ah ?_
 refine ap (am rfl) rfl rfl ?_
 refine o_s2b Try.underlying9 Try.underlying54 Try.underlying5 (by omega) rfl rfl (fun As1 cs1 => ?_)
 refine ap (ai rfl) rfl rfl ?_
 refine ae ?_
 refine ao ?_
 refine ar ?_
 refine ar ?_
 refine ah ?_
 refine ap (am rfl) rfl rfl ?_
 refine ap (bI Try.underlying54 rfl) rfl rfl ?_
 refine ap (am rfl) rfl rfl ?_
 refine ae ?_
 refine ao ?_
 refine bn ?_
 refine eF (σ := Nat) [5, 6, 7, 10, 12, 13, 14, 15, 16, 17, 18, 19, 20, 21, 22, 23] (fun k => k ≤ l.length) (fun k => l.length - k) (fun k => [(12, .int .i64 k), (10, .slice As1 ((l.take k).map t ++ l.drop k).length cs1), (5, .slice As1 ((l.take k).map t ++ l.drop k).length cs1)]) (fun k => Ch.ls As1 cs1 5 1 encb ((l.take k).map t ++ l.drop k)) (0) ?_ ⟨rfl, rfl, rfl, trivial⟩ rfl (fun k hI => ?_)
 exact Nat.zero_le _
 have hml := cO t l k
 refine ar ?_
 refine ah ?_
 refine ap (cV rfl rfl) rfl rfl ?_
 refine aC (t := 13) rfl (fun h3_0 => ?_) (fun h3_0 => ?_)
 refine ae ?_
 refine ao ?_
 refine ar ?_
 refine aI rfl ?_
 refine bd ?_
 refine ao ?_
 refine ar ?_
 refine bn ?_
 refine ar ?_
 refine ah ?_
 refine ap (am rfl) rfl rfl ?_
 refine ap (cj  Try.underlying54 ia rfl rfl (dU 0 rfl) rfl (by rw [cO]; omega)) rfl rfl ?_
 refine ap (cR enc_b (0 : UInt8) ia rfl (dU 0 rfl) (by rw [cO]; omega) rfl rfl) rfl rfl ?_
 refine ap (ai rfl) rfl rfl ?_
 refine ap (ai rfl) rfl rfl ?_
 refine ae ?_
 refine ao ?_
 refine ah ?_
 refine ap (am rfl) rfl rfl ?_
 refine ap (am rfl) rfl rfl ?_
 refine ap (am rfl) rfl rfl ?_
 refine ap (am rfl) rfl rfl ?_
 refine iZ rfl rfl rfl hen (hf _) rfl ?_
 refine ap (cj  Try.underlying54 ia rfl rfl (dU 0 rfl) rfl (by rw [cO]; omega)) rfl rfl ?_
 refine eH enc_b (0 : UInt8) _ ia rfl rfl rfl .z rfl (by rw [cO]; omega) rfl rfl rfl ?_
 refine ae ?_
 refine bV ?_
 refine ao ?_
 refine ah ?_
 refine ap (bY rfl rfl (by omega) (by omega)) rfl rfl ?_
 refine ap (am rfl) rfl rfl ?_
 refine ae ?_
 have hk : k < l.length := by omega
 refine cr (k + 1) ?_ ?_ ⟨rfl, lk rfl (by rw [cO, cO]), lk rfl (by rw [cO, cO]), trivial⟩ (by repeat (first | exact trivial | refine ⟨rfl, ?_⟩)) (fun w h => by rw [map_at t l k hk, fC t l k hk] at h; exact h)
 omega
 omega
 refine ae ?_
 refine ao ?_
 refine ar ?_
 refine aN rfl ?_
 refine cz ?_
 refine br ?_
 refine bC ?_
 refine bK ?_
 refine ao ?_
 refine ar ?_
 refine ah ?_
 refine ap (am rfl) rfl rfl ?_
 refine ap (y_b2s Try.underlying54 Try.underlying9 Try.underlying5 rfl (dU 0 rfl)) rfl rfl ?_
 refine ap (ai rfl) rfl rfl ?_
 refine ae ?_
 refine ao ?_
 refine aV ?_
 refine aY (ts := [4]) rfl rfl rfl (fun w hw => ?_)
 obtain rfl : k = l.length := by omega
 exact ⟨by simp [eC], hw.base⟩

theorem gn (l : bg) (hl : l.length ≤ 1000000000000) : em Try.prog 103 #[.string (ba l)] (.string (ba (cN l))) := by
 intro w0
 refine ce (ok0 := no) (S := []) (args := [.string (ba l)]) 7 Try.func103 rfl rfl rfl (by simp) (by simp) ?_
 refine ar ?_
 refine ah ?_
 refine ap (ai rfl) rfl rfl ?_
 refine ae ?_
 refine ao ?_
 refine ar ?_
 refine ah ?_
 refine ap (ai rfl) rfl rfl ?_
 refine ae ?_
 refine ao ?_
 refine ar ?_
 refine ah ?_
 refine ap (am rfl) rfl rfl ?_
 refine ap (am rfl) rfl rfl ?_
 refine bR rfl ent_142 (c_label_each _ 141 eB c_label_Fold1 ent_141 hl) rfl ?_
 refine ap (ai rfl) rfl rfl ?_
 refine ae ?_
 refine ao ?_
 refine aV ?_
 refine aY (ts := [2]) rfl rfl rfl (fun w hw => ?_)
 exact ⟨rfl, hw.base⟩

def cutL (n : bg) : bg := if dG n then lab n else []
def cutR (n : bg) : bg := if dG n then rst n else n
theorem cutR_lt {n : bg} (h : dG n = true) : (cutR n).length < n.length := by unfold cutR; rw [if_pos h]; exact gN h
theorem cutR_ok {n : bg} (h : dG n = true) : cutR n = rst n := if_pos h
theorem cutL_ok {n : bg} (h : dG n = true) : cutL n = lab n := if_pos h
theorem cut_no {n : bg} (h : n = [] ∨ bt n 0 < 1 ∨ 63 < bt n 0 ∨ n.length ≤ bt n 0) : dG n = false := by
  cases hq : dG n with
  | false => rfl
  | true =>
    obtain ⟨h0, h1, h2, h3⟩ := cutOk_iff.1 hq
    rcases h with h | h
    · exact absurd h h0
    · omega

set_option maxRecDepth 100000 in
theorem iw (n : bg) : em Try.prog 95 #[.string (ba n)] (.tuple #[.string (ba (cutL n)), .string (ba (cutR n)), .bool (dG n)]) := by
 intro w0
 refine ce (ok0 := no) (S := []) (args := [.string (ba n)]) 32 Try.func95 rfl rfl rfl (by simp) (by simp) ?_
 refine ar ?_
 refine ah ?_
 refine ap (ai rfl) rfl rfl ?_
 refine ap (ai rfl) rfl rfl ?_
 refine ap (ai rfl) rfl rfl ?_
 refine ae ?_
 refine ao ?_
 refine ar ?_
 refine ar ?_
 refine ah ?_
 refine ap (am rfl) rfl rfl ?_
 refine ap (eT rfl rfl) rfl rfl ?_
 refine aC (t := 7) rfl (fun h1_1 => ?_) (fun h1_1 => ?_)
 refine ae ?_
 refine ao ?_
 refine aI rfl ?_
 refine ar ?_
 refine ah ?_
 refine ap (ai rfl) rfl rfl ?_
 refine ap (ai rfl) rfl rfl ?_
 refine ap (ai rfl) rfl rfl ?_
 refine ae ?_
 refine ao ?_
 refine aV ?_
 refine aB ?_
 refine aY (ts := [2, 3, 4]) rfl rfl rfl (fun w hw => ?_)
 subst h1_1
 exact ⟨rfl, hw.base⟩
 refine ae ?_
 refine ao ?_
 refine aN rfl ?_
 refine bd ?_
 refine ao ?_
 refine ar ?_
 refine ah ?_
 refine ap (am rfl) rfl rfl ?_
 have hs := len_pos h1_1
 have hb := bt_lt n 0
 refine ap (y_indexs (k := 0) Try.underlying37 rfl rfl rfl (by omega)) rfl rfl ?_
 refine ap (i6 Try.underlying5 Try.underlying3 rfl (iP (by omega) (by omega))) rfl rfl ?_
 refine ap (ai rfl) rfl rfl ?_
 refine ae ?_
 refine ao ?_
 refine ar ?_
 refine ar ?_
 refine ah ?_
 refine ap (am rfl) rfl rfl ?_
 refine ap (cV rfl rfl) rfl rfl ?_
 refine aC (t := 12) rfl (fun h4_1 => ?_) (fun h4_1 => ?_)
 refine ap (am rfl) rfl rfl ?_
 refine aq rfl rfl rfl rfl ?_
 refine aq rfl rfl rfl rfl ?_
 refine ap (aM rfl rfl) rfl rfl ?_
 refine ap (am rfl) rfl rfl ?_
 refine aq rfl rfl rfl rfl ?_
 refine aq rfl rfl rfl rfl ?_
 refine aq rfl rfl rfl rfl ?_
 refine aq rfl rfl rfl rfl ?_
 refine ap (aM rfl rfl) rfl rfl ?_
 refine ae ?_
 refine ao ?_
 refine aI rfl ?_
 refine ar ?_
 refine ah ?_
 refine ap (am rfl) rfl rfl ?_
 refine ap (ai rfl) rfl rfl ?_
 refine ap (ai rfl) rfl rfl ?_
 refine ap (ai rfl) rfl rfl ?_
 refine ae ?_
 refine ao ?_
 refine aV ?_
 refine aB ?_
 refine aY (ts := [2, 3, 4]) rfl rfl rfl (fun w hw => ?_)
 have hc := cut_no (n := n) (by omega)
 exact ⟨by simp [eC, cutL, cutR, hc], hw.base⟩
 refine ap (am rfl) rfl rfl ?_
 refine aw rfl rfl ?_
 refine ap (am rfl) rfl rfl ?_
 refine aw rfl rfl ?_
 refine ap (eo rfl rfl) rfl rfl ?_
 refine aC (t := 15) rfl (fun h4_4 => ?_) (fun h4_4 => ?_)
 refine ap (aQ rfl rfl) rfl rfl ?_
 refine ap (am rfl) rfl rfl ?_
 refine aq rfl rfl rfl rfl ?_
 refine aq rfl rfl rfl rfl ?_
 refine aq rfl rfl rfl rfl ?_
 refine aq rfl rfl rfl rfl ?_
 refine ap (aM rfl rfl) rfl rfl ?_
 refine ae ?_
 refine ao ?_
 refine aI rfl ?_
 refine ar ?_
 refine ah ?_
 refine ap (am rfl) rfl rfl ?_
 refine ap (ai rfl) rfl rfl ?_
 refine ap (ai rfl) rfl rfl ?_
 refine ap (ai rfl) rfl rfl ?_
 refine ae ?_
 refine ao ?_
 refine aV ?_
 refine aB ?_
 refine aY (ts := [2, 3, 4]) rfl rfl rfl (fun w hw => ?_)
 have hc := cut_no (n := n) (by omega)
 exact ⟨by simp [eC, cutL, cutR, hc], hw.base⟩
 refine ap (aQ rfl rfl) rfl rfl ?_
 refine ap (am rfl) rfl rfl ?_
 refine aw rfl rfl ?_
 refine ap (am rfl) rfl rfl ?_
 refine aw rfl rfl ?_
 refine ap (am rfl) rfl rfl ?_
 refine aw rfl rfl ?_
 refine ap (dS Try.underlying37 rfl) rfl rfl ?_
 refine aw rfl rfl ?_
 refine ap (gR rfl rfl) rfl rfl ?_
 refine aC (t := 21) rfl (fun h4_10 => ?_) (fun h4_10 => ?_)
 refine ap (aQ rfl rfl) rfl rfl ?_
 refine ae ?_
 refine ao ?_
 refine aI rfl ?_
 refine ar ?_
 refine ah ?_
 refine ap (am rfl) rfl rfl ?_
 refine ap (ai rfl) rfl rfl ?_
 refine ap (ai rfl) rfl rfl ?_
 refine ap (ai rfl) rfl rfl ?_
 refine ae ?_
 refine ao ?_
 refine aV ?_
 refine aB ?_
 refine aY (ts := [2, 3, 4]) rfl rfl rfl (fun w hw => ?_)
 have hc := cut_no (n := n) (by omega)
 exact ⟨by simp [eC, cutL, cutR, hc], hw.base⟩
 refine ap (aQ rfl rfl) rfl rfl ?_
 refine ae ?_
 refine ao ?_
 refine aN rfl ?_
 refine bd ?_
 refine ao ?_
 refine ar ?_
 refine dX 11 rfl mixed ?_
 refine aX (i := 0) rfl aa (am rfl) aD aD rfl (aj av) (by kernel_rfl) rfl ?_
 refine aX (i := 1) rfl aa (am rfl) aD aD rfl (aj av) (by kernel_rfl) rfl ?_
 refine aX (i := 2) rfl aa (bY rfl rfl (by omega) (by omega)) aD aD rfl (aj av) (by kernel_rfl) rfl ?_
 refine aX (i := 3) rfl aa (y_slices (m := 1) (n := 1 + bt n 0) Try.underlying37 rfl rfl rfl rfl (by omega) (by omega) (by omega)) aD aD rfl (aj av) (by kernel_rfl) rfl ?_
 refine aX (i := 4) rfl aa (am rfl) aD aD rfl (aj av) (by kernel_rfl) rfl ?_
 refine aX (i := 5) rfl aa (am rfl) aD aD rfl (aj av) (by kernel_rfl) rfl ?_
 refine aX (i := 6) rfl aa (bY rfl rfl (by omega) (by omega)) aD aD rfl (aj av) (by kernel_rfl) rfl ?_
 refine aX (i := 7) rfl aa (y_slices_lo (m := 1 + bt n 0) Try.underlying37 rfl rfl (by omega) (by omega)) aD aD rfl (aj av) (by kernel_rfl) rfl ?_
 refine aX (i := 8) rfl aa (ai rfl) aD aD rfl (aj av) (by kernel_rfl) rfl ?_
 refine aX (i := 9) rfl aa (ai rfl) aD aD rfl (aj av) (by kernel_rfl) rfl ?_
 refine aX (i := 10) rfl aa (ai rfl) aD aD rfl (aj av) (by kernel_rfl) rfl ?_
 refine dm (by kernel_rfl) ?_
 refine ao ?_
 refine aV ?_
 refine aY (ts := [2, 3, 4]) rfl rfl rfl (fun w hw => ?_)
 have hc : dG n = true := cutOk_iff.2 ⟨h1_1, by omega, by omega, by omega⟩
 exact ⟨by simp [eC, cutL, cutR, hc, lab, rst], hw.base⟩

theorem ek (n : bg) : em Try.prog 56 #[.string (ba n)] (.int .i64 (bj n)) := by
 intro w0
 refine ce (ok0 := no) (S := []) (args := [.string (ba n)]) 20 Try.func56 rfl rfl rfl (by simp) (by simp) ?_
 refine ar ?_
 refine ah ?_
 refine ap (ai rfl) rfl rfl ?_
 refine ae ?_
 refine ao ?_
 refine ar ?_
 refine ar ?_
 refine ah ?_
 refine ap (am rfl) rfl rfl ?_
 refine ap (dS Try.underlying37 rfl) rfl rfl ?_
 refine ap (eo rfl rfl) rfl rfl ?_
 refine aC (t := 8) rfl (fun h1_2 => ?_) (fun h1_2 => ?_)
 refine ae ?_
 refine ao ?_
 refine aI rfl ?_
 refine ar ?_
 refine ah ?_
 refine ap (ai rfl) rfl rfl ?_
 refine ae ?_
 refine ao ?_
 refine aV ?_
 refine aB ?_
 refine aY (ts := [2]) rfl rfl rfl (fun w hw => ?_)
 exact ⟨by simp [eC, bj, show 254 < n.length by omega], hw.base⟩
 refine ae ?_
 refine ao ?_
 refine aN rfl ?_
 refine bd ?_
 refine ao ?_
 refine ar ?_
 refine bn ?_
 refine dd (σ := bg) [0, 2, 3, 4, 5, 9, 10, 11, 12, 13, 14, 15, 16, 17, 18, 19] (fun r => iF n = iF r) (fun r => r.length) (fun r => [(0, .string (ba r))]) (n) ?_ ⟨rfl, trivial⟩ (fun r hI => ?_)
 rfl
 refine ar ?_
 refine ar ?_
 refine ah ?_
 refine ap (am rfl) rfl rfl ?_
 refine ap (y_neqs rfl rfl) rfl rfl ?_
 refine aC (t := 10) rfl (fun h3_1 => ?_) (fun h3_1 => ?_)
 refine ae ?_
 refine ao ?_
 refine aI rfl ?_
 refine bd ?_
 refine ao ?_
 refine bn ?_
 refine ar ?_
 refine ah ?_
 refine ap (am rfl) rfl rfl ?_
 refine bR rfl ent_95 (iw _) rfl ?_
 refine ap (am rfl) rfl rfl ?_
 refine ap (az rfl rfl) rfl rfl ?_
 refine ap (az rfl rfl) rfl rfl ?_
 refine ap (az rfl rfl) rfl rfl ?_
 refine bS (t := 16) rfl (fun h4_5 => ?_) (fun h4_5 => ?_)
 refine ap (ai rfl) rfl rfl ?_
 refine ap (ai rfl) rfl rfl ?_
 refine ap (ai rfl) rfl rfl ?_
 refine ae ?_
 refine ao ?_
 refine ar ?_
 refine ar ?_
 refine ah ?_
 refine ap (am rfl) rfl rfl ?_
 refine ap (ct rfl) rfl rfl ?_
 refine ae ?_
 refine ao ?_
 refine aN rfl ?_
 refine bd ?_
 refine ao ?_
 refine ah ?_
 refine ap (am rfl) rfl rfl ?_
 refine ap (ai rfl) rfl rfl ?_
 refine ae ?_
 refine bV ?_
 refine cr (cutR r) ?_ ?_ ⟨rfl, trivial⟩ (by repeat (first | exact trivial | refine ⟨rfl, ?_⟩)) aD
 have hc := h4_5
 rw [hI, fX r, hc, cutR_ok hc]; simp [h3_1]
 have hc := h4_5
 exact cutR_lt hc
 refine ap (ai rfl) rfl rfl ?_
 refine ap (ai rfl) rfl rfl ?_
 refine ap (ai rfl) rfl rfl ?_
 refine ae ?_
 refine ao ?_
 refine ar ?_
 refine ar ?_
 refine ah ?_
 refine ap (am rfl) rfl rfl ?_
 refine ap (ct rfl) rfl rfl ?_
 refine ae ?_
 refine ao ?_
 refine aI rfl ?_
 refine ar ?_
 refine ah ?_
 refine ap (ai rfl) rfl rfl ?_
 refine ae ?_
 refine ao ?_
 refine aV ?_
 refine aB ?_
 refine aT ?_
 refine bL ?_
 refine aT ?_
 refine aB ?_
 refine aY (ts := [2]) rfl rfl rfl (fun w hw => ?_)
 have hc := h4_5
 have ho : iF n = false := by rw [hI, fX, hc]; simp [h3_1]
 exact ⟨by simp [eC, bj, show ¬ 254 < n.length by omega, ho], hw.base⟩
 refine ae ?_
 refine ao ?_
 refine aN rfl ?_
 refine cz ?_
 refine br ?_
 refine bC ?_
 refine bK ?_
 refine ao ?_
 refine ar ?_
 refine ah ?_
 refine ap (ai rfl) rfl rfl ?_
 refine ae ?_
 refine ao ?_
 refine aV ?_
 refine aY (ts := [2]) rfl rfl rfl (fun w hw => ?_)
 have ho : iF n = true := by rw [hI, show r = [] by simpa using h3_1]; rfl
 exact ⟨by simp [eC, bj, show ¬ 254 < n.length by omega, ho], hw.base⟩

theorem c_name_each (n : bg) : RC Try.prog 133 #[.string (ba n)] [] (α := Nat) (fun b => .func (.func 159) #[] #[.pointer (some ⟨b, 0, none⟩)]) (fun b => [Ch.row b [.string (ba n)] 37]) := by
 refine bZ (args := [.string (ba n)]) 4 Try.func133 rfl rfl rfl (fun w0 => ?_)
 refine ar ?_
 refine ah ?_
 refine cT rfl rfl rfl (fun b1 => ?_)
 refine ap (ai rfl) rfl rfl ?_
 refine ae ?_
 refine ao ?_
 refine ar ?_
 refine ah ?_
 refine ap (im rfl rfl) rfl rfl ?_
 refine ap (ai rfl) rfl rfl ?_
 refine ae ?_
 refine ao ?_
 refine aV ?_
 refine aY (ts := [2]) rfl rfl rfl (fun w hw => ?_)
 exact ⟨b1, rfl, hw.base, (hw.weak (.cons_cons _ .slnil) (fun s hs => hs)).toNews⟩

theorem c_name_each1 (n : bg) (b : Nat) : Iter Try.prog 159 [.pointer (some ⟨b, 0, none⟩)] [Ch.row b [.string (ba n)] 37] ed (eK n) := by
 refine iter_of_W 24 Try.func159 rfl rfl rfl (fun lr σ I Ix C Sc hy g0 hg0 w0 => ?_)
 refine ar ?_
 refine ah ?_
 refine ap (y_loadSo 0 bF rfl rfl rfl) rfl rfl ?_
 refine bR rfl ent_95 (iw _) rfl ?_
 refine ap (am rfl) rfl rfl ?_
 refine ap (az rfl rfl) rfl rfl ?_
 refine ap (az rfl rfl) rfl rfl ?_
 refine ap (az rfl rfl) rfl rfl ?_
 refine ap (ai rfl) rfl rfl ?_
 refine ap (ai rfl) rfl rfl ?_
 refine ap (ai rfl) rfl rfl ?_
 refine ae ?_
 refine ao ?_
 refine bn ?_
 refine eF (σ := List bg × bg × σ) [3, 4, 5, 12, 13, 14, 15, 16, 17, 18, 19, 20, 21, 22, 23] (fun q => eK n = q.1 ++ eK q.2.1 ∧ I q.1 q.2.2) (fun q => q.2.1.length) (fun q => [(3, .string (ba (cutL q.2.1))), (4, .string (ba (cutR q.2.1))), (5, .bool (dG q.2.1))]) (fun q => C q.2.2) (([], n, g0)) ?_ ⟨rfl, rfl, rfl, trivial⟩ rfl (fun q hI => ?_)
 exact ⟨rfl, hg0⟩
 obtain ⟨pre, r, g⟩ := q
 obtain ⟨hxs, hI⟩ := hI
 dsimp only at hxs hI ⊢
 refine ar ?_
 refine ar ?_
 refine ah ?_
 refine ap (am rfl) rfl rfl ?_
 refine bS (t := 12) rfl (fun h1_0 => ?_) (fun h1_0 => ?_)
 have hx2 : eK n = pre ++ cutL r :: eK (rst r) := by rw [hxs, gl r, if_pos h1_0, cutL_ok h1_0]
 refine ap (am rfl) rfl rfl ?_
 refine aw rfl rfl ?_
 refine ap (am rfl) rfl rfl ?_
 refine aw rfl rfl ?_
 refine ap (am rfl) rfl rfl ?_
 refine aw rfl rfl ?_
 refine hX rfl rfl (hy pre (cutL r) _ g hx2 hI) (fun _ => .z) (fun s hs => List.mem_append_right _ hs) rfl (fun g' hT => ?_) (fun g' hF => ?_)
 refine ap (aM rfl rfl) rfl rfl ?_
 refine ae ?_
 refine ao ?_
 refine aI rfl ?_
 refine bd ?_
 refine ao ?_
 refine ar ?_
 refine bn ?_
 refine bd ?_
 refine bV ?_
 refine ao ?_
 refine ah ?_
 refine ap (am rfl) rfl rfl ?_
 refine bR rfl ent_95 (iw _) rfl ?_
 refine ap (am rfl) rfl rfl ?_
 refine ap (az rfl rfl) rfl rfl ?_
 refine ap (az rfl rfl) rfl rfl ?_
 refine ap (az rfl rfl) rfl rfl ?_
 refine ap (ai rfl) rfl rfl ?_
 refine ap (ai rfl) rfl rfl ?_
 refine ap (ai rfl) rfl rfl ?_
 refine ae ?_
 refine cr ((pre ++ [cutL r], cutR r, g')) ?_ ?_ ⟨rfl, rfl, rfl, trivial⟩ (by repeat (first | exact trivial | refine ⟨rfl, ?_⟩)) aD
 exact ⟨by rw [hx2, cutR_ok h1_0]; simp, hT⟩
 exact cutR_lt h1_0
 refine ap (aM rfl rfl) rfl rfl ?_
 refine ae ?_
 refine ao ?_
 refine aN rfl ?_
 refine cz ?_
 refine br ?_
 refine bC ?_
 refine bK ?_
 refine e_end (ts := []) rfl rfl rfl (fun w hw => ?_)
 exact iter_end _ (.inr ⟨_, eK (rst r), by rw [hx2]; simp, hF⟩) hw
 refine ap (am rfl) rfl rfl ?_
 refine aq rfl rfl rfl rfl ?_
 refine aq rfl rfl rfl rfl ?_
 refine aq rfl rfl rfl rfl ?_
 refine ap (aQ rfl rfl) rfl rfl ?_
 refine ae ?_
 refine ao ?_
 refine aN rfl ?_
 refine cz ?_
 refine br ?_
 refine bC ?_
 refine bK ?_
 refine e_end (ts := []) rfl rfl rfl (fun w hw => ?_)
 have hr : eK r = [] := by rw [gl, if_neg (by rw [h1_0]; simp)]
 exact iter_end _ (.inl (by rw [hxs, hr, List.append_nil]; exact hI)) hw

theorem c_AppendSeq_s (xs : List bg) (gf : Nat) (lb : List Value) (Sx : List Ch) (hit : Iter Try.prog gf lb Sx ed xs) (hen : Enters Try.prog gf) (hl : xs.length ≤ 1000000000000) : RC Try.prog 158 #[.slice none 0 0, .func (.func gf) #[] lb.toArray] Sx (α := Option Addr × Nat) (fun p => .slice p.1 xs.length p.2) (fun p => [Ch.ls p.1 p.2 9 1 ed xs]) := by
 refine rc_of_WM (args := [.slice none 0 0, .func (.func gf) #[] lb.toArray]) 13 Try.func158 rfl rfl rfl (fun w0 => ?_)
 refine ar ?_
 refine ah ?_
 refine cT rfl rfl rfl (fun b1 => ?_)
 refine ap (ai rfl) rfl rfl ?_
 refine ae ?_
 refine ao ?_
 refine ar ?_
 refine ar ?_
 refine ah ?_
 refine ap (am rfl) rfl rfl ?_
 refine ae ?_
 refine ao ?_
 refine bn ?_
 refine bD (fun w h => h.nilsl 9 1) ?_
 refine w_range (σ := List bg × Option Addr × Nat) (fun pre g => g.1 = pre) (fun c pre g => False) (fun g => [Ch.ls g.2.1 g.2.2 9 1 ed g.1, Ch.row b1 [.slice g.2.1 g.1.length g.2.2] 105]) (([], none, 0)) rfl rfl hen (hit) (fun s hs => hs) rfl (fun _ => rfl) (rfl) rfl (fun pre e post g hxs hI lr D r hr okb wb => ?_) (fun g D0 hI => ?_) (fun c pre post g D0 hxs hI => ?_)
 obtain ⟨q, A, c⟩ := g
 dsimp only at hI ⊢
 subst hI
 refine ah ?_
 refine ap (ai rfl) rfl rfl ?_
 refine ae ?_
 refine e_begin rfl hr .z ?_
 refine bn ?_
 refine ah ?_
 have hql : q.length < xs.length := by rw [hxs]; simp
 refine ap (aG 3 ty_105 rfl rfl rfl) rfl rfl ?_
 refine ap (am rfl) rfl rfl ?_
 refine bf (vs := [_]) ([_] : List (bg)) bB Try.underlying105 cF rfl rfl rfl rfl rfl rfl (fun As2 => ?_)
 refine dh (enc := ed) (sz := 1) _ Try.underlying105 cF rfl rfl rfl (fun A c => (.s (.s (.s (.z))))) (fj 0 Try.underlying105 rfl) (by simp only [List.length_cons, List.length_nil, Nat.zero_add]; omega) (by simp only [List.length_cons, List.length_nil, Nat.zero_add]; omega) rfl (fun A2 c2 => ?_)
 refine aS ty_105 rfl rfl rfl (.s (.s (.s (.s (.z))))) rfl rfl rfl rfl ?_
 refine ae ?_
 refine bV ?_
 refine eO ((q ++ [e], A2, c2)) ?_ (aL 1)
 rfl
 obtain ⟨q, A, c⟩ := g
 dsimp only at hI ⊢
 subst hI
 refine bV ?_
 refine ao ?_
 refine ar ?_
 refine ah ?_
 refine ap (aG 2 ty_105 rfl rfl rfl) rfl rfl ?_
 refine ap (ai rfl) rfl rfl ?_
 refine ae ?_
 refine ao ?_
 refine aV ?_
 refine e_lvr ?_
 refine lv_take .z ?_
 refine gX (rs := [.tmp 4]) rfl (gy rfl d6) (fun w hw => ?_)
 exact ⟨(A, c), rfl, hw.base, (hw.weak (.cons _ (.cons_cons _ (.cons _ .slnil))) (fun s hs => hs)).toNews⟩
 exact hI.elim

theorem c_Collect_s (xs : List bg) (gf : Nat) (lb : List Value) (Sx : List Ch) (hit : Iter Try.prog gf lb Sx ed xs) (hen : Enters Try.prog gf) (hl : xs.length ≤ 1000000000000) : RC Try.prog 132 #[.func (.func gf) #[] lb.toArray] Sx (α := Option Addr × Nat) (fun p => .slice p.1 xs.length p.2) (fun p => [Ch.ls p.1 p.2 9 1 ed xs]) := by
 refine bZ (args := [.func (.func gf) #[] lb.toArray]) 5 Try.func132 rfl rfl rfl (fun w0 => ?_)
 refine ar ?_
 refine ah ?_
 refine ap (ai rfl) rfl rfl ?_
 refine ae ?_
 refine ao ?_
 refine ar ?_
 refine ah ?_
 refine ap (am rfl) rfl rfl ?_
 refine d9 rfl ent_158 rfl (c_AppendSeq_s xs gf lb Sx hit hen hl) (fun w hw => hw.rd) (fun ⟨A0, c0⟩ => ?_)
 refine ap (ai rfl) rfl rfl ?_
 refine ae ?_
 refine ao ?_
 refine aV ?_
 refine aY (ts := [2]) rfl rfl rfl (fun w hw => ?_)
 exact ⟨(A0, c0), rfl, hw.base, (hw.weak (.cons_cons _ .slnil) (fun s hs => hs)).toNews⟩

theorem fV (n : bg) : RC Try.prog 84 #[.string (ba n)] [] (α := Option Addr × Nat) (fun p => .slice p.1 (bP n).length p.2) (fun p => [Ch.ls p.1 p.2 9 1 ed (bP n)]) := by
 refine bZ (args := [.string (ba n)]) 9 Try.func84 rfl rfl rfl (fun w0 => ?_)
 refine ar ?_
 refine ah ?_
 refine ap (ai rfl) rfl rfl ?_
 refine ae ?_
 refine ao ?_
 refine ar ?_
 refine ar ?_
 refine ah ?_
 refine ap (am rfl) rfl rfl ?_
 refine bR rfl ent_56 (ek _) rfl ?_
 refine ap (db rfl rfl) rfl rfl ?_
 refine aC (t := 5) rfl (fun h1_2 => ?_) (fun h1_2 => ?_)
 refine ae ?_
 refine ao ?_
 refine aI rfl ?_
 refine ar ?_
 refine ah ?_
 refine ap (ai rfl) rfl rfl ?_
 refine ae ?_
 refine ao ?_
 refine aV ?_
 refine aB ?_
 refine aY (ts := [2]) rfl rfl rfl (fun w hw => ?_)
 have hl : bP n = [] := if_neg (by omega)
 rw [hl]
 exact ⟨(none, 0), rfl, hw.base, (hw.nilsl 9 1).toNews⟩
 refine ae ?_
 refine ao ?_
 refine aN rfl ?_
 refine bd ?_
 refine ao ?_
 refine ar ?_
 refine ah ?_
 refine ap (am rfl) rfl rfl ?_
 refine d9 rfl ent_133 rfl (c_name_each _) (fun w hw => aO) (fun o0 => ?_)
 refine wl_heap (fun w h => h.freeze) ?_
 have hck : bj n = 0 := by omega
 have hnl := nameCk_zero.1 hck
 have hll := labs_len n
 refine d9 rfl ent_132 rfl (c_Collect_s (eK n) 159 [.pointer (some ⟨o0, 0, none⟩)] [Ch.row o0 [.string (ba n)] 37] (c_name_each1 n _) ent_159 (by omega)) (fun w hw => (ak (bW 0 rfl hw) aO)) (fun ⟨A1, c1⟩ => ?_)
 refine ap (ai rfl) rfl rfl ?_
 refine ae ?_
 refine ao ?_
 refine aV ?_
 refine aY (ts := [2]) rfl rfl rfl (fun w hw => ?_)
 have hl : bP n = eK n := if_pos hck
 rw [hl]
 exact ⟨(A1, c1), rfl, hw.base, hw.toNews⟩
end Go.Proofs.Ytnpdgmoeoidppaa

/- strings.Builder, name.Make, name.Fold -/
namespace Go.Proofs.Ytnpdgmoeoidppaa
open Go.RowKit Go.Shelf
set_option linter.unusedVariables false
set_option linter.unusedSimpArgs false

theorem ent_103 : Enters Try.prog 103 := enters_of Try.func103 (by kernel_rfl) rfl
theorem ent_104 : Enters Try.prog 104 := enters_of Try.func104 (by kernel_rfl) rfl
theorem ent_137 : Enters Try.prog 137 := enters_of Try.func137 (by kernel_rfl) rfl
theorem ent_143 : Enters Try.prog 143 := enters_of Try.func143 (by kernel_rfl) rfl
theorem ent_144 : Enters Try.prog 144 := enters_of Try.func144 (by kernel_rfl) rfl
theorem ent_145 : Enters Try.prog 145 := enters_of Try.func145 (by kernel_rfl) rfl
theorem ent_146 : Enters Try.prog 146 := enters_of Try.func146 (by kernel_rfl) rfl
theorem ent_162 : Enters Try.prog 162 := enters_of Try.func162 (by kernel_rfl) rfl
theorem ent_84 : Enters Try.prog 84 := enters_of Try.func84 (by kernel_rfl) rfl
theorem iY : FA Try.prog 200 0 0 := fun b o w => by kernel_rfl
theorem fD : FA Try.prog 200 1 1 := fun b o w => by kernel_rfl
theorem ty_198 : TyI Try.prog 198 false 1 8 (.pointer none) := TyI.mk' (by kernel_rfl) (fun _ => by kernel_rfl)
theorem ty_200 : TyI Try.prog 200 true 2 32 (.agg #[.pointer none, .slice none 0 0]) := TyI.mk' (by kernel_rfl) (fun _ => by kernel_rfl)
theorem ty_54 : TyI Try.prog 54 false 1 24 (.slice none 0 0) := TyI.mk' (by kernel_rfl) (fun _ => by kernel_rfl)

theorem c_copyCheck (b : Nat) (A : Option Addr) (c : Nat) (s : bg) : UC Try.prog 162 #[.pointer (some ⟨b, 0, none⟩)] [] (Ch.bld 200 5 b A c s) (α := Unit) (fun _ => .tuple #[]) (fun _ => Ch.bld 200 5 b A c s) := by
 refine gE (args := [.pointer (some ⟨b, 0, none⟩)]) 20 Try.func162 rfl rfl rfl (fun w0 => ?_)
 refine w_bldo fun p hp => ?_
 rcases hp with rfl | rfl
 refine ar ?_
 refine ah ?_
 refine ap (am rfl) rfl rfl ?_
 refine ap (cH rfl) rfl rfl ?_
 refine ap (aF iY rfl) rfl rfl ?_
 refine ap (aG 0 ty_198 rfl rfl rfl) rfl rfl ?_
 refine ap (y_eqp Try.underlying198 rfl rfl) rfl rfl ?_
 refine dx (t := 6) (.bool true) rfl (congrArg Value.bool rfl) ?_
 refine ae ?_
 refine ao ?_
 refine aI rfl ?_
 refine ah ?_
 refine ap (am rfl) rfl rfl ?_
 refine ap (am rfl) rfl rfl ?_
 refine ap (y_tou (n := 2) Try.underlying198 Try.underlying234 ty_200 rfl (by omega) rfl (shape_rown 0 rfl rfl)) rfl rfl ?_
 refine o_ext rfl (fun w => by rw [run_callFunc_extern Try.func175 (by kernel_rfl) (by kernel_rfl) (by kernel_rfl) (e := Extern.AbiNoEscape.same) (by kernel_rfl), Lib.run_noEscape]; rfl) rfl ?_
 refine ap (y_fromu (n := 2) Try.underlying234 Try.underlying198 ty_200 (by kernel_rfl) rfl (shape_rown 0 rfl rfl)) rfl rfl ?_
 refine ap (cH rfl) rfl rfl ?_
 refine ap (aF iY rfl) rfl rfl ?_
 refine aS ty_198 rfl rfl rfl .z rfl rfl rfl rfl ?_
 refine ae ?_
 refine e_end (ts := []) rfl rfl rfl (fun w hw => ?_)
 exact ⟨(), rfl, (Hp.bldc (.inr rfl) rfl rfl hw).uc⟩
 refine ar ?_
 refine ah ?_
 refine ap (am rfl) rfl rfl ?_
 refine ap (cH rfl) rfl rfl ?_
 refine ap (aF iY rfl) rfl rfl ?_
 refine ap (aG 0 ty_198 rfl rfl rfl) rfl rfl ?_
 refine ap (y_eqp Try.underlying198 rfl rfl) rfl rfl ?_
 refine dx (t := 6) (.bool false) rfl (congrArg Value.bool rfl) ?_
 refine ae ?_
 refine ao ?_
 refine aN rfl ?_
 refine ar ?_
 refine ah ?_
 refine ap (am rfl) rfl rfl ?_
 refine ap (cH rfl) rfl rfl ?_
 refine ap (aF iY rfl) rfl rfl ?_
 refine ap (aG 0 ty_198 rfl rfl rfl) rfl rfl ?_
 refine ap (am rfl) rfl rfl ?_
 refine ap (y_neps Try.underlying198 ty_200 rfl rfl) rfl rfl ?_
 refine ae ?_
 refine ao ?_
 refine aN rfl ?_
 refine bd ?_
 refine e_end (ts := []) rfl rfl rfl (fun w hw => ?_)
 exact ⟨(), rfl, (Hp.bldc (.inr rfl) rfl rfl hw).uc⟩

theorem c_WriteByte (b : Nat) (A : Option Addr) (c : Nat) (s : bg) (ch : UInt8) (hs : s.length ≤ 1000000000000) : UC Try.prog 143 #[.pointer (some ⟨b, 0, none⟩), .int .u8 ch.toNat] [] (Ch.bld 200 5 b A c s) (α := Option Addr × Nat) (fun p => .nilIface) (fun p => Ch.bld 200 5 b p.1 p.2 (s ++ [ch])) := by
 refine gE (args := [.pointer (some ⟨b, 0, none⟩), .int .u8 ch.toNat]) 17 Try.func143 rfl rfl rfl (fun w0 => ?_)
 refine ar ?_
 refine ah ?_
 refine ap (ai rfl) rfl rfl ?_
 refine ae ?_
 refine ao ?_
 refine ar ?_
 refine ah ?_
 refine ap (am rfl) rfl rfl ?_
 refine fp rfl ent_162 rfl (c_copyCheck _ _ _ _) (fun o => .z) (List.mem_of_getElem? (i := 0) rfl) (fun s hs => nomatch hs) (fun o0 => ?_)
 refine ae ?_
 refine ao ?_
 refine ar ?_
 refine w_bldo fun p hp => ?_
 refine ah ?_
 refine ap (am rfl) rfl rfl ?_
 refine ap (am rfl) rfl rfl ?_
 refine ap (cH rfl) rfl rfl ?_
 refine ap (aF fD rfl) rfl rfl ?_
 refine ap (aG 0 ty_54 rfl rfl rfl) rfl rfl ?_
 refine ap (am rfl) rfl rfl ?_
 refine bf (vs := [_]) ([_] : List (UInt8)) enc_b Try.underlying54 ia rfl rfl rfl rfl rfl rfl (fun As2 => ?_)
 refine dh (enc := encb) (sz := 1) _ Try.underlying54 ia rfl rfl rfl (fun A c => (.s (.s (.z)))) (fj 0 Try.underlying54 rfl) (by simp only [List.length_cons, List.length_nil, Nat.zero_add]; omega) (by simp only [List.length_cons, List.length_nil, Nat.zero_add]; omega) rfl (fun A2 c2 => ?_)
 refine ap (cH rfl) rfl rfl ?_
 refine ap (aF fD rfl) rfl rfl ?_
 refine aS ty_54 rfl rfl rfl (.s (.z)) rfl rfl rfl rfl ?_
 refine ae ?_
 refine ao ?_
 refine ar ?_
 refine ah ?_
 refine ap (ai rfl) rfl rfl ?_
 refine ae ?_
 refine ao ?_
 refine aV ?_
 refine aY (ts := [4]) rfl rfl rfl (fun w hw => ?_)
 exact ⟨(A2, c2), rfl, (Hp.bldc hp rfl rfl (hw.weak (.cons _ (.cons_cons _ (.cons_cons _ .slnil))) (fun s hs => hs))).uc⟩

theorem c_WriteString (b : Nat) (A : Option Addr) (c : Nat) (s t : bg) (hs : s.length + t.length ≤ 1000000000000) : UC Try.prog 144 #[.pointer (some ⟨b, 0, none⟩), .string (ba t)] [] (Ch.bld 200 5 b A c s) (α := Option Addr × Nat) (fun p => .tuple #[.int .i64 t.length, .nilIface]) (fun p => Ch.bld 200 5 b p.1 p.2 (s ++ t)) := by
 refine gE (args := [.pointer (some ⟨b, 0, none⟩), .string (ba t)]) 19 Try.func144 rfl rfl rfl (fun w0 => ?_)
 refine ar ?_
 refine ah ?_
 refine ap (ai rfl) rfl rfl ?_
 refine ap (ai rfl) rfl rfl ?_
 refine ae ?_
 refine ao ?_
 refine ar ?_
 refine ah ?_
 refine ap (am rfl) rfl rfl ?_
 refine fp rfl ent_162 rfl (c_copyCheck _ _ _ _) (fun o => .z) (List.mem_of_getElem? (i := 0) rfl) (fun s hs => nomatch hs) (fun o0 => ?_)
 refine ae ?_
 refine ao ?_
 refine ar ?_
 refine w_bldo fun p hp => ?_
 refine ah ?_
 refine ap (am rfl) rfl rfl ?_
 refine ap (am rfl) rfl rfl ?_
 refine ap (cH rfl) rfl rfl ?_
 refine ap (aF fD rfl) rfl rfl ?_
 refine ap (aG 0 ty_54 rfl rfl rfl) rfl rfl ?_
 refine ap (am rfl) rfl rfl ?_
 refine dh (enc := encb) (sz := 1) t Try.underlying54 ia rfl rfl rfl (fun A c => (.s (.z))) (src_str Try.underlying9) (by omega) (by omega) rfl (fun A1 c1 => ?_)
 refine ap (cH rfl) rfl rfl ?_
 refine ap (aF fD rfl) rfl rfl ?_
 refine aS ty_54 rfl rfl rfl .z rfl rfl rfl rfl ?_
 refine ae ?_
 refine ao ?_
 refine ar ?_
 refine ah ?_
 refine ap (am rfl) rfl rfl ?_
 refine ap (dS Try.underlying9 rfl) rfl rfl ?_
 refine ap (ai rfl) rfl rfl ?_
 refine ap (ai rfl) rfl rfl ?_
 refine ae ?_
 refine ao ?_
 refine aV ?_
 refine aY (ts := [4, 5]) rfl rfl rfl (fun w hw => ?_)
 exact ⟨(A1, c1), rfl, (Hp.bldc hp rfl rfl (hw.weak (.cons_cons _ (.cons_cons _ .slnil)) (fun s hs => hs))).uc⟩

theorem c_bld_Len (b : Nat) (A : Option Addr) (c : Nat) (s : bg) : RC Try.prog 145 #[.pointer (some ⟨b, 0, none⟩)] [Ch.bld 200 5 b A c s] (α := Unit) (fun _ => .int .i64 s.length) (fun _ => []) := by
 refine bZ (args := [.pointer (some ⟨b, 0, none⟩)]) 8 Try.func145 rfl rfl rfl (fun w0 => ?_)
 refine ar ?_
 refine ah ?_
 refine ap (ai rfl) rfl rfl ?_
 refine ae ?_
 refine ao ?_
 refine ar ?_
 refine ah ?_
 refine ap (am rfl) rfl rfl ?_
 refine ap (cH rfl) rfl rfl ?_
 refine ap (aF fD rfl) rfl rfl ?_
 refine ap (y_load ty_54 rfl (fun w hw => bld_cell (hw.sh _ (List.mem_of_getElem? (i := 0) rfl)))) rfl rfl ?_
 refine ap (bI Try.underlying54 rfl) rfl rfl ?_
 refine ap (ai rfl) rfl rfl ?_
 refine ae ?_
 refine ao ?_
 refine aV ?_
 refine aY (ts := [2]) rfl rfl rfl (fun w hw => ?_)
 exact ⟨(), rfl, hw.base, hw.toNews⟩

set_option maxRecDepth 100000 in
theorem c_bld_String (b : Nat) (A : Option Addr) (c : Nat) (s : bg) : UC Try.prog 146 #[.pointer (some ⟨b, 0, none⟩)] [] (Ch.bld 200 5 b A c s) (α := Unit) (fun _ => .string (ba s)) (fun _ => Ch.nil0) := by
 refine gE (args := [.pointer (some ⟨b, 0, none⟩)]) 14 Try.func146 rfl rfl rfl (fun w0 => ?_)
 refine ar ?_
 refine ah ?_
 refine ap (ai rfl) rfl rfl ?_
 refine ae ?_
 refine ao ?_
 refine ar ?_
 refine w_bldo fun p hp => ?_
 refine w_sf ?_
 refine dX 12 rfl mixed ?_
 refine aX (i := 0) rfl aa (am rfl) aD aD rfl (aj av) (by kernel_rfl) rfl ?_
 refine aX (i := 1) rfl aa (cH rfl) aD aD rfl (aj av) (by kernel_rfl) rfl ?_
 refine aX (i := 2) rfl aa (aF fD rfl) aD aD rfl (aj av) (by kernel_rfl) rfl ?_
 refine aX (i := 3) rfl aa (aG 0 ty_54 rfl rfl rfl) aD aD rfl (aj av) (by kernel_rfl) rfl ?_
 refine aX (i := 5) rfl aa (am rfl) aD aD rfl (aj av) (by kernel_rfl) rfl ?_
 refine aX (i := 6) rfl aa (cH rfl) aD aD rfl (aj av) (by kernel_rfl) rfl ?_
 refine aX (i := 7) rfl aa (aF fD rfl) aD aD rfl (aj av) (by kernel_rfl) rfl ?_
 refine aX (i := 8) rfl aa (aG 0 ty_54 rfl rfl rfl) aD aD rfl (aj av) (by kernel_rfl) rfl ?_
 refine aX (i := 9) rfl aa (bI Try.underlying54 rfl) aD aD rfl (aj av) (by kernel_rfl) rfl ?_
 refine dl (i := 4) rfl rfl rfl (fun _ _ _ => ax (by kernel_rfl)) (by kernel_rfl) rfl ?_
 refine o_usd (c := c) (s := s) Try.underlying224 rfl (fun w hw => hw.own _ (List.mem_of_getElem? (i := 1) rfl)) rfl (fun q hq => ?_)
 refine ae ?_
 refine d8 aD ?_
 refine dl (i := 10) rfl rfl rfl (fun _ _ _ => ax (by kernel_rfl)) (by kernel_rfl) rfl ?_
 refine o_us Try.underlying224 (by kernel_rfl) rfl rfl hq (.s .z) rfl ?_
 refine ae ?_
 refine d8 aD ?_
 refine aX (i := 11) rfl aa (ai rfl) aD aD rfl (aj av) (by kernel_rfl) rfl ?_
 refine dm (by kernel_rfl) ?_
 refine ao ?_
 refine aV ?_
 refine aY (ts := [2]) rfl rfl rfl (fun w hw => ?_)
 exact ⟨(), rfl, hw.uc0⟩

/-- No more octets than are held. -/
theorem eh {α : Type} (l : List α) (d : α) (k : Nat) (h : k < l.length) : l.take (k + 1) = l.take k ++ [l.getD k d] := by
  rw [List.take_succ_eq_append_getElem h]; simp [List.getD_eq_getElem?_getD, h]
theorem cE {α : Type} (l : List α) (d : α) (k : Nat) (h : k < l.length) : l.drop k = l.getD k d :: l.drop (k + 1) := by
  rw [List.drop_eq_getElem_cons h]; simp [List.getD_eq_getElem?_getD, h]
theorem gw (ls : List bg) (k : Nat) : (dY (ls.take k)).length ≤ (dY ls).length := by
  have e : dY ls = dY (ls.take k) ++ dY (ls.drop k) := by rw [← fe, List.take_append_drop]
  rw [e, List.length_append]; omega
theorem encn_one (s : bg) : dY [s] = UInt8.ofNat s.length :: s := by simp [dY]
theorem encn_ge : ∀ ls : List bg, ls.length ≤ (dY ls).length
  | [] => Nat.le_refl _
  | s :: r => by have := encn_ge r; rw [ga]; simp; omega

theorem c_name_Make (ls : List bg) (A : Option Addr) (ca : Nat) (hl : (dY ls).length ≤ 1000000000000) : RC Try.prog 104 #[.slice A ls.length ca] [Ch.rd A 1 ed ls] (α := Unit) (fun _ => .tuple #[.string (ba (e5 ls).1), .int .i64 (e5 ls).2]) (fun _ => []) := by
 refine bZ (args := [.slice A ls.length ca]) 38 Try.func104 rfl rfl rfl (fun w0 => ?_)
 have hge := encn_ge ls
 refine ar ?_
 refine ah ?_
 refine ap (ai rfl) rfl rfl ?_
 refine ap (ai rfl) rfl rfl ?_
 refine ae ?_
 refine ao ?_
 refine ar ?_
 refine ar ?_
 refine ah ?_
 refine ap (am rfl) rfl rfl ?_
 refine ap (bI Try.underlying105 rfl) rfl rfl ?_
 refine ap (am rfl) rfl rfl ?_
 refine ae ?_
 refine ao ?_
 refine bn ?_
 refine dd (σ := Nat) [2, 3, 5, 6, 12, 13, 14, 15, 16, 17, 18, 19, 20, 21] (fun k => k ≤ ls.length ∧ dw ls = dw (ls.drop k)) (fun k => ls.length - k) (fun k => [(12, .int .i64 k)]) (0) ?_ ⟨rfl, trivial⟩ (fun k hI => ?_)
 exact ⟨Nat.zero_le _, rfl⟩
 refine ar ?_
 refine ah ?_
 refine ap (cV rfl rfl) rfl rfl ?_
 refine aC (t := 13) rfl (fun h2_0 => ?_) (fun h2_0 => ?_)
 refine ae ?_
 refine ao ?_
 refine ar ?_
 refine aI rfl ?_
 refine bd ?_
 refine ao ?_
 refine ar ?_
 refine bn ?_
 refine ar ?_
 refine ah ?_
 refine ap (cj  Try.underlying105 cF rfl rfl (cD 0 rfl) rfl (by omega)) rfl rfl ?_
 refine ap (cR bB ([] : bg) cF rfl (cD 0 rfl) (by omega) rfl rfl) rfl rfl ?_
 refine ap (ai rfl) rfl rfl ?_
 refine ae ?_
 refine ao ?_
 refine ar ?_
 refine ah ?_
 refine ap (am rfl) rfl rfl ?_
 refine bR rfl ent_137 (fT _) rfl ?_
 refine ap (ai rfl) rfl rfl ?_
 refine ae ?_
 refine ao ?_
 refine ar ?_
 refine ah ?_
 refine ap (am rfl) rfl rfl ?_
 refine ap (db rfl rfl) rfl rfl ?_
 refine aC (t := 19) rfl (fun h5_1 => ?_) (fun h5_1 => ?_)
 refine ae ?_
 refine ao ?_
 refine aI rfl ?_
 refine ar ?_
 refine ah ?_
 refine ap (am rfl) rfl rfl ?_
 refine ap (ai rfl) rfl rfl ?_
 refine ap (ai rfl) rfl rfl ?_
 refine ae ?_
 refine ao ?_
 refine aV ?_
 refine aT ?_
 refine aB ?_
 refine bL ?_
 refine aT ?_
 refine aB ?_
 refine aY (ts := [2, 3]) rfl rfl rfl (fun w hw => ?_)
 have hk : k < ls.length := by omega
 have hdk := cE ls [] k hk
 have hf : dw ls = fg (ls.getD k []) := by rw [hI.2, hdk, dw, if_neg (by omega)]
 exact ⟨(), by rw [e5, if_pos (by omega), hf]; rfl, hw.base, hw.toNews⟩
 refine ae ?_
 refine ao ?_
 refine aN rfl ?_
 refine bd ?_
 refine bV ?_
 refine ao ?_
 refine ah ?_
 refine ap (bY rfl rfl (by omega) (by omega)) rfl rfl ?_
 refine ap (am rfl) rfl rfl ?_
 refine ae ?_
 have hk : k < ls.length := by omega
 have hdk := cE ls [] k hk
 refine cr (k + 1) ?_ ?_ ⟨rfl, trivial⟩ (by repeat (first | exact trivial | refine ⟨rfl, ?_⟩)) aD
 exact ⟨by omega, by rw [hI.2, hdk, dw, if_pos (by omega)]⟩
 omega
 refine ae ?_
 refine ao ?_
 refine ar ?_
 refine aN rfl ?_
 refine cz ?_
 refine br ?_
 refine bC ?_
 refine bK ?_
 refine ao ?_
 refine ar ?_
 have hz : dw ls = 0 := by rw [hI.2, List.drop_of_length_le (by omega)]; rfl
 refine ah ?_
 refine bu ty_200 rfl rfl (fun b1 => ?_)
 refine wl_heap (fun w h => h.bldn 5) ?_
 refine ae ?_
 refine ao ?_
 refine ar ?_
 refine ar ?_
 refine ah ?_
 refine ap (am rfl) rfl rfl ?_
 refine ap (bI Try.underlying105 rfl) rfl rfl ?_
 refine ap (am rfl) rfl rfl ?_
 refine ae ?_
 refine ao ?_
 refine bn ?_
 refine eF (σ := Nat × Option Addr × Nat) [9, 24, 25, 26, 27, 28, 29, 30, 31, 32, 33, 34] (fun q => q.1 ≤ ls.length) (fun q => ls.length - q.1) (fun q => [(24, .int .i64 q.1)]) (fun q => Ch.bld 200 5 b1 q.2.1 q.2.2 (dY (ls.take q.1))) ((0, none, 0)) ?_ ⟨rfl, trivial⟩ rfl (fun q hI => ?_)
 exact Nat.zero_le _
 obtain ⟨k, A3, c3⟩ := q
 dsimp only at hI ⊢
 have htl := gw ls k
 refine ar ?_
 refine ah ?_
 refine ap (cV rfl rfl) rfl rfl ?_
 refine aC (t := 25) rfl (fun h10_0 => ?_) (fun h10_0 => ?_)
 refine ae ?_
 refine ao ?_
 refine ar ?_
 refine aI rfl ?_
 refine bd ?_
 refine ao ?_
 refine ar ?_
 refine bn ?_
 refine ar ?_
 refine ah ?_
 refine ap (cj  Try.underlying105 cF rfl rfl (cD 0 rfl) rfl (by omega)) rfl rfl ?_
 refine ap (cR bB ([] : bg) cF rfl (cD 0 rfl) (by omega) rfl rfl) rfl rfl ?_
 refine ap (ai rfl) rfl rfl ?_
 refine ae ?_
 refine ao ?_
 refine ar ?_
 refine ah ?_
 refine ap (am rfl) rfl rfl ?_
 refine ap (dS Try.underlying9 rfl) rfl rfl ?_
 refine ap (y_convii Try.underlying3 Try.underlying5 rfl) rfl rfl ?_
 have hk : k < ls.length := by omega
 have hlk : 1 ≤ (ls.getD k []).length ∧ (ls.getD k []).length ≤ 63 := firstCk_zero.1 hz (ls.getD k []) (by rw [List.getD_eq_getElem?_getD, List.getElem?_eq_getElem hk]; exact List.getElem_mem hk)
 have hlk2 := hlk
 refine dx (t := 30) (.int .u8 ((UInt8.ofNat (ls.getD k []).length).toNat : Int)) rfl (congrArg _ (by rw [gu (by omega) (by omega), u8len hlk2.2])) ?_
 have htk := eh ls [] k hk
 have htl2 := gw ls (k + 1)
 rw [htk, fe, encn_one, List.length_append, List.length_cons] at htl2
 refine fp rfl ent_143 rfl (c_WriteByte _ _ _ _ _ (by omega)) (fun o => .z) (List.mem_of_getElem? (i := 0) rfl) (fun s hs => nomatch hs) (fun o1 => ?_)
 refine ae ?_
 refine ao ?_
 refine ah ?_
 refine ap (am rfl) rfl rfl ?_
 refine fp rfl ent_144 rfl (c_WriteString _ _ _ _ _ (by rw [List.length_append, List.length_singleton]; omega)) (fun o => .z) (List.mem_of_getElem? (i := 0) rfl) (fun s hs => nomatch hs) (fun o2 => ?_)
 refine ae ?_
 refine bV ?_
 refine ao ?_
 refine ah ?_
 refine ap (bY rfl rfl (by omega) (by omega)) rfl rfl ?_
 refine ap (am rfl) rfl rfl ?_
 refine ae ?_
 have hk : k < ls.length := by omega
 have htk := eh ls [] k hk
 refine cr ((k + 1, o2.1, o2.2)) ?_ ?_ ⟨rfl, trivial⟩ (by repeat (first | exact trivial | refine ⟨rfl, ?_⟩)) (fun w h => by show Hp _ _ (Ch.bld _ _ _ _ _ (dY (ls.take (k + 1))) :: _) _ _; rw [htk, fe, encn_one]; have h2 := h; rw [List.append_assoc] at h2; exact h2)
 show k + 1 ≤ ls.length
 omega
 show ls.length - (k + 1) < ls.length - k
 omega
 refine ae ?_
 refine ao ?_
 refine ar ?_
 refine aN rfl ?_
 refine cz ?_
 refine br ?_
 refine bC ?_
 refine bK ?_
 refine ao ?_
 refine ar ?_
 refine ar ?_
 refine ah ?_
 refine bi rfl ent_145 rfl (c_bld_Len _ _ _ _) (fun w hw => ak (ci 0 rfl hw) aO) ?_
 refine ap (eo rfl rfl) rfl rfl ?_
 refine aC (t := 36) rfl (fun h15_1 => ?_) (fun h15_1 => ?_)
 refine ae ?_
 refine ao ?_
 refine aI rfl ?_
 refine ar ?_
 refine ah ?_
 refine ap (ai rfl) rfl rfl ?_
 refine ap (ai rfl) rfl rfl ?_
 refine ae ?_
 refine ao ?_
 refine aV ?_
 refine aB ?_
 refine aY (ts := [2, 3]) rfl rfl rfl (fun w hw => ?_)
 have hk : k = ls.length := by omega
 rw [hk, List.take_length] at h15_1
 exact ⟨(), by rw [e5, if_neg (by omega), if_pos (by omega)]; rfl, hw.base, (hw.weak (List.nil_sublist _) (fun s hs => hs)).toNews⟩
 refine ae ?_
 refine ao ?_
 refine aN rfl ?_
 refine bd ?_
 refine ao ?_
 refine ar ?_
 refine ah ?_
 refine fp rfl ent_146 rfl (c_bld_String _ _ _ _) (fun o => .z) (List.mem_of_getElem? (i := 0) rfl) (fun s hs => nomatch hs) (fun o3 => ?_)
 refine ap (ai rfl) rfl rfl ?_
 refine ap (ai rfl) rfl rfl ?_
 refine ae ?_
 refine ao ?_
 refine aV ?_
 refine aY (ts := [2, 3]) rfl rfl rfl (fun w hw => ?_)
 have hk : k = ls.length := by omega
 subst hk
 rw [List.take_length] at h15_1 ⊢
 exact ⟨(), by rw [e5, if_neg (by omega), if_neg (by omega)]; rfl, hw.base, (hw.weak (List.nil_sublist _) (fun s hs => hs)).toNews⟩

theorem mapS_step (t : bg → bg) (l : List bg) (k : Nat) (h : k < l.length) : ((l.take k).map t ++ l.drop k).set k (t (l.getD k [])) = (l.take (k + 1)).map t ++ l.drop (k + 1) := by
  have e : l.getD k [] = l[k] := by simp [List.getD_eq_getElem?_getD, h]
  have hk : k - ((l.take k).map t).length = 0 := by simp; omega
  rw [List.set_append_right _ _ (by simp; omega), hk, List.drop_eq_getElem_cons h, List.set_cons_zero, e, List.take_succ_eq_append_getElem h, List.map_append]
  simp
theorem mapS_at (t : bg → bg) (l : List bg) (k : Nat) (h : k < l.length) : ((l.take k).map t ++ l.drop k).getD k [] = l.getD k [] := by
  simp [List.getD_eq_getElem?_getD, List.getElem?_append_right, Nat.min_eq_left (Nat.le_of_lt h)]
theorem dy (t : bg → bg) (l : List bg) (k : Nat) : ((l.take k).map t ++ l.drop k).length = l.length := by simp; omega
theorem iT (n : bg) (h : n.length ≤ 1000000000) : (bP n).length ≤ 254 ∧ (∀ s ∈ bP n, 1 ≤ s.length ∧ s.length ≤ 63) ∧ (dY ((bP n).map cN)).length ≤ 254 := by
  unfold bP
  by_cases hc : bj n = 0
  · rw [if_pos hc]
    obtain ⟨h1, h2⟩ := nameCk_zero.1 hc
    have := labs_len n
    refine ⟨by omega, eR n, ?_⟩
    rw [gT _ (eR n), dV, fH n h2]; exact h1
  · rw [if_neg hc]; exact ⟨by simp, nofun, by simp [dY]⟩

theorem fold_b {n : bg} {k : Nat} (hk : k < (bP n).length) (h : ∀ s ∈ bP n, 1 ≤ s.length ∧ s.length ≤ 63) : ((((bP n).take k).map cN ++ (bP n).drop k).getD k []).length ≤ 1000000000000 := by
  have e : (bP n).getD k [] = (bP n)[k] := by simp [List.getD_eq_getElem?_getD, hk]
  rw [mapS_at cN _ k hk, e]
  have := h _ (List.getElem_mem hk)
  omega

theorem c_name_Fold (n : bg) (hn : n.length ≤ 1000000000) : RC Try.prog 63 #[.string (ba n)] [] (α := Unit) (fun _ => .string (ba (bh n))) (fun _ => []) := by
 refine bZ (args := [.string (ba n)]) 29 Try.func63 rfl rfl rfl (fun w0 => ?_)
 refine ar ?_
 refine ah ?_
 refine ap (ai rfl) rfl rfl ?_
 refine ae ?_
 refine ao ?_
 refine ar ?_
 refine ah ?_
 refine ap (am rfl) rfl rfl ?_
 refine d9 rfl ent_84 rfl (fV _) (fun w hw => aO) (fun ⟨A0, c0⟩ => ?_)
 have hlb := iT n hn
 refine ap (ai rfl) rfl rfl ?_
 refine ae ?_
 refine ao ?_
 refine ar ?_
 refine ar ?_
 refine ah ?_
 refine ap (am rfl) rfl rfl ?_
 refine ap (bI Try.underlying105 rfl) rfl rfl ?_
 refine ap (am rfl) rfl rfl ?_
 refine ae ?_
 refine ao ?_
 refine bn ?_
 refine eF (σ := Nat) [3, 4, 5, 10, 12, 13, 14, 15, 16, 17, 18, 19, 20, 21, 22] (fun k => k ≤ (bP n).length) (fun k => (bP n).length - k) (fun k => [(12, .int .i64 k), (10, .slice A0 (((bP n).take k).map cN ++ (bP n).drop k).length c0), (3, .slice A0 (((bP n).take k).map cN ++ (bP n).drop k).length c0)]) (fun k => Ch.ls A0 c0 9 1 ed (((bP n).take k).map cN ++ (bP n).drop k)) (0) ?_ ⟨rfl, rfl, rfl, trivial⟩ rfl (fun k hI => ?_)
 exact Nat.zero_le _
 have hml := dy cN (bP n) k
 refine ar ?_
 refine ah ?_
 refine ap (cV rfl rfl) rfl rfl ?_
 refine aC (t := 13) rfl (fun h3_0 => ?_) (fun h3_0 => ?_)
 refine ae ?_
 refine ao ?_
 refine ar ?_
 refine aI rfl ?_
 refine bd ?_
 refine ao ?_
 refine ar ?_
 refine bn ?_
 refine ar ?_
 refine ah ?_
 refine ap (am rfl) rfl rfl ?_
 refine ap (cj  Try.underlying105 cF rfl rfl (dU 0 rfl) rfl (by rw [dy]; omega)) rfl rfl ?_
 refine ap (cR bB ([] : bg) cF rfl (dU 0 rfl) (by rw [dy]; omega) rfl rfl) rfl rfl ?_
 refine ap (ai rfl) rfl rfl ?_
 refine ap (ai rfl) rfl rfl ?_
 refine ae ?_
 refine ao ?_
 refine ah ?_
 refine ap (am rfl) rfl rfl ?_
 refine ap (am rfl) rfl rfl ?_
 refine ap (am rfl) rfl rfl ?_
 refine bR rfl ent_103 (gn _ (fold_b (by omega) hlb.2.1)) rfl ?_
 refine ap (cj  Try.underlying105 cF rfl rfl (dU 0 rfl) rfl (by rw [dy]; omega)) rfl rfl ?_
 refine eH bB ([] : bg) _ cF rfl rfl rfl .z rfl (by rw [dy]; omega) rfl rfl rfl ?_
 refine ae ?_
 refine bV ?_
 refine ao ?_
 refine ah ?_
 refine ap (bY rfl rfl (by omega) (by omega)) rfl rfl ?_
 refine ap (am rfl) rfl rfl ?_
 refine ae ?_
 have hk : k < (bP n).length := by omega
 refine cr (k + 1) ?_ ?_ ⟨rfl, lk rfl (by rw [dy, dy]), lk rfl (by rw [dy, dy]), trivial⟩ (by repeat (first | exact trivial | refine ⟨rfl, ?_⟩)) (fun w h => by rw [mapS_at cN (bP n) k hk, mapS_step cN (bP n) k hk] at h; exact h)
 omega
 omega
 refine ae ?_
 refine ao ?_
 refine ar ?_
 refine aN rfl ?_
 refine cz ?_
 refine br ?_
 refine bC ?_
 refine bK ?_
 refine ao ?_
 refine ar ?_
 refine ah ?_
 obtain rfl : k = (bP n).length := by omega
 refine ap (am rfl) rfl rfl ?_
 refine bi rfl ent_104 rfl (c_name_Make _ _ _ (by have := hlb.2.2; simp; omega)) (fun w hw => (ak (aK 0 rfl hw) aO)) ?_
 refine ap (am rfl) rfl rfl ?_
 refine ap (az rfl rfl) rfl rfl ?_
 refine ap (az rfl rfl) rfl rfl ?_
 refine ap (ai rfl) rfl rfl ?_
 refine ap (ai rfl) rfl rfl ?_
 refine ae ?_
 refine ao ?_
 refine ar ?_
 refine ah ?_
 refine ap (am rfl) rfl rfl ?_
 refine ap (ai rfl) rfl rfl ?_
 refine ae ?_
 refine ao ?_
 refine aV ?_
 refine aY (ts := [2]) rfl rfl rfl (fun w hw => ?_)
 exact ⟨(), by rw [← g3]; simp [eC], hw.base, (hw.weak (List.nil_sublist _) (fun s hs => hs)).toNews⟩

theorem fL (n : bg) (hn : n.length ≤ 1000000000) : em Try.prog 63 #[.string (ba n)] (.string (ba (bh n))) := rc_pure (c_name_Fold n hn)

end Go.Proofs.Ytnpdgmoeoidppaa

/- hash: the sums -/
namespace Go.Proofs.Ytnpdgmoeoidppaa
open Go.RowKit Go.Shelf
set_option linter.unusedVariables false
set_option linter.unusedSimpArgs false

theorem ent_63 : Enters Try.prog 63 := enters_of Try.func63 (by kernel_rfl) rfl
theorem cW : TyI Try.prog 3 false 1 8 (.int .i64 0) := TyI.mk' (by kernel_rfl) (fun _ => by kernel_rfl)

end Go.Proofs.Ytnpdgmoeoidppaa
