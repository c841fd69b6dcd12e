import Derived.Test.YtnpdgmoeoidppaaPaQe
import Derived.Test.YtnpdgmoeoidppaaProg
import Derived.KernelRfl
/- label, name: the contracts -/
namespace Go.Proofs.Ytnpdgmoeoidppaa
open Go.RowKit Go.Shelf
set_option linter.unusedVariables false
set_option linter.unusedSimpArgs false

theorem ent_132 : Enters Try.prog 132 := enters_of Try.func132 (by kernel_rfl) rfl
theorem ent_133 : Enters Try.prog 133 := enters_of Try.func133 (by kernel_rfl) rfl
theorem ent_141 : Enters Try.prog 141 := enters_of Try.func141 (by kernel_rfl) rfl
theorem ent_142 : Enters Try.prog 142 := enters_of Try.func142 (by kernel_rfl) rfl
theorem ent_158 : Enters Try.prog 158 := enters_of Try.func158 (by kernel_rfl) rfl
theorem ent_159 : Enters Try.prog 159 := enters_of Try.func159 (by kernel_rfl) rfl
theorem ent_56 : Enters Try.prog 56 := enters_of Try.func56 (by kernel_rfl) rfl
theorem ent_95 : Enters Try.prog 95 := enters_of Try.func95 (by kernel_rfl) rfl
theorem mixed : Try.prog.follows .mixedOrders = true := by kernel_rfl
theorem ty_105 : TyI Try.prog 105 false 1 24 (.slice none 0 0) := TyI.mk' (by kernel_rfl) (fun _ => by kernel_rfl)
theorem bE : TyI Try.prog 37 false 1 16 (.string ⟨#[]⟩) := TyI.mk' (by kernel_rfl) (fun _ => by kernel_rfl)
theorem ty_5 : TyI Try.prog 5 false 1 1 (.int .u8 0) := TyI.mk' (by kernel_rfl) (fun _ => by kernel_rfl)
theorem ty_9 : TyI Try.prog 9 false 1 16 (.string ⟨#[]⟩) := TyI.mk' (by kernel_rfl) (fun _ => by kernel_rfl)

theorem c_label_Check (l : aL) : cI Try.prog 137 #[.string (ba l)] (.int .i64 (eX l)) := by
 intro w0
 refine aX (ok0 := no) (S := []) (args := [.string (ba l)]) 12 Try.func137 rfl rfl rfl (by simp) (by simp) ?_
 refine ao ?_
 refine aa ?_
 refine ap (ah rfl) rfl rfl ?_
 refine ae ?_
 refine aj ?_
 refine ao ?_
 refine ao ?_
 refine aa ?_
 refine ap (ak rfl) rfl rfl ?_
 refine ap (y_lens Try.underlying9 rfl) rfl rfl ?_
 refine ap (ah rfl) rfl rfl ?_
 refine ae ?_
 refine aj ?_
 refine aS ?_
 refine ao ?_
 refine aa ?_
 refine ap (ak rfl) rfl rfl ?_
 refine ap (cH rfl rfl) rfl rfl ?_
 refine aD (t := 8) rfl (fun h2_1 => ?_) (fun h2_1 => ?_)
 refine ap (ah rfl) rfl rfl ?_
 refine ae ?_
 refine aj ?_
 refine ay rfl ?_
 refine ao ?_
 refine aa ?_
 refine ap (ah rfl) rfl rfl ?_
 refine ae ?_
 refine aj ?_
 refine aC ?_
 refine aU ?_
 refine aA ?_
 refine aJ (ts := [2]) rfl rfl rfl (fun w hw => ?_)
 exact ⟨congrArg _ (by show Value.int _ _ = _; unfold eX; congr 1; (repeat (first | rw [if_pos (by omega)] | rw [if_neg (by omega)]))), hw.base⟩
 refine ap (ah rfl) rfl rfl ?_
 refine ae ?_
 refine aj ?_
 refine av rfl ?_
 refine ao ?_
 refine aa ?_
 refine ap (ak rfl) rfl rfl ?_
 refine ap (y_gtr rfl rfl) rfl rfl ?_
 refine aD (t := 11) rfl (fun h4_1 => ?_) (fun h4_1 => ?_)
 refine ap (ah rfl) rfl rfl ?_
 refine ae ?_
 refine aj ?_
 refine ay rfl ?_
 refine ao ?_
 refine aa ?_
 refine ap (ah rfl) rfl rfl ?_
 refine ae ?_
 refine aj ?_
 refine aC ?_
 refine aU ?_
 refine aA ?_
 refine aJ (ts := [2]) rfl rfl rfl (fun w hw => ?_)
 exact ⟨congrArg _ (by show Value.int _ _ = _; unfold eX; congr 1; (repeat (first | rw [if_pos (by omega)] | rw [if_neg (by omega)]))), hw.base⟩
 refine ap (ah rfl) rfl rfl ?_
 refine ae ?_
 refine aj ?_
 refine av rfl ?_
 refine aG ?_
 refine bA ?_
 refine aj ?_
 refine ao ?_
 refine aa ?_
 refine ap (ah rfl) rfl rfl ?_
 refine ae ?_
 refine aj ?_
 refine aC ?_
 refine aJ (ts := [2]) rfl rfl rfl (fun w hw => ?_)
 exact ⟨congrArg _ (by show Value.int _ _ = _; unfold eX; congr 1; (repeat (first | rw [if_pos (by omega)] | rw [if_neg (by omega)]))), hw.base⟩

theorem c_label_Fold1 (c : UInt8) : cI Try.prog 141 #[.int .u8 c.toNat] (.int .u8 (lowB c).toNat) := by
 intro w0
 have hc := UInt8.toNat_lt c
 refine aX (ok0 := no) (S := []) (args := [.int .u8 c.toNat]) 13 Try.func141 rfl rfl rfl (by simp) (by simp) ?_
 refine ao ?_
 refine aa ?_
 refine ap (ah rfl) rfl rfl ?_
 refine ae ?_
 refine aj ?_
 refine ao ?_
 refine ao ?_
 refine aa ?_
 refine ap (ak rfl) rfl rfl ?_
 refine ap (y_geq rfl rfl) rfl rfl ?_
 refine aD (t := 4) rfl (fun h1_1 => ?_) (fun h1_1 => ?_)
 refine ap (ak rfl) rfl rfl ?_
 refine az rfl rfl ?_
 refine ap (ak rfl) rfl rfl ?_
 refine az rfl rfl ?_
 refine ap (y_leq rfl rfl) rfl rfl ?_
 refine aD (t := 7) rfl (fun h1_4 => ?_) (fun h1_4 => ?_)
 refine ap (aQ rfl rfl) rfl rfl ?_
 refine ae ?_
 refine aj ?_
 refine ay rfl ?_
 refine ao ?_
 refine aa ?_
 refine ap (ak rfl) rfl rfl ?_
 refine ap (y_sub rfl rfl) rfl rfl ?_
 refine ap (y_add rfl rfl) rfl rfl ?_
 refine ap (ah rfl) rfl rfl ?_
 refine ae ?_
 refine aj ?_
 refine aC ?_
 refine aA ?_
 refine aJ (ts := [2]) rfl rfl rfl (fun w hw => ?_)
 exact ⟨congrArg _ (by show Value.int _ _ = _; congr 1; rw [fE (by rw [fE (by omega) (by omega)]; omega) (by rw [fE (by omega) (by omega)]; omega), fE (by omega) (by omega)]; unfold lowB; rw [if_pos (by omega)]; simp; omega), hw.base⟩
 refine ap (aQ rfl rfl) rfl rfl ?_
 refine ae ?_
 refine aj ?_
 refine av rfl ?_
 refine aG ?_
 refine aj ?_
 refine ao ?_
 refine aa ?_
 refine ap (ak rfl) rfl rfl ?_
 refine ap (ah rfl) rfl rfl ?_
 refine ae ?_
 refine aj ?_
 refine aC ?_
 refine aJ (ts := [2]) rfl rfl rfl (fun w hw => ?_)
 exact ⟨congrArg _ (by show Value.int _ _ = _; congr 2; unfold lowB; rw [if_neg (by omega)]), hw.base⟩
 refine ap (ak rfl) rfl rfl ?_
 refine bg rfl rfl rfl rfl ?_
 refine bg rfl rfl rfl rfl ?_
 refine ap (a2 rfl rfl) rfl rfl ?_
 refine ae ?_
 refine aj ?_
 refine av rfl ?_
 refine aG ?_
 refine aj ?_
 refine ao ?_
 refine aa ?_
 refine ap (ak rfl) rfl rfl ?_
 refine ap (ah rfl) rfl rfl ?_
 refine ae ?_
 refine aj ?_
 refine aC ?_
 refine aJ (ts := [2]) rfl rfl rfl (fun w hw => ?_)
 exact ⟨congrArg _ (by show Value.int _ _ = _; congr 2; unfold lowB; rw [if_neg (by omega)]), hw.base⟩

theorem map_step (t : UInt8 → UInt8) (l : aL) (k : Nat) (h : k < l.length) : ((l.take k).map t ++ l.drop k).set k (t (l.getD k 0)) = (l.take (k + 1)).map t ++ l.drop (k + 1) := by
  have e : l.getD k 0 = l[k] := by simp [List.getD_eq_getElem?_getD, h]
  have hk : k - ((l.take k).map t).length = 0 := by simp; omega
  rw [List.set_append_right _ _ (by simp; omega), hk, List.drop_eq_getElem_cons h, List.set_cons_zero, e, List.take_succ_eq_append_getElem h, List.map_append]
  simp
theorem map_at (t : UInt8 → UInt8) (l : aL) (k : Nat) (h : k < l.length) : ((l.take k).map t ++ l.drop k).getD k 0 = l.getD k 0 := by
  simp [List.getD_eq_getElem?_getD, List.getElem?_append_right, Nat.min_eq_left (Nat.le_of_lt h)]
theorem dm (t : UInt8 → UInt8) (l : aL) (k : Nat) : ((l.take k).map t ++ l.drop k).length = l.length := by simp; omega

theorem c_label_each (l : aL) (f : Nat) (t : UInt8 → UInt8) (hf : ∀ c, cI Try.prog f #[.int .u8 c.toNat] (.int .u8 (t c).toNat)) (hen : Enters Try.prog f) (hl : l.length ≤ 1000000000000) : cI Try.prog 142 #[.string (ba l), .func (.func f) #[] #[]] (.string (ba (l.map t))) := by
 intro w0
 refine aX (ok0 := no) (S := []) (args := [.string (ba l), .func (.func f) #[] #[]]) 26 Try.func142 rfl rfl rfl (by simp) (by simp) ?_
 refine ao ?_
 refine aa ?_
 refine ap (ah rfl) rfl rfl ?_
 refine ae ?_
 refine aj ?_
 refine ao ?_
 refine aa ?_
 refine ap (ak rfl) rfl rfl ?_
 refine o_s2b Try.underlying9 Try.underlying54 Try.underlying5 (by omega) rfl rfl (fun As1 cs1 => ?_)
 refine ap (ah rfl) rfl rfl ?_
 refine ae ?_
 refine aj ?_
 refine ao ?_
 refine ao ?_
 refine aa ?_
 refine ap (ak rfl) rfl rfl ?_
 refine ap (cp Try.underlying54 rfl) rfl rfl ?_
 refine ap (ak rfl) rfl rfl ?_
 refine ae ?_
 refine aj ?_
 refine aS ?_
 refine eh (σ := Nat) [5, 6, 7, 10, 12, 13, 14, 15, 16, 17, 18, 19, 20, 21, 22, 23] (fun k => k ≤ l.length) (fun k => l.length - k) (fun k => [(12, .int .i64 k), (10, .slice As1 ((l.take k).map t ++ l.drop k).length cs1), (5, .slice As1 ((l.take k).map t ++ l.drop k).length cs1)]) (fun k => Ch.ls As1 cs1 5 1 encb ((l.take k).map t ++ l.drop k)) (0) ?_ ⟨rfl, rfl, rfl, trivial⟩ rfl (fun k hI => ?_)
 exact Nat.zero_le _
 have hml := dm t l k
 refine ao ?_
 refine aa ?_
 refine ap (cE rfl rfl) rfl rfl ?_
 refine aD (t := 13) rfl (fun h3_0 => ?_) (fun h3_0 => ?_)
 refine ae ?_
 refine aj ?_
 refine ao ?_
 refine ay rfl ?_
 refine aG ?_
 refine aj ?_
 refine ao ?_
 refine aS ?_
 refine ao ?_
 refine aa ?_
 refine ap (ak rfl) rfl rfl ?_
 refine ap (dB  Try.underlying54 ty_5 rfl rfl (rs_L 0 rfl) rfl (by rw [dm]; omega)) rfl rfl ?_
 refine ap (dU enc_b (0 : UInt8) ty_5 rfl (rs_L 0 rfl) (by rw [dm]; omega) rfl rfl) rfl rfl ?_
 refine ap (ah rfl) rfl rfl ?_
 refine ap (ah rfl) rfl rfl ?_
 refine ae ?_
 refine aj ?_
 refine aa ?_
 refine ap (ak rfl) rfl rfl ?_
 refine ap (ak rfl) rfl rfl ?_
 refine ap (ak rfl) rfl rfl ?_
 refine ap (ak rfl) rfl rfl ?_
 refine o_callvp rfl rfl rfl hen (hf _) rfl ?_
 refine ap (dB  Try.underlying54 ty_5 rfl rfl (rs_L 0 rfl) rfl (by rw [dm]; omega)) rfl rfl ?_
 refine o_stm0 enc_b (0 : UInt8) _ ty_5 rfl rfl rfl .z rfl (by rw [dm]; omega) rfl rfl rfl ?_
 refine ae ?_
 refine bA ?_
 refine aj ?_
 refine aa ?_
 refine ap (bQ rfl rfl (by omega) (by omega)) rfl rfl ?_
 refine ap (ak rfl) rfl rfl ?_
 refine ae ?_
 have hk : k < l.length := by omega
 refine bR (k + 1) ?_ ?_ ⟨rfl, lk rfl (by rw [dm, dm]), lk rfl (by rw [dm, dm]), trivial⟩ (by repeat (first | exact trivial | refine ⟨rfl, ?_⟩)) (fun w h => by rw [map_at t l k hk, map_step t l k hk] at h; exact h)
 omega
 omega
 refine ae ?_
 refine aj ?_
 refine ao ?_
 refine av rfl ?_
 refine ce ?_
 refine bf ?_
 refine a7 ?_
 refine bq ?_
 refine aj ?_
 refine ao ?_
 refine aa ?_
 refine ap (ak rfl) rfl rfl ?_
 refine ap (y_b2s Try.underlying54 Try.underlying9 Try.underlying5 rfl (rs_L 0 rfl)) rfl rfl ?_
 refine ap (ah rfl) rfl rfl ?_
 refine ae ?_
 refine aj ?_
 refine aC ?_
 refine aJ (ts := [4]) rfl rfl rfl (fun w hw => ?_)
 obtain rfl : k = l.length := by omega
 exact ⟨by simp [dT], hw.base⟩

theorem c_label_Fold (l : aL) (hl : l.length ≤ 1000000000000) : cI Try.prog 103 #[.string (ba l)] (.string (ba (dg l))) := by
 intro w0
 refine aX (ok0 := no) (S := []) (args := [.string (ba l)]) 7 Try.func103 rfl rfl rfl (by simp) (by simp) ?_
 refine ao ?_
 refine aa ?_
 refine ap (ah rfl) rfl rfl ?_
 refine ae ?_
 refine aj ?_
 refine ao ?_
 refine aa ?_
 refine ap (ah rfl) rfl rfl ?_
 refine ae ?_
 refine aj ?_
 refine ao ?_
 refine aa ?_
 refine ap (ak rfl) rfl rfl ?_
 refine ap (ak rfl) rfl rfl ?_
 refine aR rfl ent_142 (c_label_each _ 141 lowB c_label_Fold1 ent_141 hl) rfl ?_
 refine ap (ah rfl) rfl rfl ?_
 refine ae ?_
 refine aj ?_
 refine aC ?_
 refine aJ (ts := [2]) rfl rfl rfl (fun w hw => ?_)
 exact ⟨rfl, hw.base⟩

def cutL (n : aL) : aL := if b0 n then lab n else []
def cutR (n : aL) : aL := if b0 n then rst n else n
theorem cutR_lt {n : aL} (h : b0 n = true) : (cutR n).length < n.length := by unfold cutR; rw [if_pos h]; exact eF h
theorem cutR_ok {n : aL} (h : b0 n = true) : cutR n = rst n := if_pos h
theorem cutL_ok {n : aL} (h : b0 n = true) : cutL n = lab n := if_pos h
theorem cut_no {n : aL} (h : n = [] ∨ bt n 0 < 1 ∨ 63 < bt n 0 ∨ n.length ≤ bt n 0) : b0 n = false := by
  cases hq : b0 n with
  | false => rfl
  | true =>
    obtain ⟨h0, h1, h2, h3⟩ := cutOk_iff.1 hq
    rcases h with h | h
    · exact absurd h h0
    · omega

set_option maxRecDepth 100000 in
theorem e9 (n : aL) : cI Try.prog 95 #[.string (ba n)] (.tuple #[.string (ba (cutL n)), .string (ba (cutR n)), .bool (b0 n)]) := by
 intro w0
 refine aX (ok0 := no) (S := []) (args := [.string (ba n)]) 32 Try.func95 rfl rfl rfl (by simp) (by simp) ?_
 refine ao ?_
 refine aa ?_
 refine ap (ah rfl) rfl rfl ?_
 refine ap (ah rfl) rfl rfl ?_
 refine ap (ah rfl) rfl rfl ?_
 refine ae ?_
 refine aj ?_
 refine ao ?_
 refine ao ?_
 refine aa ?_
 refine ap (ak rfl) rfl rfl ?_
 refine ap (y_eqls rfl rfl) rfl rfl ?_
 refine aD (t := 7) rfl (fun h1_1 => ?_) (fun h1_1 => ?_)
 refine ae ?_
 refine aj ?_
 refine ay rfl ?_
 refine ao ?_
 refine aa ?_
 refine ap (ah rfl) rfl rfl ?_
 refine ap (ah rfl) rfl rfl ?_
 refine ap (ah rfl) rfl rfl ?_
 refine ae ?_
 refine aj ?_
 refine aC ?_
 refine aA ?_
 refine aJ (ts := [2, 3, 4]) rfl rfl rfl (fun w hw => ?_)
 subst h1_1
 exact ⟨rfl, hw.base⟩
 refine ae ?_
 refine aj ?_
 refine av rfl ?_
 refine aG ?_
 refine aj ?_
 refine ao ?_
 refine aa ?_
 refine ap (ak rfl) rfl rfl ?_
 have hs := len_pos h1_1
 have hb := bt_lt n 0
 refine ap (y_indexs (k := 0) Try.underlying37 rfl rfl rfl (by omega)) rfl rfl ?_
 refine ap (fN Try.underlying5 Try.underlying3 rfl (wrap_i64 (by omega) (by omega))) rfl rfl ?_
 refine ap (ah rfl) rfl rfl ?_
 refine ae ?_
 refine aj ?_
 refine ao ?_
 refine ao ?_
 refine aa ?_
 refine ap (ak rfl) rfl rfl ?_
 refine ap (cE rfl rfl) rfl rfl ?_
 refine aD (t := 12) rfl (fun h4_1 => ?_) (fun h4_1 => ?_)
 refine ap (ak rfl) rfl rfl ?_
 refine bg rfl rfl rfl rfl ?_
 refine bg rfl rfl rfl rfl ?_
 refine ap (aQ rfl rfl) rfl rfl ?_
 refine ap (ak rfl) rfl rfl ?_
 refine bg rfl rfl rfl rfl ?_
 refine bg rfl rfl rfl rfl ?_
 refine bg rfl rfl rfl rfl ?_
 refine bg rfl rfl rfl rfl ?_
 refine ap (aQ rfl rfl) rfl rfl ?_
 refine ae ?_
 refine aj ?_
 refine ay rfl ?_
 refine ao ?_
 refine aa ?_
 refine ap (ak rfl) rfl rfl ?_
 refine ap (ah rfl) rfl rfl ?_
 refine ap (ah rfl) rfl rfl ?_
 refine ap (ah rfl) rfl rfl ?_
 refine ae ?_
 refine aj ?_
 refine aC ?_
 refine aA ?_
 refine aJ (ts := [2, 3, 4]) rfl rfl rfl (fun w hw => ?_)
 have hc := cut_no (n := n) (by omega)
 exact ⟨by simp [dT, cutL, cutR, hc], hw.base⟩
 refine ap (ak rfl) rfl rfl ?_
 refine az rfl rfl ?_
 refine ap (ak rfl) rfl rfl ?_
 refine az rfl rfl ?_
 refine ap (y_gtr rfl rfl) rfl rfl ?_
 refine aD (t := 15) rfl (fun h4_4 => ?_) (fun h4_4 => ?_)
 refine ap (a2 rfl rfl) rfl rfl ?_
 refine ap (ak rfl) rfl rfl ?_
 refine bg rfl rfl rfl rfl ?_
 refine bg rfl rfl rfl rfl ?_
 refine bg rfl rfl rfl rfl ?_
 refine bg rfl rfl rfl rfl ?_
 refine ap (aQ rfl rfl) rfl rfl ?_
 refine ae ?_
 refine aj ?_
 refine ay rfl ?_
 refine ao ?_
 refine aa ?_
 refine ap (ak rfl) rfl rfl ?_
 refine ap (ah rfl) rfl rfl ?_
 refine ap (ah rfl) rfl rfl ?_
 refine ap (ah rfl) rfl rfl ?_
 refine ae ?_
 refine aj ?_
 refine aC ?_
 refine aA ?_
 refine aJ (ts := [2, 3, 4]) rfl rfl rfl (fun w hw => ?_)
 have hc := cut_no (n := n) (by omega)
 exact ⟨by simp [dT, cutL, cutR, hc], hw.base⟩
 refine ap (a2 rfl rfl) rfl rfl ?_
 refine ap (ak rfl) rfl rfl ?_
 refine az rfl rfl ?_
 refine ap (ak rfl) rfl rfl ?_
 refine az rfl rfl ?_
 refine ap (ak rfl) rfl rfl ?_
 refine az rfl rfl ?_
 refine ap (y_lens Try.underlying37 rfl) rfl rfl ?_
 refine az rfl rfl ?_
 refine ap (y_geq rfl rfl) rfl rfl ?_
 refine aD (t := 21) rfl (fun h4_10 => ?_) (fun h4_10 => ?_)
 refine ap (a2 rfl rfl) rfl rfl ?_
 refine ae ?_
 refine aj ?_
 refine ay rfl ?_
 refine ao ?_
 refine aa ?_
 refine ap (ak rfl) rfl rfl ?_
 refine ap (ah rfl) rfl rfl ?_
 refine ap (ah rfl) rfl rfl ?_
 refine ap (ah rfl) rfl rfl ?_
 refine ae ?_
 refine aj ?_
 refine aC ?_
 refine aA ?_
 refine aJ (ts := [2, 3, 4]) rfl rfl rfl (fun w hw => ?_)
 have hc := cut_no (n := n) (by omega)
 exact ⟨by simp [dT, cutL, cutR, hc], hw.base⟩
 refine ap (a2 rfl rfl) rfl rfl ?_
 refine ae ?_
 refine aj ?_
 refine av rfl ?_
 refine aG ?_
 refine aj ?_
 refine ao ?_
 refine dw 11 rfl mixed ?_
 refine au (i := 0) rfl ab (ak rfl) ar ar rfl (ai aq) (by kernel_rfl) rfl ?_
 refine au (i := 1) rfl ab (ak rfl) ar ar rfl (ai aq) (by kernel_rfl) rfl ?_
 refine au (i := 2) rfl ab (bQ rfl rfl (by omega) (by omega)) ar ar rfl (ai aq) (by kernel_rfl) rfl ?_
 refine au (i := 3) rfl ab (y_slices (m := 1) (n := 1 + bt n 0) Try.underlying37 rfl rfl rfl rfl (by omega) (by omega) (by omega)) ar ar rfl (ai aq) (by kernel_rfl) rfl ?_
 refine au (i := 4) rfl ab (ak rfl) ar ar rfl (ai aq) (by kernel_rfl) rfl ?_
 refine au (i := 5) rfl ab (ak rfl) ar ar rfl (ai aq) (by kernel_rfl) rfl ?_
 refine au (i := 6) rfl ab (bQ rfl rfl (by omega) (by omega)) ar ar rfl (ai aq) (by kernel_rfl) rfl ?_
 refine au (i := 7) rfl ab (y_slices_lo (m := 1 + bt n 0) Try.underlying37 rfl rfl (by omega) (by omega)) ar ar rfl (ai aq) (by kernel_rfl) rfl ?_
 refine au (i := 8) rfl ab (ah rfl) ar ar rfl (ai aq) (by kernel_rfl) rfl ?_
 refine au (i := 9) rfl ab (ah rfl) ar ar rfl (ai aq) (by kernel_rfl) rfl ?_
 refine au (i := 10) rfl ab (ah rfl) ar ar rfl (ai aq) (by kernel_rfl) rfl ?_
 refine cj (by kernel_rfl) ?_
 refine aj ?_
 refine aC ?_
 refine aJ (ts := [2, 3, 4]) rfl rfl rfl (fun w hw => ?_)
 have hc : b0 n = true := cutOk_iff.2 ⟨h1_1, by omega, by omega, by omega⟩
 exact ⟨by simp [dT, cutL, cutR, hc, lab, rst], hw.base⟩

theorem fG (n : aL) : cI Try.prog 56 #[.string (ba n)] (.int .i64 (bj n)) := by
 intro w0
 refine aX (ok0 := no) (S := []) (args := [.string (ba n)]) 20 Try.func56 rfl rfl rfl (by simp) (by simp) ?_
 refine ao ?_
 refine aa ?_
 refine ap (ah rfl) rfl rfl ?_
 refine ae ?_
 refine aj ?_
 refine ao ?_
 refine ao ?_
 refine aa ?_
 refine ap (ak rfl) rfl rfl ?_
 refine ap (y_lens Try.underlying37 rfl) rfl rfl ?_
 refine ap (y_gtr rfl rfl) rfl rfl ?_
 refine aD (t := 8) rfl (fun h1_2 => ?_) (fun h1_2 => ?_)
 refine ae ?_
 refine aj ?_
 refine ay rfl ?_
 refine ao ?_
 refine aa ?_
 refine ap (ah rfl) rfl rfl ?_
 refine ae ?_
 refine aj ?_
 refine aC ?_
 refine aA ?_
 refine aJ (ts := [2]) rfl rfl rfl (fun w hw => ?_)
 exact ⟨by simp [dT, bj, show 254 < n.length by omega], hw.base⟩
 refine ae ?_
 refine aj ?_
 refine av rfl ?_
 refine aG ?_
 refine aj ?_
 refine ao ?_
 refine aS ?_
 refine dI (σ := aL) [0, 2, 3, 4, 5, 9, 10, 11, 12, 13, 14, 15, 16, 17, 18, 19] (fun r => okN n = okN r) (fun r => r.length) (fun r => [(0, .string (ba r))]) (n) ?_ ⟨rfl, trivial⟩ (fun r hI => ?_)
 rfl
 refine ao ?_
 refine ao ?_
 refine aa ?_
 refine ap (ak rfl) rfl rfl ?_
 refine ap (y_neqs rfl rfl) rfl rfl ?_
 refine aD (t := 10) rfl (fun h3_1 => ?_) (fun h3_1 => ?_)
 refine ae ?_
 refine aj ?_
 refine ay rfl ?_
 refine aG ?_
 refine aj ?_
 refine aS ?_
 refine ao ?_
 refine aa ?_
 refine ap (ak rfl) rfl rfl ?_
 refine aR rfl ent_95 (e9 _) rfl ?_
 refine ap (ak rfl) rfl rfl ?_
 refine ap (aw rfl rfl) rfl rfl ?_
 refine ap (aw rfl rfl) rfl rfl ?_
 refine ap (aw rfl rfl) rfl rfl ?_
 refine bp (t := 16) rfl (fun h4_5 => ?_) (fun h4_5 => ?_)
 refine ap (ah rfl) rfl rfl ?_
 refine ap (ah rfl) rfl rfl ?_
 refine ap (ah rfl) rfl rfl ?_
 refine ae ?_
 refine aj ?_
 refine ao ?_
 refine ao ?_
 refine aa ?_
 refine ap (ak rfl) rfl rfl ?_
 refine ap (bG rfl) rfl rfl ?_
 refine ae ?_
 refine aj ?_
 refine av rfl ?_
 refine aG ?_
 refine aj ?_
 refine aa ?_
 refine ap (ak rfl) rfl rfl ?_
 refine ap (ah rfl) rfl rfl ?_
 refine ae ?_
 refine bA ?_
 refine bR (cutR r) ?_ ?_ ⟨rfl, trivial⟩ (by repeat (first | exact trivial | refine ⟨rfl, ?_⟩)) ar
 have hc := h4_5
 rw [hI, okN_eq r, hc, cutR_ok hc]; simp [h3_1]
 have hc := h4_5
 exact cutR_lt hc
 refine ap (ah rfl) rfl rfl ?_
 refine ap (ah rfl) rfl rfl ?_
 refine ap (ah rfl) rfl rfl ?_
 refine ae ?_
 refine aj ?_
 refine ao ?_
 refine ao ?_
 refine aa ?_
 refine ap (ak rfl) rfl rfl ?_
 refine ap (bG rfl) rfl rfl ?_
 refine ae ?_
 refine aj ?_
 refine ay rfl ?_
 refine ao ?_
 refine aa ?_
 refine ap (ah rfl) rfl rfl ?_
 refine ae ?_
 refine aj ?_
 refine aC ?_
 refine aA ?_
 refine aU ?_
 refine bH ?_
 refine aU ?_
 refine aA ?_
 refine aJ (ts := [2]) rfl rfl rfl (fun w hw => ?_)
 have hc := h4_5
 have ho : okN n = false := by rw [hI, okN_eq, hc]; simp [h3_1]
 exact ⟨by simp [dT, bj, show ¬ 254 < n.length by omega, ho], hw.base⟩
 refine ae ?_
 refine aj ?_
 refine av rfl ?_
 refine ce ?_
 refine bf ?_
 refine a7 ?_
 refine bq ?_
 refine aj ?_
 refine ao ?_
 refine aa ?_
 refine ap (ah rfl) rfl rfl ?_
 refine ae ?_
 refine aj ?_
 refine aC ?_
 refine aJ (ts := [2]) rfl rfl rfl (fun w hw => ?_)
 have ho : okN n = true := by rw [hI, show r = [] by simpa using h3_1]; rfl
 exact ⟨by simp [dT, bj, show ¬ 254 < n.length by omega, ho], hw.base⟩

theorem c_name_each (n : aL) : RC Try.prog 133 #[.string (ba n)] [] (α := Nat) (fun b => .func (.func 159) #[] #[.pointer (some ⟨b, 0, none⟩)]) (fun b => [Ch.row b [.string (ba n)] 37]) := by
 refine a6 (args := [.string (ba n)]) 4 Try.func133 rfl rfl rfl (fun w0 => ?_)
 refine ao ?_
 refine aa ?_
 refine bx rfl rfl rfl (fun b1 => ?_)
 refine ap (ah rfl) rfl rfl ?_
 refine ae ?_
 refine aj ?_
 refine ao ?_
 refine aa ?_
 refine ap (cO rfl rfl) rfl rfl ?_
 refine ap (ah rfl) rfl rfl ?_
 refine ae ?_
 refine aj ?_
 refine aC ?_
 refine aJ (ts := [2]) rfl rfl rfl (fun w hw => ?_)
 exact ⟨b1, rfl, hw.base, (hw.weak (.cons_cons _ .slnil) (fun s hs => hs)).toNews⟩

theorem c_name_each1 (n : aL) (b : Nat) : Iter Try.prog 159 [.pointer (some ⟨b, 0, none⟩)] [Ch.row b [.string (ba n)] 37] dy (dE n) := by
 refine iter_of_W 24 Try.func159 rfl rfl rfl (fun lr σ I Ix C Sc hy g0 hg0 w0 => ?_)
 refine ao ?_
 refine aa ?_
 refine ap (bd 0 bE rfl rfl rfl) rfl rfl ?_
 refine aR rfl ent_95 (e9 _) rfl ?_
 refine ap (ak rfl) rfl rfl ?_
 refine ap (aw rfl rfl) rfl rfl ?_
 refine ap (aw rfl rfl) rfl rfl ?_
 refine ap (aw rfl rfl) rfl rfl ?_
 refine ap (ah rfl) rfl rfl ?_
 refine ap (ah rfl) rfl rfl ?_
 refine ap (ah rfl) rfl rfl ?_
 refine ae ?_
 refine aj ?_
 refine aS ?_
 refine eh (σ := List aL × aL × σ) [3, 4, 5, 12, 13, 14, 15, 16, 17, 18, 19, 20, 21, 22, 23] (fun q => dE n = q.1 ++ dE q.2.1 ∧ I q.1 q.2.2) (fun q => q.2.1.length) (fun q => [(3, .string (ba (cutL q.2.1))), (4, .string (ba (cutR q.2.1))), (5, .bool (b0 q.2.1))]) (fun q => C q.2.2) (([], n, g0)) ?_ ⟨rfl, rfl, rfl, trivial⟩ rfl (fun q hI => ?_)
 exact ⟨rfl, hg0⟩
 obtain ⟨pre, r, g⟩ := q
 obtain ⟨hxs, hI⟩ := hI
 dsimp only at hxs hI ⊢
 refine ao ?_
 refine ao ?_
 refine aa ?_
 refine ap (ak rfl) rfl rfl ?_
 refine bp (t := 12) rfl (fun h1_0 => ?_) (fun h1_0 => ?_)
 have hx2 : dE n = pre ++ cutL r :: dE (rst r) := by rw [hxs, eL r, if_pos h1_0, cutL_ok h1_0]
 refine ap (ak rfl) rfl rfl ?_
 refine az rfl rfl ?_
 refine ap (ak rfl) rfl rfl ?_
 refine az rfl rfl ?_
 refine ap (ak rfl) rfl rfl ?_
 refine az rfl rfl ?_
 refine fC rfl rfl (hy pre (cutL r) _ g hx2 hI) (fun _ => .z) (fun s hs => List.mem_append_right _ hs) rfl (fun g' hT => ?_) (fun g' hF => ?_)
 refine ap (aQ rfl rfl) rfl rfl ?_
 refine ae ?_
 refine aj ?_
 refine ay rfl ?_
 refine aG ?_
 refine aj ?_
 refine ao ?_
 refine aS ?_
 refine aG ?_
 refine bA ?_
 refine aj ?_
 refine aa ?_
 refine ap (ak rfl) rfl rfl ?_
 refine aR rfl ent_95 (e9 _) rfl ?_
 refine ap (ak rfl) rfl rfl ?_
 refine ap (aw rfl rfl) rfl rfl ?_
 refine ap (aw rfl rfl) rfl rfl ?_
 refine ap (aw rfl rfl) rfl rfl ?_
 refine ap (ah rfl) rfl rfl ?_
 refine ap (ah rfl) rfl rfl ?_
 refine ap (ah rfl) rfl rfl ?_
 refine ae ?_
 refine bR ((pre ++ [cutL r], cutR r, g')) ?_ ?_ ⟨rfl, rfl, rfl, trivial⟩ (by repeat (first | exact trivial | refine ⟨rfl, ?_⟩)) ar
 exact ⟨by rw [hx2, cutR_ok h1_0]; simp, hT⟩
 exact cutR_lt h1_0
 refine ap (aQ rfl rfl) rfl rfl ?_
 refine ae ?_
 refine aj ?_
 refine av rfl ?_
 refine ce ?_
 refine bf ?_
 refine a7 ?_
 refine bq ?_
 refine fM (ts := []) rfl rfl rfl (fun w hw => ?_)
 exact dZ _ (.inr ⟨_, dE (rst r), by rw [hx2]; simp, hF⟩) hw
 refine ap (ak rfl) rfl rfl ?_
 refine bg rfl rfl rfl rfl ?_
 refine bg rfl rfl rfl rfl ?_
 refine bg rfl rfl rfl rfl ?_
 refine ap (a2 rfl rfl) rfl rfl ?_
 refine ae ?_
 refine aj ?_
 refine av rfl ?_
 refine ce ?_
 refine bf ?_
 refine a7 ?_
 refine bq ?_
 refine fM (ts := []) rfl rfl rfl (fun w hw => ?_)
 have hr : dE r = [] := by rw [eL, if_neg (by rw [h1_0]; simp)]
 exact dZ _ (.inl (by rw [hxs, hr, List.append_nil]; exact hI)) hw

theorem c_AppendSeq_s (xs : List aL) (gf : Nat) (lb : List Value) (Sx : List Ch) (hit : Iter Try.prog gf lb Sx dy xs) (hen : Enters Try.prog gf) (hl : xs.length ≤ 1000000000000) : RC Try.prog 158 #[.slice none 0 0, .func (.func gf) #[] lb.toArray] Sx (α := Option Addr × Nat) (fun p => .slice p.1 xs.length p.2) (fun p => [Ch.ls p.1 p.2 9 1 dy xs]) := by
 refine fy (args := [.slice none 0 0, .func (.func gf) #[] lb.toArray]) 13 Try.func158 rfl rfl rfl (fun w0 => ?_)
 refine ao ?_
 refine aa ?_
 refine bx rfl rfl rfl (fun b1 => ?_)
 refine ap (ah rfl) rfl rfl ?_
 refine ae ?_
 refine aj ?_
 refine ao ?_
 refine ao ?_
 refine aa ?_
 refine ap (ak rfl) rfl rfl ?_
 refine ae ?_
 refine aj ?_
 refine aS ?_
 refine cK (fun w h => h.nilsl 9 1) ?_
 refine w_range (σ := List aL × Option Addr × Nat) (fun pre g => g.1 = pre) (fun c pre g => False) (fun g => [Ch.ls g.2.1 g.2.2 9 1 dy g.1, Ch.row b1 [.slice g.2.1 g.1.length g.2.2] 105]) (([], none, 0)) rfl rfl hen (hit) (fun s hs => hs) rfl (fun _ => rfl) (rfl) rfl (fun pre e post g hxs hI lr D r hr okb wb => ?_) (fun g D0 hI => ?_) (fun c pre post g D0 hxs hI => ?_)
 obtain ⟨q, A, c⟩ := g
 dsimp only at hI ⊢
 subst hI
 refine aa ?_
 refine ap (ah rfl) rfl rfl ?_
 refine ae ?_
 refine eK rfl hr .z ?_
 refine aS ?_
 refine aa ?_
 have hql : q.length < xs.length := by rw [hxs]; simp
 refine ap (aK 3 ty_105 rfl rfl rfl) rfl rfl ?_
 refine ap (ak rfl) rfl rfl ?_
 refine el (vs := [_]) ([_] : List (aL)) dx Try.underlying105 ty_9 rfl rfl rfl rfl rfl rfl (fun As2 => ?_)
 refine eD (enc := dy) (sz := 1) _ Try.underlying105 ty_9 rfl rfl rfl (fun A c => (.s (.s (.s (.z))))) (src_L 0 Try.underlying105 rfl) (by simp only [List.length_cons, List.length_nil, Nat.zero_add]; omega) (by simp only [List.length_cons, List.length_nil, Nat.zero_add]; omega) rfl (fun A2 c2 => ?_)
 refine aH ty_105 rfl rfl rfl (.s (.s (.s (.s (.z))))) rfl rfl rfl rfl ?_
 refine ae ?_
 refine bA ?_
 refine e8 ((q ++ [e], A2, c2)) ?_ (bU 1)
 rfl
 obtain ⟨q, A, c⟩ := g
 dsimp only at hI ⊢
 subst hI
 refine bA ?_
 refine aj ?_
 refine ao ?_
 refine aa ?_
 refine ap (aK 2 ty_105 rfl rfl rfl) rfl rfl ?_
 refine ap (ah rfl) rfl rfl ?_
 refine ae ?_
 refine aj ?_
 refine aC ?_
 refine dV ?_
 refine dF .z ?_
 refine da (rs := [.tmp 4]) rfl (co rfl bz) (fun w hw => ?_)
 exact ⟨(A, c), rfl, hw.base, (hw.weak (.cons _ (.cons_cons _ (.cons _ .slnil))) (fun s hs => hs)).toNews⟩
 exact hI.elim

theorem c_Collect_s (xs : List aL) (gf : Nat) (lb : List Value) (Sx : List Ch) (hit : Iter Try.prog gf lb Sx dy xs) (hen : Enters Try.prog gf) (hl : xs.length ≤ 1000000000000) : RC Try.prog 132 #[.func (.func gf) #[] lb.toArray] Sx (α := Option Addr × Nat) (fun p => .slice p.1 xs.length p.2) (fun p => [Ch.ls p.1 p.2 9 1 dy xs]) := by
 refine a6 (args := [.func (.func gf) #[] lb.toArray]) 5 Try.func132 rfl rfl rfl (fun w0 => ?_)
 refine ao ?_
 refine aa ?_
 refine ap (ah rfl) rfl rfl ?_
 refine ae ?_
 refine aj ?_
 refine ao ?_
 refine aa ?_
 refine ap (ak rfl) rfl rfl ?_
 refine bF rfl ent_158 rfl (c_AppendSeq_s xs gf lb Sx hit hen hl) (fun w hw => hw.rd) (fun ⟨A0, c0⟩ => ?_)
 refine ap (ah rfl) rfl rfl ?_
 refine ae ?_
 refine aj ?_
 refine aC ?_
 refine aJ (ts := [2]) rfl rfl rfl (fun w hw => ?_)
 exact ⟨(A0, c0), rfl, hw.base, (hw.weak (.cons_cons _ .slnil) (fun s hs => hs)).toNews⟩

theorem c_name_Labels (n : aL) : RC Try.prog 84 #[.string (ba n)] [] (α := Option Addr × Nat) (fun p => .slice p.1 (bL n).length p.2) (fun p => [Ch.ls p.1 p.2 9 1 dy (bL n)]) := by
 refine a6 (args := [.string (ba n)]) 9 Try.func84 rfl rfl rfl (fun w0 => ?_)
 refine ao ?_
 refine aa ?_
 refine ap (ah rfl) rfl rfl ?_
 refine ae ?_
 refine aj ?_
 refine ao ?_
 refine ao ?_
 refine aa ?_
 refine ap (ak rfl) rfl rfl ?_
 refine aR rfl ent_56 (fG _) rfl ?_
 refine ap (cQ rfl rfl) rfl rfl ?_
 refine aD (t := 5) rfl (fun h1_2 => ?_) (fun h1_2 => ?_)
 refine ae ?_
 refine aj ?_
 refine ay rfl ?_
 refine ao ?_
 refine aa ?_
 refine ap (ah rfl) rfl rfl ?_
 refine ae ?_
 refine aj ?_
 refine aC ?_
 refine aA ?_
 refine aJ (ts := [2]) rfl rfl rfl (fun w hw => ?_)
 have hl : bL n = [] := if_neg (by omega)
 rw [hl]
 exact ⟨(none, 0), rfl, hw.base, (hw.nilsl 9 1).toNews⟩
 refine ae ?_
 refine aj ?_
 refine av rfl ?_
 refine aG ?_
 refine aj ?_
 refine ao ?_
 refine aa ?_
 refine ap (ak rfl) rfl rfl ?_
 refine bF rfl ent_133 rfl (c_name_each _) (fun w hw => aY) (fun o0 => ?_)
 refine bD (fun w h => h.freeze) ?_
 have hck : bj n = 0 := by omega
 have hnl := nameCk_zero.1 hck
 have hll := labs_len n
 refine bF rfl ent_132 rfl (c_Collect_s (dE n) 159 [.pointer (some ⟨o0, 0, none⟩)] [Ch.row o0 [.string (ba n)] 37] (c_name_each1 n _) ent_159 (by omega)) (fun w hw => (aN (cL 0 rfl hw) aY)) (fun ⟨A1, c1⟩ => ?_)
 refine ap (ah rfl) rfl rfl ?_
 refine ae ?_
 refine aj ?_
 refine aC ?_
 refine aJ (ts := [2]) rfl rfl rfl (fun w hw => ?_)
 have hl : bL n = dE n := if_pos hck
 rw [hl]
 exact ⟨(A1, c1), rfl, hw.base, hw.toNews⟩
end Go.Proofs.Ytnpdgmoeoidppaa

/- strings.Builder, name.Make, name.Fold -/
namespace Go.Proofs.Ytnpdgmoeoidppaa
open Go.RowKit Go.Shelf
set_option linter.unusedVariables false
set_option linter.unusedSimpArgs false

theorem ent_103 : Enters Try.prog 103 := enters_of Try.func103 (by kernel_rfl) rfl
theorem ent_104 : Enters Try.prog 104 := enters_of Try.func104 (by kernel_rfl) rfl
theorem ent_137 : Enters Try.prog 137 := enters_of Try.func137 (by kernel_rfl) rfl
theorem ent_143 : Enters Try.prog 143 := enters_of Try.func143 (by kernel_rfl) rfl
theorem ent_144 : Enters Try.prog 144 := enters_of Try.func144 (by kernel_rfl) rfl
theorem ent_145 : Enters Try.prog 145 := enters_of Try.func145 (by kernel_rfl) rfl
theorem ent_146 : Enters Try.prog 146 := enters_of Try.func146 (by kernel_rfl) rfl
theorem ent_162 : Enters Try.prog 162 := enters_of Try.func162 (by kernel_rfl) rfl
theorem ent_84 : Enters Try.prog 84 := enters_of Try.func84 (by kernel_rfl) rfl
theorem fv : FA Try.prog 200 0 0 := fun b o w => by kernel_rfl
theorem dv : FA Try.prog 200 1 1 := fun b o w => by kernel_rfl
theorem ty_198 : TyI Try.prog 198 false 1 8 (.pointer none) := TyI.mk' (by kernel_rfl) (fun _ => by kernel_rfl)
theorem ty_200 : TyI Try.prog 200 true 2 32 (.agg #[.pointer none, .slice none 0 0]) := TyI.mk' (by kernel_rfl) (fun _ => by kernel_rfl)
theorem ty_54 : TyI Try.prog 54 false 1 24 (.slice none 0 0) := TyI.mk' (by kernel_rfl) (fun _ => by kernel_rfl)

theorem c_copyCheck (b : Nat) (A : Option Addr) (c : Nat) (s : aL) : UC Try.prog 162 #[.pointer (some ⟨b, 0, none⟩)] [] (Ch.bld 200 5 b A c s) (α := Unit) (fun _ => .tuple #[]) (fun _ => Ch.bld 200 5 b A c s) := by
 refine dN (args := [.pointer (some ⟨b, 0, none⟩)]) 20 Try.func162 rfl rfl rfl (fun w0 => ?_)
 refine w_bldo fun p hp => ?_
 rcases hp with rfl | rfl
 refine ao ?_
 refine aa ?_
 refine ap (ak rfl) rfl rfl ?_
 refine ap (aO rfl) rfl rfl ?_
 refine ap (aB fv rfl) rfl rfl ?_
 refine ap (aK 0 ty_198 rfl rfl rfl) rfl rfl ?_
 refine ap (eB Try.underlying198 rfl rfl) rfl rfl ?_
 refine bv (t := 6) (.bool true) rfl (congrArg Value.bool rfl) ?_
 refine ae ?_
 refine aj ?_
 refine ay rfl ?_
 refine aa ?_
 refine ap (ak rfl) rfl rfl ?_
 refine ap (ak rfl) rfl rfl ?_
 refine ap (y_tou (n := 2) Try.underlying198 Try.underlying234 ty_200 rfl (by omega) rfl (shape_rown 0 rfl rfl)) rfl rfl ?_
 refine o_ext rfl (fun w => by rw [run_callFunc_extern Try.func175 (by kernel_rfl) (by kernel_rfl) (by kernel_rfl) (e := Extern.AbiNoEscape.same) (by kernel_rfl), Lib.run_noEscape]; rfl) rfl ?_
 refine ap (y_fromu (n := 2) Try.underlying234 Try.underlying198 ty_200 (by kernel_rfl) rfl (shape_rown 0 rfl rfl)) rfl rfl ?_
 refine ap (aO rfl) rfl rfl ?_
 refine ap (aB fv rfl) rfl rfl ?_
 refine aH ty_198 rfl rfl rfl .z rfl rfl rfl rfl ?_
 refine ae ?_
 refine fM (ts := []) rfl rfl rfl (fun w hw => ?_)
 exact ⟨(), rfl, (Hp.bldc (.inr rfl) rfl rfl hw).uc⟩
 refine ao ?_
 refine aa ?_
 refine ap (ak rfl) rfl rfl ?_
 refine ap (aO rfl) rfl rfl ?_
 refine ap (aB fv rfl) rfl rfl ?_
 refine ap (aK 0 ty_198 rfl rfl rfl) rfl rfl ?_
 refine ap (eB Try.underlying198 rfl rfl) rfl rfl ?_
 refine bv (t := 6) (.bool false) rfl (congrArg Value.bool rfl) ?_
 refine ae ?_
 refine aj ?_
 refine av rfl ?_
 refine ao ?_
 refine aa ?_
 refine ap (ak rfl) rfl rfl ?_
 refine ap (aO rfl) rfl rfl ?_
 refine ap (aB fv rfl) rfl rfl ?_
 refine ap (aK 0 ty_198 rfl rfl rfl) rfl rfl ?_
 refine ap (ak rfl) rfl rfl ?_
 refine ap (y_neps Try.underlying198 ty_200 rfl rfl) rfl rfl ?_
 refine ae ?_
 refine aj ?_
 refine av rfl ?_
 refine aG ?_
 refine fM (ts := []) rfl rfl rfl (fun w hw => ?_)
 exact ⟨(), rfl, (Hp.bldc (.inr rfl) rfl rfl hw).uc⟩

theorem c_WriteByte (b : Nat) (A : Option Addr) (c : Nat) (s : aL) (ch : UInt8) (hs : s.length ≤ 1000000000000) : UC Try.prog 143 #[.pointer (some ⟨b, 0, none⟩), .int .u8 ch.toNat] [] (Ch.bld 200 5 b A c s) (α := Option Addr × Nat) (fun p => .nilIface) (fun p => Ch.bld 200 5 b p.1 p.2 (s ++ [ch])) := by
 refine dN (args := [.pointer (some ⟨b, 0, none⟩), .int .u8 ch.toNat]) 17 Try.func143 rfl rfl rfl (fun w0 => ?_)
 refine ao ?_
 refine aa ?_
 refine ap (ah rfl) rfl rfl ?_
 refine ae ?_
 refine aj ?_
 refine ao ?_
 refine aa ?_
 refine ap (ak rfl) rfl rfl ?_
 refine bI rfl ent_162 rfl (c_copyCheck _ _ _ _) (fun o => .z) (List.mem_of_getElem? (i := 0) rfl) (fun s hs => nomatch hs) (fun o0 => ?_)
 refine ae ?_
 refine aj ?_
 refine ao ?_
 refine w_bldo fun p hp => ?_
 refine aa ?_
 refine ap (ak rfl) rfl rfl ?_
 refine ap (ak rfl) rfl rfl ?_
 refine ap (aO rfl) rfl rfl ?_
 refine ap (aB dv rfl) rfl rfl ?_
 refine ap (aK 0 ty_54 rfl rfl rfl) rfl rfl ?_
 refine ap (ak rfl) rfl rfl ?_
 refine el (vs := [_]) ([_] : List (UInt8)) enc_b Try.underlying54 ty_5 rfl rfl rfl rfl rfl rfl (fun As2 => ?_)
 refine eD (enc := encb) (sz := 1) _ Try.underlying54 ty_5 rfl rfl rfl (fun A c => (.s (.s (.z)))) (src_L 0 Try.underlying54 rfl) (by simp only [List.length_cons, List.length_nil, Nat.zero_add]; omega) (by simp only [List.length_cons, List.length_nil, Nat.zero_add]; omega) rfl (fun A2 c2 => ?_)
 refine ap (aO rfl) rfl rfl ?_
 refine ap (aB dv rfl) rfl rfl ?_
 refine aH ty_54 rfl rfl rfl (.s (.z)) rfl rfl rfl rfl ?_
 refine ae ?_
 refine aj ?_
 refine ao ?_
 refine aa ?_
 refine ap (ah rfl) rfl rfl ?_
 refine ae ?_
 refine aj ?_
 refine aC ?_
 refine aJ (ts := [4]) rfl rfl rfl (fun w hw => ?_)
 exact ⟨(A2, c2), rfl, (Hp.bldc hp rfl rfl (hw.weak (.cons _ (.cons_cons _ (.cons_cons _ .slnil))) (fun s hs => hs))).uc⟩

theorem c_WriteString (b : Nat) (A : Option Addr) (c : Nat) (s t : aL) (hs : s.length + t.length ≤ 1000000000000) : UC Try.prog 144 #[.pointer (some ⟨b, 0, none⟩), .string (ba t)] [] (Ch.bld 200 5 b A c s) (α := Option Addr × Nat) (fun p => .tuple #[.int .i64 t.length, .nilIface]) (fun p => Ch.bld 200 5 b p.1 p.2 (s ++ t)) := by
 refine dN (args := [.pointer (some ⟨b, 0, none⟩), .string (ba t)]) 19 Try.func144 rfl rfl rfl (fun w0 => ?_)
 refine ao ?_
 refine aa ?_
 refine ap (ah rfl) rfl rfl ?_
 refine ap (ah rfl) rfl rfl ?_
 refine ae ?_
 refine aj ?_
 refine ao ?_
 refine aa ?_
 refine ap (ak rfl) rfl rfl ?_
 refine bI rfl ent_162 rfl (c_copyCheck _ _ _ _) (fun o => .z) (List.mem_of_getElem? (i := 0) rfl) (fun s hs => nomatch hs) (fun o0 => ?_)
 refine ae ?_
 refine aj ?_
 refine ao ?_
 refine w_bldo fun p hp => ?_
 refine aa ?_
 refine ap (ak rfl) rfl rfl ?_
 refine ap (ak rfl) rfl rfl ?_
 refine ap (aO rfl) rfl rfl ?_
 refine ap (aB dv rfl) rfl rfl ?_
 refine ap (aK 0 ty_54 rfl rfl rfl) rfl rfl ?_
 refine ap (ak rfl) rfl rfl ?_
 refine eD (enc := encb) (sz := 1) t Try.underlying54 ty_5 rfl rfl rfl (fun A c => (.s (.z))) (src_str Try.underlying9) (by omega) (by omega) rfl (fun A1 c1 => ?_)
 refine ap (aO rfl) rfl rfl ?_
 refine ap (aB dv rfl) rfl rfl ?_
 refine aH ty_54 rfl rfl rfl .z rfl rfl rfl rfl ?_
 refine ae ?_
 refine aj ?_
 refine ao ?_
 refine aa ?_
 refine ap (ak rfl) rfl rfl ?_
 refine ap (y_lens Try.underlying9 rfl) rfl rfl ?_
 refine ap (ah rfl) rfl rfl ?_
 refine ap (ah rfl) rfl rfl ?_
 refine ae ?_
 refine aj ?_
 refine aC ?_
 refine aJ (ts := [4, 5]) rfl rfl rfl (fun w hw => ?_)
 exact ⟨(A1, c1), rfl, (Hp.bldc hp rfl rfl (hw.weak (.cons_cons _ (.cons_cons _ .slnil)) (fun s hs => hs))).uc⟩

theorem c_bld_Len (b : Nat) (A : Option Addr) (c : Nat) (s : aL) : RC Try.prog 145 #[.pointer (some ⟨b, 0, none⟩)] [Ch.bld 200 5 b A c s] (α := Unit) (fun _ => .int .i64 s.length) (fun _ => []) := by
 refine a6 (args := [.pointer (some ⟨b, 0, none⟩)]) 8 Try.func145 rfl rfl rfl (fun w0 => ?_)
 refine ao ?_
 refine aa ?_
 refine ap (ah rfl) rfl rfl ?_
 refine ae ?_
 refine aj ?_
 refine ao ?_
 refine aa ?_
 refine ap (ak rfl) rfl rfl ?_
 refine ap (aO rfl) rfl rfl ?_
 refine ap (aB dv rfl) rfl rfl ?_
 refine ap (y_load ty_54 rfl (fun w hw => bld_cell (hw.sh _ (List.mem_of_getElem? (i := 0) rfl)))) rfl rfl ?_
 refine ap (cp Try.underlying54 rfl) rfl rfl ?_
 refine ap (ah rfl) rfl rfl ?_
 refine ae ?_
 refine aj ?_
 refine aC ?_
 refine aJ (ts := [2]) rfl rfl rfl (fun w hw => ?_)
 exact ⟨(), rfl, hw.base, hw.toNews⟩

set_option maxRecDepth 100000 in
theorem c_bld_String (b : Nat) (A : Option Addr) (c : Nat) (s : aL) : UC Try.prog 146 #[.pointer (some ⟨b, 0, none⟩)] [] (Ch.bld 200 5 b A c s) (α := Unit) (fun _ => .string (ba s)) (fun _ => Ch.nil0) := by
 refine dN (args := [.pointer (some ⟨b, 0, none⟩)]) 14 Try.func146 rfl rfl rfl (fun w0 => ?_)
 refine ao ?_
 refine aa ?_
 refine ap (ah rfl) rfl rfl ?_
 refine ae ?_
 refine aj ?_
 refine ao ?_
 refine w_bldo fun p hp => ?_
 refine w_sf ?_
 refine dw 12 rfl mixed ?_
 refine au (i := 0) rfl ab (ak rfl) ar ar rfl (ai aq) (by kernel_rfl) rfl ?_
 refine au (i := 1) rfl ab (aO rfl) ar ar rfl (ai aq) (by kernel_rfl) rfl ?_
 refine au (i := 2) rfl ab (aB dv rfl) ar ar rfl (ai aq) (by kernel_rfl) rfl ?_
 refine au (i := 3) rfl ab (aK 0 ty_54 rfl rfl rfl) ar ar rfl (ai aq) (by kernel_rfl) rfl ?_
 refine au (i := 5) rfl ab (ak rfl) ar ar rfl (ai aq) (by kernel_rfl) rfl ?_
 refine au (i := 6) rfl ab (aO rfl) ar ar rfl (ai aq) (by kernel_rfl) rfl ?_
 refine au (i := 7) rfl ab (aB dv rfl) ar ar rfl (ai aq) (by kernel_rfl) rfl ?_
 refine au (i := 8) rfl ab (aK 0 ty_54 rfl rfl rfl) ar ar rfl (ai aq) (by kernel_rfl) rfl ?_
 refine au (i := 9) rfl ab (cp Try.underlying54 rfl) ar ar rfl (ai aq) (by kernel_rfl) rfl ?_
 refine cD (i := 4) rfl rfl rfl (fun _ _ _ => a8 (by kernel_rfl)) (by kernel_rfl) rfl ?_
 refine o_usd (c := c) (s := s) Try.underlying224 rfl (fun w hw => hw.own _ (List.mem_of_getElem? (i := 1) rfl)) rfl (fun q hq => ?_)
 refine ae ?_
 refine cX ar ?_
 refine cD (i := 10) rfl rfl rfl (fun _ _ _ => a8 (by kernel_rfl)) (by kernel_rfl) rfl ?_
 refine o_us Try.underlying224 (by kernel_rfl) rfl rfl hq (.s .z) rfl ?_
 refine ae ?_
 refine cX ar ?_
 refine au (i := 11) rfl ab (ah rfl) ar ar rfl (ai aq) (by kernel_rfl) rfl ?_
 refine cj (by kernel_rfl) ?_
 refine aj ?_
 refine aC ?_
 refine aJ (ts := [2]) rfl rfl rfl (fun w hw => ?_)
 exact ⟨(), rfl, hw.uc0⟩

/-- No more octets than are held. -/
theorem bC {α : Type} (l : List α) (d : α) (k : Nat) (h : k < l.length) : l.take (k + 1) = l.take k ++ [l.getD k d] := by
  rw [List.take_succ_eq_append_getElem h]; simp [List.getD_eq_getElem?_getD, h]
theorem d4 {α : Type} (l : List α) (d : α) (k : Nat) (h : k < l.length) : l.drop k = l.getD k d :: l.drop (k + 1) := by
  rw [List.drop_eq_getElem_cons h]; simp [List.getD_eq_getElem?_getD, h]
theorem fO (ls : List aL) (k : Nat) : (c6 (ls.take k)).length ≤ (c6 ls).length := by
  have e : c6 ls = c6 (ls.take k) ++ c6 (ls.drop k) := by rw [← dG, List.take_append_drop]
  rw [e, List.length_append]; omega
theorem encn_one (s : aL) : c6 [s] = UInt8.ofNat s.length :: s := by simp [c6]
theorem encn_ge : ∀ ls : List aL, ls.length ≤ (c6 ls).length
  | [] => Nat.le_refl _
  | s :: r => by have := encn_ge r; rw [dX]; simp; omega

theorem c_name_Make (ls : List aL) (A : Option Addr) (ca : Nat) (hl : (c6 ls).length ≤ 1000000000000) : RC Try.prog 104 #[.slice A ls.length ca] [Ch.rd A 1 dy ls] (α := Unit) (fun _ => .tuple #[.string (ba (makeN ls).1), .int .i64 (makeN ls).2]) (fun _ => []) := by
 refine a6 (args := [.slice A ls.length ca]) 38 Try.func104 rfl rfl rfl (fun w0 => ?_)
 have hge := encn_ge ls
 refine ao ?_
 refine aa ?_
 refine ap (ah rfl) rfl rfl ?_
 refine ap (ah rfl) rfl rfl ?_
 refine ae ?_
 refine aj ?_
 refine ao ?_
 refine ao ?_
 refine aa ?_
 refine ap (ak rfl) rfl rfl ?_
 refine ap (cp Try.underlying105 rfl) rfl rfl ?_
 refine ap (ak rfl) rfl rfl ?_
 refine ae ?_
 refine aj ?_
 refine aS ?_
 refine dI (σ := Nat) [2, 3, 5, 6, 12, 13, 14, 15, 16, 17, 18, 19, 20, 21] (fun k => k ≤ ls.length ∧ cJ ls = cJ (ls.drop k)) (fun k => ls.length - k) (fun k => [(12, .int .i64 k)]) (0) ?_ ⟨rfl, trivial⟩ (fun k hI => ?_)
 exact ⟨Nat.zero_le _, rfl⟩
 refine ao ?_
 refine aa ?_
 refine ap (cE rfl rfl) rfl rfl ?_
 refine aD (t := 13) rfl (fun h2_0 => ?_) (fun h2_0 => ?_)
 refine ae ?_
 refine aj ?_
 refine ao ?_
 refine ay rfl ?_
 refine aG ?_
 refine aj ?_
 refine ao ?_
 refine aS ?_
 refine ao ?_
 refine aa ?_
 refine ap (dB  Try.underlying105 ty_9 rfl rfl (ey 0 rfl) rfl (by omega)) rfl rfl ?_
 refine ap (dU dx ([] : aL) ty_9 rfl (ey 0 rfl) (by omega) rfl rfl) rfl rfl ?_
 refine ap (ah rfl) rfl rfl ?_
 refine ae ?_
 refine aj ?_
 refine ao ?_
 refine aa ?_
 refine ap (ak rfl) rfl rfl ?_
 refine aR rfl ent_137 (c_label_Check _) rfl ?_
 refine ap (ah rfl) rfl rfl ?_
 refine ae ?_
 refine aj ?_
 refine ao ?_
 refine aa ?_
 refine ap (ak rfl) rfl rfl ?_
 refine ap (cQ rfl rfl) rfl rfl ?_
 refine aD (t := 19) rfl (fun h5_1 => ?_) (fun h5_1 => ?_)
 refine ae ?_
 refine aj ?_
 refine ay rfl ?_
 refine ao ?_
 refine aa ?_
 refine ap (ak rfl) rfl rfl ?_
 refine ap (ah rfl) rfl rfl ?_
 refine ap (ah rfl) rfl rfl ?_
 refine ae ?_
 refine aj ?_
 refine aC ?_
 refine aU ?_
 refine aA ?_
 refine bH ?_
 refine aU ?_
 refine aA ?_
 refine aJ (ts := [2, 3]) rfl rfl rfl (fun w hw => ?_)
 have hk : k < ls.length := by omega
 have hdk := d4 ls [] k hk
 have hf : cJ ls = eX (ls.getD k []) := by rw [hI.2, hdk, cJ, if_neg (by omega)]
 exact ⟨(), by rw [makeN, if_pos (by omega), hf]; rfl, hw.base, hw.toNews⟩
 refine ae ?_
 refine aj ?_
 refine av rfl ?_
 refine aG ?_
 refine bA ?_
 refine aj ?_
 refine aa ?_
 refine ap (bQ rfl rfl (by omega) (by omega)) rfl rfl ?_
 refine ap (ak rfl) rfl rfl ?_
 refine ae ?_
 have hk : k < ls.length := by omega
 have hdk := d4 ls [] k hk
 refine bR (k + 1) ?_ ?_ ⟨rfl, trivial⟩ (by repeat (first | exact trivial | refine ⟨rfl, ?_⟩)) ar
 exact ⟨by omega, by rw [hI.2, hdk, cJ, if_pos (by omega)]⟩
 omega
 refine ae ?_
 refine aj ?_
 refine ao ?_
 refine av rfl ?_
 refine ce ?_
 refine bf ?_
 refine a7 ?_
 refine bq ?_
 refine aj ?_
 refine ao ?_
 have hz : cJ ls = 0 := by rw [hI.2, List.drop_of_length_le (by omega)]; rfl
 refine aa ?_
 refine bc ty_200 rfl rfl (fun b1 => ?_)
 refine bD (fun w h => h.bldn 5) ?_
 refine ae ?_
 refine aj ?_
 refine ao ?_
 refine ao ?_
 refine aa ?_
 refine ap (ak rfl) rfl rfl ?_
 refine ap (cp Try.underlying105 rfl) rfl rfl ?_
 refine ap (ak rfl) rfl rfl ?_
 refine ae ?_
 refine aj ?_
 refine aS ?_
 refine eh (σ := Nat × Option Addr × Nat) [9, 24, 25, 26, 27, 28, 29, 30, 31, 32, 33, 34] (fun q => q.1 ≤ ls.length) (fun q => ls.length - q.1) (fun q => [(24, .int .i64 q.1)]) (fun q => Ch.bld 200 5 b1 q.2.1 q.2.2 (c6 (ls.take q.1))) ((0, none, 0)) ?_ ⟨rfl, trivial⟩ rfl (fun q hI => ?_)
 exact Nat.zero_le _
 obtain ⟨k, A3, c3⟩ := q
 dsimp only at hI ⊢
 have htl := fO ls k
 refine ao ?_
 refine aa ?_
 refine ap (cE rfl rfl) rfl rfl ?_
 refine aD (t := 25) rfl (fun h10_0 => ?_) (fun h10_0 => ?_)
 refine ae ?_
 refine aj ?_
 refine ao ?_
 refine ay rfl ?_
 refine aG ?_
 refine aj ?_
 refine ao ?_
 refine aS ?_
 refine ao ?_
 refine aa ?_
 refine ap (dB  Try.underlying105 ty_9 rfl rfl (ey 0 rfl) rfl (by omega)) rfl rfl ?_
 refine ap (dU dx ([] : aL) ty_9 rfl (ey 0 rfl) (by omega) rfl rfl) rfl rfl ?_
 refine ap (ah rfl) rfl rfl ?_
 refine ae ?_
 refine aj ?_
 refine ao ?_
 refine aa ?_
 refine ap (ak rfl) rfl rfl ?_
 refine ap (y_lens Try.underlying9 rfl) rfl rfl ?_
 refine ap (y_convii Try.underlying3 Try.underlying5 rfl) rfl rfl ?_
 have hk : k < ls.length := by omega
 have hlk : 1 ≤ (ls.getD k []).length ∧ (ls.getD k []).length ≤ 63 := firstCk_zero.1 hz (ls.getD k []) (by rw [List.getD_eq_getElem?_getD, List.getElem?_eq_getElem hk]; exact List.getElem_mem hk)
 have hlk2 := hlk
 refine bv (t := 30) (.int .u8 ((UInt8.ofNat (ls.getD k []).length).toNat : Int)) rfl (congrArg _ (by rw [fE (by omega) (by omega), u8len hlk2.2])) ?_
 have htk := bC ls [] k hk
 have htl2 := fO ls (k + 1)
 rw [htk, dG, encn_one, List.length_append, List.length_cons] at htl2
 refine bI rfl ent_143 rfl (c_WriteByte _ _ _ _ _ (by omega)) (fun o => .z) (List.mem_of_getElem? (i := 0) rfl) (fun s hs => nomatch hs) (fun o1 => ?_)
 refine ae ?_
 refine aj ?_
 refine aa ?_
 refine ap (ak rfl) rfl rfl ?_
 refine bI rfl ent_144 rfl (c_WriteString _ _ _ _ _ (by rw [List.length_append, List.length_singleton]; omega)) (fun o => .z) (List.mem_of_getElem? (i := 0) rfl) (fun s hs => nomatch hs) (fun o2 => ?_)
 refine ae ?_
 refine bA ?_
 refine aj ?_
 refine aa ?_
 refine ap (bQ rfl rfl (by omega) (by omega)) rfl rfl ?_
 refine ap (ak rfl) rfl rfl ?_
 refine ae ?_
 have hk : k < ls.length := by omega
 have htk := bC ls [] k hk
 refine bR ((k + 1, o2.1, o2.2)) ?_ ?_ ⟨rfl, trivial⟩ (by repeat (first | exact trivial | refine ⟨rfl, ?_⟩)) (fun w h => by show Hp _ _ (Ch.bld _ _ _ _ _ (c6 (ls.take (k + 1))) :: _) _ _; rw [htk, dG, encn_one]; have h2 := h; rw [List.append_assoc] at h2; exact h2)
 show k + 1 ≤ ls.length
 omega
 show ls.length - (k + 1) < ls.length - k
 omega
 refine ae ?_
 refine aj ?_
 refine ao ?_
 refine av rfl ?_
 refine ce ?_
 refine bf ?_
 refine a7 ?_
 refine bq ?_
 refine aj ?_
 refine ao ?_
 refine ao ?_
 refine aa ?_
 refine bi rfl ent_145 rfl (c_bld_Len _ _ _ _) (fun w hw => aN (d7 0 rfl hw) aY) ?_
 refine ap (y_gtr rfl rfl) rfl rfl ?_
 refine aD (t := 36) rfl (fun h15_1 => ?_) (fun h15_1 => ?_)
 refine ae ?_
 refine aj ?_
 refine ay rfl ?_
 refine ao ?_
 refine aa ?_
 refine ap (ah rfl) rfl rfl ?_
 refine ap (ah rfl) rfl rfl ?_
 refine ae ?_
 refine aj ?_
 refine aC ?_
 refine aA ?_
 refine aJ (ts := [2, 3]) rfl rfl rfl (fun w hw => ?_)
 have hk : k = ls.length := by omega
 rw [hk, List.take_length] at h15_1
 exact ⟨(), by rw [makeN, if_neg (by omega), if_pos (by omega)]; rfl, hw.base, (hw.weak (List.nil_sublist _) (fun s hs => hs)).toNews⟩
 refine ae ?_
 refine aj ?_
 refine av rfl ?_
 refine aG ?_
 refine aj ?_
 refine ao ?_
 refine aa ?_
 refine bI rfl ent_146 rfl (c_bld_String _ _ _ _) (fun o => .z) (List.mem_of_getElem? (i := 0) rfl) (fun s hs => nomatch hs) (fun o3 => ?_)
 refine ap (ah rfl) rfl rfl ?_
 refine ap (ah rfl) rfl rfl ?_
 refine ae ?_
 refine aj ?_
 refine aC ?_
 refine aJ (ts := [2, 3]) rfl rfl rfl (fun w hw => ?_)
 have hk : k = ls.length := by omega
 subst hk
 rw [List.take_length] at h15_1 ⊢
 exact ⟨(), by rw [makeN, if_neg (by omega), if_neg (by omega)]; rfl, hw.base, (hw.weak (List.nil_sublist _) (fun s hs => hs)).toNews⟩

theorem mapS_step (t : aL → aL) (l : List aL) (k : Nat) (h : k < l.length) : ((l.take k).map t ++ l.drop k).set k (t (l.getD k [])) = (l.take (k + 1)).map t ++ l.drop (k + 1) := by
  have e : l.getD k [] = l[k] := by simp [List.getD_eq_getElem?_getD, h]
  have hk : k - ((l.take k).map t).length = 0 := by simp; omega
  rw [List.set_append_right _ _ (by simp; omega), hk, List.drop_eq_getElem_cons h, List.set_cons_zero, e, List.take_succ_eq_append_getElem h, List.map_append]
  simp
theorem mapS_at (t : aL → aL) (l : List aL) (k : Nat) (h : k < l.length) : ((l.take k).map t ++ l.drop k).getD k [] = l.getD k [] := by
  simp [List.getD_eq_getElem?_getD, List.getElem?_append_right, Nat.min_eq_left (Nat.le_of_lt h)]
theorem cU (t : aL → aL) (l : List aL) (k : Nat) : ((l.take k).map t ++ l.drop k).length = l.length := by simp; omega
theorem labsN_le (n : aL) (h : n.length ≤ 1000000000) : (bL n).length ≤ 254 ∧ (∀ s ∈ bL n, 1 ≤ s.length ∧ s.length ≤ 63) ∧ (c6 ((bL n).map dg)).length ≤ 254 := by
  unfold bL
  by_cases hc : bj n = 0
  · rw [if_pos hc]
    obtain ⟨h1, h2⟩ := nameCk_zero.1 hc
    have := labs_len n
    refine ⟨by omega, dn n, ?_⟩
    rw [fP _ (dn n), ci, dY n h2]; exact h1
  · rw [if_neg hc]; exact ⟨by simp, nofun, by simp [c6]⟩

theorem fold_b {n : aL} {k : Nat} (hk : k < (bL n).length) (h : ∀ s ∈ bL n, 1 ≤ s.length ∧ s.length ≤ 63) : ((((bL n).take k).map dg ++ (bL n).drop k).getD k []).length ≤ 1000000000000 := by
  have e : (bL n).getD k [] = (bL n)[k] := by simp [List.getD_eq_getElem?_getD, hk]
  rw [mapS_at dg _ k hk, e]
  have := h _ (List.getElem_mem hk)
  omega

theorem c_name_Fold (n : aL) (hn : n.length ≤ 1000000000) : RC Try.prog 63 #[.string (ba n)] [] (α := Unit) (fun _ => .string (ba (aT n))) (fun _ => []) := by
 refine a6 (args := [.string (ba n)]) 29 Try.func63 rfl rfl rfl (fun w0 => ?_)
 refine ao ?_
 refine aa ?_
 refine ap (ah rfl) rfl rfl ?_
 refine ae ?_
 refine aj ?_
 refine ao ?_
 refine aa ?_
 refine ap (ak rfl) rfl rfl ?_
 refine bF rfl ent_84 rfl (c_name_Labels _) (fun w hw => aY) (fun ⟨A0, c0⟩ => ?_)
 have hlb := labsN_le n hn
 refine ap (ah rfl) rfl rfl ?_
 refine ae ?_
 refine aj ?_
 refine ao ?_
 refine ao ?_
 refine aa ?_
 refine ap (ak rfl) rfl rfl ?_
 refine ap (cp Try.underlying105 rfl) rfl rfl ?_
 refine ap (ak rfl) rfl rfl ?_
 refine ae ?_
 refine aj ?_
 refine aS ?_
 refine eh (σ := Nat) [3, 4, 5, 10, 12, 13, 14, 15, 16, 17, 18, 19, 20, 21, 22] (fun k => k ≤ (bL n).length) (fun k => (bL n).length - k) (fun k => [(12, .int .i64 k), (10, .slice A0 (((bL n).take k).map dg ++ (bL n).drop k).length c0), (3, .slice A0 (((bL n).take k).map dg ++ (bL n).drop k).length c0)]) (fun k => Ch.ls A0 c0 9 1 dy (((bL n).take k).map dg ++ (bL n).drop k)) (0) ?_ ⟨rfl, rfl, rfl, trivial⟩ rfl (fun k hI => ?_)
 exact Nat.zero_le _
 have hml := cU dg (bL n) k
 refine ao ?_
 refine aa ?_
 refine ap (cE rfl rfl) rfl rfl ?_
 refine aD (t := 13) rfl (fun h3_0 => ?_) (fun h3_0 => ?_)
 refine ae ?_
 refine aj ?_
 refine ao ?_
 refine ay rfl ?_
 refine aG ?_
 refine aj ?_
 refine ao ?_
 refine aS ?_
 refine ao ?_
 refine aa ?_
 refine ap (ak rfl) rfl rfl ?_
 refine ap (dB  Try.underlying105 ty_9 rfl rfl (rs_L 0 rfl) rfl (by rw [cU]; omega)) rfl rfl ?_
 refine ap (dU dx ([] : aL) ty_9 rfl (rs_L 0 rfl) (by rw [cU]; omega) rfl rfl) rfl rfl ?_
 refine ap (ah rfl) rfl rfl ?_
 refine ap (ah rfl) rfl rfl ?_
 refine ae ?_
 refine aj ?_
 refine aa ?_
 refine ap (ak rfl) rfl rfl ?_
 refine ap (ak rfl) rfl rfl ?_
 refine ap (ak rfl) rfl rfl ?_
 refine aR rfl ent_103 (c_label_Fold _ (fold_b (by omega) hlb.2.1)) rfl ?_
 refine ap (dB  Try.underlying105 ty_9 rfl rfl (rs_L 0 rfl) rfl (by rw [cU]; omega)) rfl rfl ?_
 refine o_stm0 dx ([] : aL) _ ty_9 rfl rfl rfl .z rfl (by rw [cU]; omega) rfl rfl rfl ?_
 refine ae ?_
 refine bA ?_
 refine aj ?_
 refine aa ?_
 refine ap (bQ rfl rfl (by omega) (by omega)) rfl rfl ?_
 refine ap (ak rfl) rfl rfl ?_
 refine ae ?_
 have hk : k < (bL n).length := by omega
 refine bR (k + 1) ?_ ?_ ⟨rfl, lk rfl (by rw [cU, cU]), lk rfl (by rw [cU, cU]), trivial⟩ (by repeat (first | exact trivial | refine ⟨rfl, ?_⟩)) (fun w h => by rw [mapS_at dg (bL n) k hk, mapS_step dg (bL n) k hk] at h; exact h)
 omega
 omega
 refine ae ?_
 refine aj ?_
 refine ao ?_
 refine av rfl ?_
 refine ce ?_
 refine bf ?_
 refine a7 ?_
 refine bq ?_
 refine aj ?_
 refine ao ?_
 refine aa ?_
 obtain rfl : k = (bL n).length := by omega
 refine ap (ak rfl) rfl rfl ?_
 refine bi rfl ent_104 rfl (c_name_Make _ _ _ (by have := hlb.2.2; simp; omega)) (fun w hw => (aN (eT 0 rfl hw) aY)) ?_
 refine ap (ak rfl) rfl rfl ?_
 refine ap (aw rfl rfl) rfl rfl ?_
 refine ap (aw rfl rfl) rfl rfl ?_
 refine ap (ah rfl) rfl rfl ?_
 refine ap (ah rfl) rfl rfl ?_
 refine ae ?_
 refine aj ?_
 refine ao ?_
 refine aa ?_
 refine ap (ak rfl) rfl rfl ?_
 refine ap (ah rfl) rfl rfl ?_
 refine ae ?_
 refine aj ?_
 refine aC ?_
 refine aJ (ts := [2]) rfl rfl rfl (fun w hw => ?_)
 exact ⟨(), by rw [← make_fold]; simp [dT], hw.base, (hw.weak (List.nil_sublist _) (fun s hs => hs)).toNews⟩

theorem cz (n : aL) (hn : n.length ≤ 1000000000) : cI Try.prog 63 #[.string (ba n)] (.string (ba (aT n))) := rc_pure (c_name_Fold n hn)

end Go.Proofs.Ytnpdgmoeoidppaa
