import Derived.Test.YtnpdgmoeoidppaaGreatPaQh
import Derived.Test.YtnpdgmoeoidppaaGreatProg
import Derived.KernelRfl
/- label, name: the contracts -/
namespace Go.Proofs.YtnpdgmoeoidppaaGreat
open Go.RowKit Go.Shelf
set_option linter.unusedVariables false
set_option linter.unusedSimpArgs false

theorem ent_149 : Enters Tryz.prog 149 := enters_of Tryz.func149 (by kernel_rfl) rfl
theorem ent_201 : Enters Tryz.prog 201 := enters_of Tryz.func201 (by kernel_rfl) rfl
theorem ent_202 : Enters Tryz.prog 202 := enters_of Tryz.func202 (by kernel_rfl) rfl
theorem ent_203 : Enters Tryz.prog 203 := enters_of Tryz.func203 (by kernel_rfl) rfl
theorem ent_204 : Enters Tryz.prog 204 := enters_of Tryz.func204 (by kernel_rfl) rfl
theorem ent_235 : Enters Tryz.prog 235 := enters_of Tryz.func235 (by kernel_rfl) rfl
theorem ent_236 : Enters Tryz.prog 236 := enters_of Tryz.func236 (by kernel_rfl) rfl
theorem ent_74 : Enters Tryz.prog 74 := enters_of Tryz.func74 (by kernel_rfl) rfl
theorem mixed : Tryz.prog.follows .mixedOrders = true := by kernel_rfl
theorem ty_135 : TyI Tryz.prog 135 false 1 24 (.slice none 0 0) := TyI.mk' (by kernel_rfl) (fun _ => by kernel_rfl)
theorem cW : TyI Tryz.prog 26 false 1 16 (.string ⟨#[]⟩) := TyI.mk' (by kernel_rfl) (fun _ => by kernel_rfl)
theorem fA : TyI Tryz.prog 5 false 1 1 (.int .u8 0) := TyI.mk' (by kernel_rfl) (fun _ => by kernel_rfl)
theorem eb : TyI Tryz.prog 9 false 1 16 (.string ⟨#[]⟩) := TyI.mk' (by kernel_rfl) (fun _ => by kernel_rfl)

theorem c_label_Check (l : aX) : cC Tryz.prog 205 #[.string (ba l)] (.int .i64 (ef l)) := by
 intro w0
 refine a6 (ok0 := no) (S := []) (args := [.string (ba l)]) 12 Tryz.func205 rfl rfl rfl (by simp) (by simp) ?_
 refine ao ?_
 refine ab ?_
 refine ap (ai rfl) rfl rfl ?_
 refine ae ?_
 refine aj ?_
 refine ao ?_
 refine ao ?_
 refine ab ?_
 refine ap (ak rfl) rfl rfl ?_
 refine ap (dg Tryz.underlying9 rfl) rfl rfl ?_
 refine ap (ai rfl) rfl rfl ?_
 refine ae ?_
 refine aj ?_
 refine aT ?_
 refine ao ?_
 refine ab ?_
 refine ap (ak rfl) rfl rfl ?_
 refine ap (dl rfl rfl) rfl rfl ?_
 refine aG (t := 8) rfl (fun h2_1 => ?_) (fun h2_1 => ?_)
 refine ap (ai rfl) rfl rfl ?_
 refine ae ?_
 refine aj ?_
 refine ay rfl ?_
 refine ao ?_
 refine ab ?_
 refine ap (ai rfl) rfl rfl ?_
 refine ae ?_
 refine aj ?_
 refine aH ?_
 refine aU ?_
 refine az ?_
 refine aN (ts := [2]) rfl rfl rfl (fun w hw => ?_)
 exact ⟨congrArg _ (by show Value.int _ _ = _; unfold ef; congr 1; (repeat (first | rw [if_pos (by omega)] | rw [if_neg (by omega)]))), hw.base⟩
 refine ap (ai rfl) rfl rfl ?_
 refine ae ?_
 refine aj ?_
 refine aw rfl ?_
 refine ao ?_
 refine ab ?_
 refine ap (ak rfl) rfl rfl ?_
 refine ap (dU rfl rfl) rfl rfl ?_
 refine aG (t := 11) rfl (fun h4_1 => ?_) (fun h4_1 => ?_)
 refine ap (ai rfl) rfl rfl ?_
 refine ae ?_
 refine aj ?_
 refine ay rfl ?_
 refine ao ?_
 refine ab ?_
 refine ap (ai rfl) rfl rfl ?_
 refine ae ?_
 refine aj ?_
 refine aH ?_
 refine aU ?_
 refine az ?_
 refine aN (ts := [2]) rfl rfl rfl (fun w hw => ?_)
 exact ⟨congrArg _ (by show Value.int _ _ = _; unfold ef; congr 1; (repeat (first | rw [if_pos (by omega)] | rw [if_neg (by omega)]))), hw.base⟩
 refine ap (ai rfl) rfl rfl ?_
 refine ae ?_
 refine aj ?_
 refine aw rfl ?_
 refine aL ?_
 refine bw ?_
 refine aj ?_
 refine ao ?_
 refine ab ?_
 refine ap (ai rfl) rfl rfl ?_
 refine ae ?_
 refine aj ?_
 refine aH ?_
 refine aN (ts := [2]) rfl rfl rfl (fun w hw => ?_)
 exact ⟨congrArg _ (by show Value.int _ _ = _; unfold ef; congr 1; (repeat (first | rw [if_pos (by omega)] | rw [if_neg (by omega)]))), hw.base⟩

theorem c_label_Fold1 (c : UInt8) : cC Tryz.prog 203 #[.int .u8 c.toNat] (.int .u8 (dD c).toNat) := by
 intro w0
 have hc := UInt8.toNat_lt c
 refine a6 (ok0 := no) (S := []) (args := [.int .u8 c.toNat]) 13 Tryz.func203 rfl rfl rfl (by simp) (by simp) ?_
 refine ao ?_
 refine ab ?_
 refine ap (ai rfl) rfl rfl ?_
 refine ae ?_
 refine aj ?_
 refine ao ?_
 refine ao ?_
 refine ab ?_
 refine ap (ak rfl) rfl rfl ?_
 refine ap (fu rfl rfl) rfl rfl ?_
 refine aG (t := 4) rfl (fun h1_1 => ?_) (fun h1_1 => ?_)
 refine ap (ak rfl) rfl rfl ?_
 refine aA rfl rfl ?_
 refine ap (ak rfl) rfl rfl ?_
 refine aA rfl rfl ?_
 refine ap (y_leq rfl rfl) rfl rfl ?_
 refine aG (t := 7) rfl (fun h1_4 => ?_) (fun h1_4 => ?_)
 refine ap (aP rfl rfl) rfl rfl ?_
 refine ae ?_
 refine aj ?_
 refine ay rfl ?_
 refine ao ?_
 refine ab ?_
 refine ap (ak rfl) rfl rfl ?_
 refine ap (y_sub rfl rfl) rfl rfl ?_
 refine ap (y_add rfl rfl) rfl rfl ?_
 refine ap (ai rfl) rfl rfl ?_
 refine ae ?_
 refine aj ?_
 refine aH ?_
 refine az ?_
 refine aN (ts := [2]) rfl rfl rfl (fun w hw => ?_)
 exact ⟨congrArg _ (by show Value.int _ _ = _; congr 1; rw [dW (by rw [dW (by omega) (by omega)]; omega) (by rw [dW (by omega) (by omega)]; omega), dW (by omega) (by omega)]; unfold dD; rw [if_pos (by omega)]; simp; omega), hw.base⟩
 refine ap (aP rfl rfl) rfl rfl ?_
 refine ae ?_
 refine aj ?_
 refine aw rfl ?_
 refine aL ?_
 refine aj ?_
 refine ao ?_
 refine ab ?_
 refine ap (ak rfl) rfl rfl ?_
 refine ap (ai rfl) rfl rfl ?_
 refine ae ?_
 refine aj ?_
 refine aH ?_
 refine aN (ts := [2]) rfl rfl rfl (fun w hw => ?_)
 exact ⟨congrArg _ (by show Value.int _ _ = _; congr 2; unfold dD; rw [if_neg (by omega)]), hw.base⟩
 refine ap (ak rfl) rfl rfl ?_
 refine aK rfl rfl rfl rfl ?_
 refine aK rfl rfl rfl rfl ?_
 refine ap (aQ rfl rfl) rfl rfl ?_
 refine ae ?_
 refine aj ?_
 refine aw rfl ?_
 refine aL ?_
 refine aj ?_
 refine ao ?_
 refine ab ?_
 refine ap (ak rfl) rfl rfl ?_
 refine ap (ai rfl) rfl rfl ?_
 refine ae ?_
 refine aj ?_
 refine aH ?_
 refine aN (ts := [2]) rfl rfl rfl (fun w hw => ?_)
 exact ⟨congrArg _ (by show Value.int _ _ = _; congr 2; unfold dD; rw [if_neg (by omega)]), hw.base⟩

theorem d6 (t : UInt8 → UInt8) (l : aX) (k : Nat) (h : k < l.length) : ((l.take k).map t ++ l.drop k).set k (t (l.getD k 0)) = (l.take (k + 1)).map t ++ l.drop (k + 1) := by
  have e : l.getD k 0 = l[k] := by simp [List.getD_eq_getElem?_getD, h]
  have hk : k - ((l.take k).map t).length = 0 := by simp; omega
  rw [List.set_append_right _ _ (by simp; omega), hk, List.drop_eq_getElem_cons h, List.set_cons_zero, e, List.take_succ_eq_append_getElem h, List.map_append]
  simp
theorem map_at (t : UInt8 → UInt8) (l : aX) (k : Nat) (h : k < l.length) : ((l.take k).map t ++ l.drop k).getD k 0 = l.getD k 0 := by
  simp [List.getD_eq_getElem?_getD, List.getElem?_append_right, Nat.min_eq_left (Nat.le_of_lt h)]
theorem bH (t : UInt8 → UInt8) (l : aX) (k : Nat) : ((l.take k).map t ++ l.drop k).length = l.length := by simp; omega

theorem c_label_each (l : aX) (f : Nat) (t : UInt8 → UInt8) (hf : ∀ c, cC Tryz.prog f #[.int .u8 c.toNat] (.int .u8 (t c).toNat)) (hen : Enters Tryz.prog f) (hl : l.length ≤ 1000000000000) : cC Tryz.prog 204 #[.string (ba l), .func (.func f) #[] #[]] (.string (ba (l.map t))) := by
 intro w0
 refine a6 (ok0 := no) (S := []) (args := [.string (ba l), .func (.func f) #[] #[]]) 26 Tryz.func204 rfl rfl rfl (by simp) (by simp) ?_
 refine ao ?_
 refine ab ?_
 refine ap (ai rfl) rfl rfl ?_
 refine ae ?_
 refine aj ?_
 refine ao ?_
 refine ab ?_
 refine ap (ak rfl) rfl rfl ?_
 refine o_s2b Tryz.underlying9 Tryz.underlying75 Tryz.underlying5 (by omega) rfl rfl (fun As1 cs1 => ?_)
 refine ap (ai rfl) rfl rfl ?_
 refine ae ?_
 refine aj ?_
 refine ao ?_
 refine ao ?_
 refine ab ?_
 refine ap (ak rfl) rfl rfl ?_
 refine ap (ck Tryz.underlying75 rfl) rfl rfl ?_
 refine ap (ak rfl) rfl rfl ?_
 refine ae ?_
 refine aj ?_
 refine aT ?_
 refine dO (σ := Nat) [5, 6, 7, 10, 12, 13, 14, 15, 16, 17, 18, 19, 20, 21, 22, 23] (fun k => k ≤ l.length) (fun k => l.length - k) (fun k => [(12, .int .i64 k), (10, .slice As1 ((l.take k).map t ++ l.drop k).length cs1), (5, .slice As1 ((l.take k).map t ++ l.drop k).length cs1)]) (fun k => Ch.ls As1 cs1 5 1 encb ((l.take k).map t ++ l.drop k)) (0) ?_ ⟨rfl, rfl, rfl, trivial⟩ rfl (fun k hI => ?_)
 exact Nat.zero_le _
 have hml := bH t l k
 refine ao ?_
 refine ab ?_
 refine ap (bQ rfl rfl) rfl rfl ?_
 refine aG (t := 13) rfl (fun h3_0 => ?_) (fun h3_0 => ?_)
 refine ae ?_
 refine aj ?_
 refine ao ?_
 refine ay rfl ?_
 refine aL ?_
 refine aj ?_
 refine ao ?_
 refine aT ?_
 refine ao ?_
 refine ab ?_
 refine ap (ak rfl) rfl rfl ?_
 refine ap (cp  Tryz.underlying75 fA rfl rfl (ec 0 rfl) rfl (by rw [bH]; omega)) rfl rfl ?_
 refine ap (dd gP (0 : UInt8) fA rfl (ec 0 rfl) (by rw [bH]; omega) rfl rfl) rfl rfl ?_
 refine ap (ai rfl) rfl rfl ?_
 refine ap (ai rfl) rfl rfl ?_
 refine ae ?_
 refine aj ?_
 refine ab ?_
 refine ap (ak rfl) rfl rfl ?_
 refine ap (ak rfl) rfl rfl ?_
 refine ap (ak rfl) rfl rfl ?_
 refine ap (ak rfl) rfl rfl ?_
 refine o_callvp rfl rfl rfl hen (hf _) rfl ?_
 refine ap (cp  Tryz.underlying75 fA rfl rfl (ec 0 rfl) rfl (by rw [bH]; omega)) rfl rfl ?_
 refine o_stm0 gP (0 : UInt8) _ fA rfl rfl rfl .z rfl (by rw [bH]; omega) rfl rfl rfl ?_
 refine ae ?_
 refine bw ?_
 refine aj ?_
 refine ab ?_
 refine ap (bi rfl rfl (by omega) (by omega)) rfl rfl ?_
 refine ap (ak rfl) rfl rfl ?_
 refine ae ?_
 have hk : k < l.length := by omega
 refine bA (k + 1) ?_ ?_ ⟨rfl, lk rfl (by rw [bH, bH]), lk rfl (by rw [bH, bH]), trivial⟩ (by repeat (first | exact trivial | refine ⟨rfl, ?_⟩)) (fun w h => by rw [map_at t l k hk, d6 t l k hk] at h; exact h)
 omega
 omega
 refine ae ?_
 refine aj ?_
 refine ao ?_
 refine aw rfl ?_
 refine bG ?_
 refine a7 ?_
 refine aZ ?_
 refine bc ?_
 refine aj ?_
 refine ao ?_
 refine ab ?_
 refine ap (ak rfl) rfl rfl ?_
 refine ap (y_b2s Tryz.underlying75 Tryz.underlying9 Tryz.underlying5 rfl (ec 0 rfl)) rfl rfl ?_
 refine ap (ai rfl) rfl rfl ?_
 refine ae ?_
 refine aj ?_
 refine aH ?_
 refine aN (ts := [4]) rfl rfl rfl (fun w hw => ?_)
 obtain rfl : k = l.length := by omega
 exact ⟨by simp [da], hw.base⟩

theorem c_label_Fold (l : aX) (hl : l.length ≤ 1000000000000) : cC Tryz.prog 147 #[.string (ba l)] (.string (ba (db l))) := by
 intro w0
 refine a6 (ok0 := no) (S := []) (args := [.string (ba l)]) 7 Tryz.func147 rfl rfl rfl (by simp) (by simp) ?_
 refine ao ?_
 refine ab ?_
 refine ap (ai rfl) rfl rfl ?_
 refine ae ?_
 refine aj ?_
 refine ao ?_
 refine ab ?_
 refine ap (ai rfl) rfl rfl ?_
 refine ae ?_
 refine aj ?_
 refine ao ?_
 refine ab ?_
 refine ap (ak rfl) rfl rfl ?_
 refine ap (ak rfl) rfl rfl ?_
 refine aR rfl ent_204 (c_label_each _ 203 dD c_label_Fold1 ent_203 hl) rfl ?_
 refine ap (ai rfl) rfl rfl ?_
 refine ae ?_
 refine aj ?_
 refine aH ?_
 refine aN (ts := [2]) rfl rfl rfl (fun w hw => ?_)
 exact ⟨rfl, hw.base⟩

def cutL (n : aX) : aX := if ct n then lab n else []
def cutR (n : aX) : aX := if ct n then rst n else n
theorem cutR_lt {n : aX} (h : ct n = true) : (cutR n).length < n.length := by unfold cutR; rw [if_pos h]; exact fF h
theorem cutR_ok {n : aX} (h : ct n = true) : cutR n = rst n := if_pos h
theorem cutL_ok {n : aX} (h : ct n = true) : cutL n = lab n := if_pos h
theorem cut_no {n : aX} (h : n = [] ∨ bt n 0 < 1 ∨ 63 < bt n 0 ∨ n.length ≤ bt n 0) : ct n = false := by
  cases hq : ct n with
  | false => rfl
  | true =>
    obtain ⟨h0, h1, h2, h3⟩ := cutOk_iff.1 hq
    rcases h with h | h
    · exact absurd h h0
    · omega

set_option maxRecDepth 100000 in
theorem gb (n : aX) : cC Tryz.prog 149 #[.string (ba n)] (.tuple #[.string (ba (cutL n)), .string (ba (cutR n)), .bool (ct n)]) := by
 intro w0
 refine a6 (ok0 := no) (S := []) (args := [.string (ba n)]) 32 Tryz.func149 rfl rfl rfl (by simp) (by simp) ?_
 refine ao ?_
 refine ab ?_
 refine ap (ai rfl) rfl rfl ?_
 refine ap (ai rfl) rfl rfl ?_
 refine ap (ai rfl) rfl rfl ?_
 refine ae ?_
 refine aj ?_
 refine ao ?_
 refine ao ?_
 refine ab ?_
 refine ap (ak rfl) rfl rfl ?_
 refine ap (y_eqls rfl rfl) rfl rfl ?_
 refine aG (t := 7) rfl (fun h1_1 => ?_) (fun h1_1 => ?_)
 refine ae ?_
 refine aj ?_
 refine ay rfl ?_
 refine ao ?_
 refine ab ?_
 refine ap (ai rfl) rfl rfl ?_
 refine ap (ai rfl) rfl rfl ?_
 refine ap (ai rfl) rfl rfl ?_
 refine ae ?_
 refine aj ?_
 refine aH ?_
 refine az ?_
 refine aN (ts := [2, 3, 4]) rfl rfl rfl (fun w hw => ?_)
 subst h1_1
 exact ⟨rfl, hw.base⟩
 refine ae ?_
 refine aj ?_
 refine aw rfl ?_
 refine aL ?_
 refine aj ?_
 refine ao ?_
 refine ab ?_
 refine ap (ak rfl) rfl rfl ?_
 have hs := len_pos h1_1
 have hb := bt_lt n 0
 refine ap (gt (k := 0) Tryz.underlying26 rfl rfl rfl (by omega)) rfl rfl ?_
 refine ap (cS Tryz.underlying5 Tryz.underlying3 rfl (fp (by omega) (by omega))) rfl rfl ?_
 refine ap (ai rfl) rfl rfl ?_
 refine ae ?_
 refine aj ?_
 refine ao ?_
 refine ao ?_
 refine ab ?_
 refine ap (ak rfl) rfl rfl ?_
 refine ap (bQ rfl rfl) rfl rfl ?_
 refine aG (t := 12) rfl (fun h4_1 => ?_) (fun h4_1 => ?_)
 refine ap (ak rfl) rfl rfl ?_
 refine aK rfl rfl rfl rfl ?_
 refine aK rfl rfl rfl rfl ?_
 refine ap (aP rfl rfl) rfl rfl ?_
 refine ap (ak rfl) rfl rfl ?_
 refine aK rfl rfl rfl rfl ?_
 refine aK rfl rfl rfl rfl ?_
 refine aK rfl rfl rfl rfl ?_
 refine aK rfl rfl rfl rfl ?_
 refine ap (aP rfl rfl) rfl rfl ?_
 refine ae ?_
 refine aj ?_
 refine ay rfl ?_
 refine ao ?_
 refine ab ?_
 refine ap (ak rfl) rfl rfl ?_
 refine ap (ai rfl) rfl rfl ?_
 refine ap (ai rfl) rfl rfl ?_
 refine ap (ai rfl) rfl rfl ?_
 refine ae ?_
 refine aj ?_
 refine aH ?_
 refine az ?_
 refine aN (ts := [2, 3, 4]) rfl rfl rfl (fun w hw => ?_)
 have hc := cut_no (n := n) (by omega)
 exact ⟨by simp [da, cutL, cutR, hc], hw.base⟩
 refine ap (ak rfl) rfl rfl ?_
 refine aA rfl rfl ?_
 refine ap (ak rfl) rfl rfl ?_
 refine aA rfl rfl ?_
 refine ap (dU rfl rfl) rfl rfl ?_
 refine aG (t := 15) rfl (fun h4_4 => ?_) (fun h4_4 => ?_)
 refine ap (aQ rfl rfl) rfl rfl ?_
 refine ap (ak rfl) rfl rfl ?_
 refine aK rfl rfl rfl rfl ?_
 refine aK rfl rfl rfl rfl ?_
 refine aK rfl rfl rfl rfl ?_
 refine aK rfl rfl rfl rfl ?_
 refine ap (aP rfl rfl) rfl rfl ?_
 refine ae ?_
 refine aj ?_
 refine ay rfl ?_
 refine ao ?_
 refine ab ?_
 refine ap (ak rfl) rfl rfl ?_
 refine ap (ai rfl) rfl rfl ?_
 refine ap (ai rfl) rfl rfl ?_
 refine ap (ai rfl) rfl rfl ?_
 refine ae ?_
 refine aj ?_
 refine aH ?_
 refine az ?_
 refine aN (ts := [2, 3, 4]) rfl rfl rfl (fun w hw => ?_)
 have hc := cut_no (n := n) (by omega)
 exact ⟨by simp [da, cutL, cutR, hc], hw.base⟩
 refine ap (aQ rfl rfl) rfl rfl ?_
 refine ap (ak rfl) rfl rfl ?_
 refine aA rfl rfl ?_
 refine ap (ak rfl) rfl rfl ?_
 refine aA rfl rfl ?_
 refine ap (ak rfl) rfl rfl ?_
 refine aA rfl rfl ?_
 refine ap (dg Tryz.underlying26 rfl) rfl rfl ?_
 refine aA rfl rfl ?_
 refine ap (fu rfl rfl) rfl rfl ?_
 refine aG (t := 21) rfl (fun h4_10 => ?_) (fun h4_10 => ?_)
 refine ap (aQ rfl rfl) rfl rfl ?_
 refine ae ?_
 refine aj ?_
 refine ay rfl ?_
 refine ao ?_
 refine ab ?_
 refine ap (ak rfl) rfl rfl ?_
 refine ap (ai rfl) rfl rfl ?_
 refine ap (ai rfl) rfl rfl ?_
 refine ap (ai rfl) rfl rfl ?_
 refine ae ?_
 refine aj ?_
 refine aH ?_
 refine az ?_
 refine aN (ts := [2, 3, 4]) rfl rfl rfl (fun w hw => ?_)
 have hc := cut_no (n := n) (by omega)
 exact ⟨by simp [da, cutL, cutR, hc], hw.base⟩
 refine ap (aQ rfl rfl) rfl rfl ?_
 refine ae ?_
 refine aj ?_
 refine aw rfl ?_
 refine aL ?_
 refine aj ?_
 refine ao ?_
 refine dH 11 rfl mixed ?_
 refine aB (i := 0) rfl ah (ak rfl) au au rfl (aa aq) (by kernel_rfl) rfl ?_
 refine aB (i := 1) rfl ah (ak rfl) au au rfl (aa aq) (by kernel_rfl) rfl ?_
 refine aB (i := 2) rfl ah (bi rfl rfl (by omega) (by omega)) au au rfl (aa aq) (by kernel_rfl) rfl ?_
 refine aB (i := 3) rfl ah (y_slices (m := 1) (n := 1 + bt n 0) Tryz.underlying26 rfl rfl rfl rfl (by omega) (by omega) (by omega)) au au rfl (aa aq) (by kernel_rfl) rfl ?_
 refine aB (i := 4) rfl ah (ak rfl) au au rfl (aa aq) (by kernel_rfl) rfl ?_
 refine aB (i := 5) rfl ah (ak rfl) au au rfl (aa aq) (by kernel_rfl) rfl ?_
 refine aB (i := 6) rfl ah (bi rfl rfl (by omega) (by omega)) au au rfl (aa aq) (by kernel_rfl) rfl ?_
 refine aB (i := 7) rfl ah (y_slices_lo (m := 1 + bt n 0) Tryz.underlying26 rfl rfl (by omega) (by omega)) au au rfl (aa aq) (by kernel_rfl) rfl ?_
 refine aB (i := 8) rfl ah (ai rfl) au au rfl (aa aq) (by kernel_rfl) rfl ?_
 refine aB (i := 9) rfl ah (ai rfl) au au rfl (aa aq) (by kernel_rfl) rfl ?_
 refine aB (i := 10) rfl ah (ai rfl) au au rfl (aa aq) (by kernel_rfl) rfl ?_
 refine cm (by kernel_rfl) ?_
 refine aj ?_
 refine aH ?_
 refine aN (ts := [2, 3, 4]) rfl rfl rfl (fun w hw => ?_)
 have hc : ct n = true := cutOk_iff.2 ⟨h1_1, by omega, by omega, by omega⟩
 exact ⟨by simp [da, cutL, cutR, hc, lab, rst], hw.base⟩

theorem gv (n : aX) : cC Tryz.prog 74 #[.string (ba n)] (.int .i64 (bg n)) := by
 intro w0
 refine a6 (ok0 := no) (S := []) (args := [.string (ba n)]) 20 Tryz.func74 rfl rfl rfl (by simp) (by simp) ?_
 refine ao ?_
 refine ab ?_
 refine ap (ai rfl) rfl rfl ?_
 refine ae ?_
 refine aj ?_
 refine ao ?_
 refine ao ?_
 refine ab ?_
 refine ap (ak rfl) rfl rfl ?_
 refine ap (dg Tryz.underlying26 rfl) rfl rfl ?_
 refine ap (dU rfl rfl) rfl rfl ?_
 refine aG (t := 8) rfl (fun h1_2 => ?_) (fun h1_2 => ?_)
 refine ae ?_
 refine aj ?_
 refine ay rfl ?_
 refine ao ?_
 refine ab ?_
 refine ap (ai rfl) rfl rfl ?_
 refine ae ?_
 refine aj ?_
 refine aH ?_
 refine az ?_
 refine aN (ts := [2]) rfl rfl rfl (fun w hw => ?_)
 exact ⟨by simp [da, bg, show 254 < n.length by omega], hw.base⟩
 refine ae ?_
 refine aj ?_
 refine aw rfl ?_
 refine aL ?_
 refine aj ?_
 refine ao ?_
 refine aT ?_
 refine bZ (σ := aX) [0, 2, 3, 4, 5, 9, 10, 11, 12, 13, 14, 15, 16, 17, 18, 19] (fun r => gn n = gn r) (fun r => r.length) (fun r => [(0, .string (ba r))]) (n) ?_ ⟨rfl, trivial⟩ (fun r hI => ?_)
 rfl
 refine ao ?_
 refine ao ?_
 refine ab ?_
 refine ap (ak rfl) rfl rfl ?_
 refine ap (y_neqs rfl rfl) rfl rfl ?_
 refine aG (t := 10) rfl (fun h3_1 => ?_) (fun h3_1 => ?_)
 refine ae ?_
 refine aj ?_
 refine ay rfl ?_
 refine aL ?_
 refine aj ?_
 refine aT ?_
 refine ao ?_
 refine ab ?_
 refine ap (ak rfl) rfl rfl ?_
 refine aR rfl ent_149 (gb _) rfl ?_
 refine ap (ak rfl) rfl rfl ?_
 refine ap (aJ rfl rfl) rfl rfl ?_
 refine ap (aJ rfl rfl) rfl rfl ?_
 refine ap (aJ rfl rfl) rfl rfl ?_
 refine bl (t := 16) rfl (fun h4_5 => ?_) (fun h4_5 => ?_)
 refine ap (ai rfl) rfl rfl ?_
 refine ap (ai rfl) rfl rfl ?_
 refine ap (ai rfl) rfl rfl ?_
 refine ae ?_
 refine aj ?_
 refine ao ?_
 refine ao ?_
 refine ab ?_
 refine ap (ak rfl) rfl rfl ?_
 refine ap (bJ rfl) rfl rfl ?_
 refine ae ?_
 refine aj ?_
 refine aw rfl ?_
 refine aL ?_
 refine aj ?_
 refine ab ?_
 refine ap (ak rfl) rfl rfl ?_
 refine ap (ai rfl) rfl rfl ?_
 refine ae ?_
 refine bw ?_
 refine bA (cutR r) ?_ ?_ ⟨rfl, trivial⟩ (by repeat (first | exact trivial | refine ⟨rfl, ?_⟩)) au
 have hc := h4_5
 rw [hI, eA r, hc, cutR_ok hc]; simp [h3_1]
 have hc := h4_5
 exact cutR_lt hc
 refine ap (ai rfl) rfl rfl ?_
 refine ap (ai rfl) rfl rfl ?_
 refine ap (ai rfl) rfl rfl ?_
 refine ae ?_
 refine aj ?_
 refine ao ?_
 refine ao ?_
 refine ab ?_
 refine ap (ak rfl) rfl rfl ?_
 refine ap (bJ rfl) rfl rfl ?_
 refine ae ?_
 refine aj ?_
 refine ay rfl ?_
 refine ao ?_
 refine ab ?_
 refine ap (ai rfl) rfl rfl ?_
 refine ae ?_
 refine aj ?_
 refine aH ?_
 refine az ?_
 refine aU ?_
 refine bv ?_
 refine aU ?_
 refine az ?_
 refine aN (ts := [2]) rfl rfl rfl (fun w hw => ?_)
 have hc := h4_5
 have ho : gn n = false := by rw [hI, eA, hc]; simp [h3_1]
 exact ⟨by simp [da, bg, show ¬ 254 < n.length by omega, ho], hw.base⟩
 refine ae ?_
 refine aj ?_
 refine aw rfl ?_
 refine bG ?_
 refine a7 ?_
 refine aZ ?_
 refine bc ?_
 refine aj ?_
 refine ao ?_
 refine ab ?_
 refine ap (ai rfl) rfl rfl ?_
 refine ae ?_
 refine aj ?_
 refine aH ?_
 refine aN (ts := [2]) rfl rfl rfl (fun w hw => ?_)
 have ho : gn n = true := by rw [hI, show r = [] by simpa using h3_1]; rfl
 exact ⟨by simp [da, bg, show ¬ 254 < n.length by omega, ho], hw.base⟩

theorem c_name_each (n : aX) : RC Tryz.prog 202 #[.string (ba n)] [] (α := Nat) (fun b => .func (.func 236) #[] #[.pointer (some ⟨b, 0, none⟩)]) (fun b => [Ch.row b [.string (ba n)] 26]) := by
 refine bh (args := [.string (ba n)]) 4 Tryz.func202 rfl rfl rfl (fun w0 => ?_)
 refine ao ?_
 refine ab ?_
 refine bx rfl rfl rfl (fun b1 => ?_)
 refine ap (ai rfl) rfl rfl ?_
 refine ae ?_
 refine aj ?_
 refine ao ?_
 refine ab ?_
 refine ap (dE rfl rfl) rfl rfl ?_
 refine ap (ai rfl) rfl rfl ?_
 refine ae ?_
 refine aj ?_
 refine aH ?_
 refine aN (ts := [2]) rfl rfl rfl (fun w hw => ?_)
 exact ⟨b1, rfl, hw.base, (hw.weak (.cons_cons _ .slnil) (fun s hs => hs)).toNews⟩

theorem c_name_each1 (n : aX) (b : Nat) : Iter Tryz.prog 236 [.pointer (some ⟨b, 0, none⟩)] [Ch.row b [.string (ba n)] 26] fq (dG n) := by
 refine iter_of_W 24 Tryz.func236 rfl rfl rfl (fun lr σ I Ix C Sc hy g0 hg0 w0 => ?_)
 refine ao ?_
 refine ab ?_
 refine ap (bL 0 cW rfl rfl rfl) rfl rfl ?_
 refine aR rfl ent_149 (gb _) rfl ?_
 refine ap (ak rfl) rfl rfl ?_
 refine ap (aJ rfl rfl) rfl rfl ?_
 refine ap (aJ rfl rfl) rfl rfl ?_
 refine ap (aJ rfl rfl) rfl rfl ?_
 refine ap (ai rfl) rfl rfl ?_
 refine ap (ai rfl) rfl rfl ?_
 refine ap (ai rfl) rfl rfl ?_
 refine ae ?_
 refine aj ?_
 refine aT ?_
 refine dO (σ := List aX × aX × σ) [3, 4, 5, 12, 13, 14, 15, 16, 17, 18, 19, 20, 21, 22, 23] (fun q => dG n = q.1 ++ dG q.2.1 ∧ I q.1 q.2.2) (fun q => q.2.1.length) (fun q => [(3, .string (ba (cutL q.2.1))), (4, .string (ba (cutR q.2.1))), (5, .bool (ct q.2.1))]) (fun q => C q.2.2) (([], n, g0)) ?_ ⟨rfl, rfl, rfl, trivial⟩ rfl (fun q hI => ?_)
 exact ⟨rfl, hg0⟩
 obtain ⟨pre, r, g⟩ := q
 obtain ⟨hxs, hI⟩ := hI
 dsimp only at hxs hI ⊢
 refine ao ?_
 refine ao ?_
 refine ab ?_
 refine ap (ak rfl) rfl rfl ?_
 refine bl (t := 12) rfl (fun h1_0 => ?_) (fun h1_0 => ?_)
 have hx2 : dG n = pre ++ cutL r :: dG (rst r) := by rw [hxs, e8 r, if_pos h1_0, cutL_ok h1_0]
 refine ap (ak rfl) rfl rfl ?_
 refine aA rfl rfl ?_
 refine ap (ak rfl) rfl rfl ?_
 refine aA rfl rfl ?_
 refine ap (ak rfl) rfl rfl ?_
 refine aA rfl rfl ?_
 refine o_yield rfl rfl (hy pre (cutL r) _ g hx2 hI) (fun _ => .z) (fun s hs => List.mem_append_right _ hs) rfl (fun g' hT => ?_) (fun g' hF => ?_)
 refine ap (aP rfl rfl) rfl rfl ?_
 refine ae ?_
 refine aj ?_
 refine ay rfl ?_
 refine aL ?_
 refine aj ?_
 refine ao ?_
 refine aT ?_
 refine aL ?_
 refine bw ?_
 refine aj ?_
 refine ab ?_
 refine ap (ak rfl) rfl rfl ?_
 refine aR rfl ent_149 (gb _) rfl ?_
 refine ap (ak rfl) rfl rfl ?_
 refine ap (aJ rfl rfl) rfl rfl ?_
 refine ap (aJ rfl rfl) rfl rfl ?_
 refine ap (aJ rfl rfl) rfl rfl ?_
 refine ap (ai rfl) rfl rfl ?_
 refine ap (ai rfl) rfl rfl ?_
 refine ap (ai rfl) rfl rfl ?_
 refine ae ?_
 refine bA ((pre ++ [cutL r], cutR r, g')) ?_ ?_ ⟨rfl, rfl, rfl, trivial⟩ (by repeat (first | exact trivial | refine ⟨rfl, ?_⟩)) au
 exact ⟨by rw [hx2, cutR_ok h1_0]; simp, hT⟩
 exact cutR_lt h1_0
 refine ap (aP rfl rfl) rfl rfl ?_
 refine ae ?_
 refine aj ?_
 refine aw rfl ?_
 refine bG ?_
 refine a7 ?_
 refine aZ ?_
 refine bc ?_
 refine e_end (ts := []) rfl rfl rfl (fun w hw => ?_)
 exact eD _ (.inr ⟨_, dG (rst r), by rw [hx2]; simp, hF⟩) hw
 refine ap (ak rfl) rfl rfl ?_
 refine aK rfl rfl rfl rfl ?_
 refine aK rfl rfl rfl rfl ?_
 refine aK rfl rfl rfl rfl ?_
 refine ap (aQ rfl rfl) rfl rfl ?_
 refine ae ?_
 refine aj ?_
 refine aw rfl ?_
 refine bG ?_
 refine a7 ?_
 refine aZ ?_
 refine bc ?_
 refine e_end (ts := []) rfl rfl rfl (fun w hw => ?_)
 have hr : dG r = [] := by rw [e8, if_neg (by rw [h1_0]; simp)]
 exact eD _ (.inl (by rw [hxs, hr, List.append_nil]; exact hI)) hw

theorem c_AppendSeq_s (xs : List aX) (gf : Nat) (lb : List Value) (Sx : List Ch) (hit : Iter Tryz.prog gf lb Sx fq xs) (hen : Enters Tryz.prog gf) (hl : xs.length ≤ 1000000000000) : RC Tryz.prog 235 #[.slice none 0 0, .func (.func gf) #[] lb.toArray] Sx (α := Option Addr × Nat) (fun p => .slice p.1 xs.length p.2) (fun p => [Ch.ls p.1 p.2 9 1 fq xs]) := by
 refine rc_of_WM (args := [.slice none 0 0, .func (.func gf) #[] lb.toArray]) 13 Tryz.func235 rfl rfl rfl (fun w0 => ?_)
 refine ao ?_
 refine ab ?_
 refine bx rfl rfl rfl (fun b1 => ?_)
 refine ap (ai rfl) rfl rfl ?_
 refine ae ?_
 refine aj ?_
 refine ao ?_
 refine ao ?_
 refine ab ?_
 refine ap (ak rfl) rfl rfl ?_
 refine ae ?_
 refine aj ?_
 refine aT ?_
 refine eX (fun w h => h.nilsl 9 1) ?_
 refine w_range (σ := List aX × Option Addr × Nat) (fun pre g => g.1 = pre) (fun c pre g => False) (fun g => [Ch.ls g.2.1 g.2.2 9 1 fq g.1, Ch.row b1 [.slice g.2.1 g.1.length g.2.2] 135]) (([], none, 0)) rfl rfl hen (hit) (fun s hs => hs) rfl (fun _ => rfl) (rfl) rfl (fun pre e post g hxs hI lr D r hr okb wb => ?_) (fun g D0 hI => ?_) (fun c pre post g D0 hxs hI => ?_)
 obtain ⟨q, A, c⟩ := g
 dsimp only at hI ⊢
 subst hI
 refine ab ?_
 refine ap (ai rfl) rfl rfl ?_
 refine ae ?_
 refine gH rfl hr .z ?_
 refine aT ?_
 refine ab ?_
 have hql : q.length < xs.length := by rw [hxs]; simp
 refine ap (aM 3 ty_135 rfl rfl rfl) rfl rfl ?_
 refine ap (ak rfl) rfl rfl ?_
 refine gq (vs := [_]) ([_] : List (aX)) fd Tryz.underlying135 eb rfl rfl rfl rfl rfl rfl (fun As2 => ?_)
 refine gc (enc := fq) (sz := 1) _ Tryz.underlying135 eb rfl rfl rfl (fun A c => (.s (.s (.s (.z))))) (src_L 0 Tryz.underlying135 rfl) (by simp only [List.length_cons, List.length_nil, Nat.zero_add]; omega) (by simp only [List.length_cons, List.length_nil, Nat.zero_add]; omega) rfl (fun A2 c2 => ?_)
 refine aS ty_135 rfl rfl rfl (.s (.s (.s (.s (.z))))) rfl rfl rfl rfl ?_
 refine ae ?_
 refine bw ?_
 refine e_rend ((q ++ [e], A2, c2)) ?_ (bP 1)
 rfl
 obtain ⟨q, A, c⟩ := g
 dsimp only at hI ⊢
 subst hI
 refine bw ?_
 refine aj ?_
 refine ao ?_
 refine ab ?_
 refine ap (aM 2 ty_135 rfl rfl rfl) rfl rfl ?_
 refine ap (ai rfl) rfl rfl ?_
 refine ae ?_
 refine aj ?_
 refine aH ?_
 refine fe ?_
 refine eQ .z ?_
 refine dT (rs := [.tmp 4]) rfl (cE rfl bM) (fun w hw => ?_)
 exact ⟨(A, c), rfl, hw.base, (hw.weak (.cons _ (.cons_cons _ (.cons _ .slnil))) (fun s hs => hs)).toNews⟩
 exact hI.elim

theorem c_Collect_s (xs : List aX) (gf : Nat) (lb : List Value) (Sx : List Ch) (hit : Iter Tryz.prog gf lb Sx fq xs) (hen : Enters Tryz.prog gf) (hl : xs.length ≤ 1000000000000) : RC Tryz.prog 201 #[.func (.func gf) #[] lb.toArray] Sx (α := Option Addr × Nat) (fun p => .slice p.1 xs.length p.2) (fun p => [Ch.ls p.1 p.2 9 1 fq xs]) := by
 refine bh (args := [.func (.func gf) #[] lb.toArray]) 5 Tryz.func201 rfl rfl rfl (fun w0 => ?_)
 refine ao ?_
 refine ab ?_
 refine ap (ai rfl) rfl rfl ?_
 refine ae ?_
 refine aj ?_
 refine ao ?_
 refine ab ?_
 refine ap (ak rfl) rfl rfl ?_
 refine cw rfl ent_235 rfl (c_AppendSeq_s xs gf lb Sx hit hen hl) (fun w hw => hw.rd) (fun ⟨A0, c0⟩ => ?_)
 refine ap (ai rfl) rfl rfl ?_
 refine ae ?_
 refine aj ?_
 refine aH ?_
 refine aN (ts := [2]) rfl rfl rfl (fun w hw => ?_)
 exact ⟨(A0, c0), rfl, hw.base, (hw.weak (.cons_cons _ .slnil) (fun s hs => hs)).toNews⟩

theorem c_name_Labels (n : aX) : RC Tryz.prog 146 #[.string (ba n)] [] (α := Option Addr × Nat) (fun p => .slice p.1 (bD n).length p.2) (fun p => [Ch.ls p.1 p.2 9 1 fq (bD n)]) := by
 refine bh (args := [.string (ba n)]) 9 Tryz.func146 rfl rfl rfl (fun w0 => ?_)
 refine ao ?_
 refine ab ?_
 refine ap (ai rfl) rfl rfl ?_
 refine ae ?_
 refine aj ?_
 refine ao ?_
 refine ao ?_
 refine ab ?_
 refine ap (ak rfl) rfl rfl ?_
 refine aR rfl ent_74 (gv _) rfl ?_
 refine ap (cc rfl rfl) rfl rfl ?_
 refine aG (t := 5) rfl (fun h1_2 => ?_) (fun h1_2 => ?_)
 refine ae ?_
 refine aj ?_
 refine ay rfl ?_
 refine ao ?_
 refine ab ?_
 refine ap (ai rfl) rfl rfl ?_
 refine ae ?_
 refine aj ?_
 refine aH ?_
 refine az ?_
 refine aN (ts := [2]) rfl rfl rfl (fun w hw => ?_)
 have hl : bD n = [] := if_neg (by omega)
 rw [hl]
 exact ⟨(none, 0), rfl, hw.base, (hw.nilsl 9 1).toNews⟩
 refine ae ?_
 refine aj ?_
 refine aw rfl ?_
 refine aL ?_
 refine aj ?_
 refine ao ?_
 refine ab ?_
 refine ap (ak rfl) rfl rfl ?_
 refine cw rfl ent_202 rfl (c_name_each _) (fun w hw => bf) (fun o0 => ?_)
 refine fc (fun w h => h.freeze) ?_
 have hck : bg n = 0 := by omega
 have hnl := nameCk_zero.1 hck
 have hll := labs_len n
 refine cw rfl ent_201 rfl (c_Collect_s (dG n) 236 [.pointer (some ⟨o0, 0, none⟩)] [Ch.row o0 [.string (ba n)] 26] (c_name_each1 n _) ent_236 (by omega)) (fun w hw => (aW (c8 0 rfl hw) bf)) (fun ⟨A1, c1⟩ => ?_)
 refine ap (ai rfl) rfl rfl ?_
 refine ae ?_
 refine aj ?_
 refine aH ?_
 refine aN (ts := [2]) rfl rfl rfl (fun w hw => ?_)
 have hl : bD n = dG n := if_pos hck
 rw [hl]
 exact ⟨(A1, c1), rfl, hw.base, hw.toNews⟩
end Go.Proofs.YtnpdgmoeoidppaaGreat

/- strings.Builder, name.Make, name.Fold -/
namespace Go.Proofs.YtnpdgmoeoidppaaGreat
open Go.RowKit Go.Shelf
set_option linter.unusedVariables false
set_option linter.unusedSimpArgs false

theorem ent_146 : Enters Tryz.prog 146 := enters_of Tryz.func146 (by kernel_rfl) rfl
theorem ent_147 : Enters Tryz.prog 147 := enters_of Tryz.func147 (by kernel_rfl) rfl
theorem ent_148 : Enters Tryz.prog 148 := enters_of Tryz.func148 (by kernel_rfl) rfl
theorem ent_205 : Enters Tryz.prog 205 := enters_of Tryz.func205 (by kernel_rfl) rfl
theorem ent_206 : Enters Tryz.prog 206 := enters_of Tryz.func206 (by kernel_rfl) rfl
theorem ent_207 : Enters Tryz.prog 207 := enters_of Tryz.func207 (by kernel_rfl) rfl
theorem ent_208 : Enters Tryz.prog 208 := enters_of Tryz.func208 (by kernel_rfl) rfl
theorem ent_209 : Enters Tryz.prog 209 := enters_of Tryz.func209 (by kernel_rfl) rfl
theorem ent_237 : Enters Tryz.prog 237 := enters_of Tryz.func237 (by kernel_rfl) rfl
theorem gz : FA Tryz.prog 246 0 0 := fun b o w => by kernel_rfl
theorem d9 : FA Tryz.prog 246 1 1 := fun b o w => by kernel_rfl
theorem ty_244 : TyI Tryz.prog 244 false 1 8 (.pointer none) := TyI.mk' (by kernel_rfl) (fun _ => by kernel_rfl)
theorem ty_246 : TyI Tryz.prog 246 true 2 32 (.agg #[.pointer none, .slice none 0 0]) := TyI.mk' (by kernel_rfl) (fun _ => by kernel_rfl)
theorem ty_75 : TyI Tryz.prog 75 false 1 24 (.slice none 0 0) := TyI.mk' (by kernel_rfl) (fun _ => by kernel_rfl)

theorem c_copyCheck (b : Nat) (A : Option Addr) (c : Nat) (s : aX) : UC Tryz.prog 237 #[.pointer (some ⟨b, 0, none⟩)] [] (Ch.bld 246 5 b A c s) (α := Unit) (fun _ => .tuple #[]) (fun _ => Ch.bld 246 5 b A c s) := by
 refine eZ (args := [.pointer (some ⟨b, 0, none⟩)]) 20 Tryz.func237 rfl rfl rfl (fun w0 => ?_)
 refine w_bldo fun p hp => ?_
 rcases hp with rfl | rfl
 refine ao ?_
 refine ab ?_
 refine ap (ak rfl) rfl rfl ?_
 refine ap (bb rfl) rfl rfl ?_
 refine ap (aD gz rfl) rfl rfl ?_
 refine ap (aM 0 ty_244 rfl rfl rfl) rfl rfl ?_
 refine ap (gp Tryz.underlying244 rfl rfl) rfl rfl ?_
 refine bW (t := 6) (.bool true) rfl (congrArg Value.bool rfl) ?_
 refine ae ?_
 refine aj ?_
 refine ay rfl ?_
 refine ab ?_
 refine ap (ak rfl) rfl rfl ?_
 refine ap (ak rfl) rfl rfl ?_
 refine ap (y_tou (n := 2) Tryz.underlying244 Tryz.underlying287 ty_246 rfl (by omega) rfl (shape_rown 0 rfl rfl)) rfl rfl ?_
 refine o_ext rfl (fun w => by rw [run_callFunc_extern Tryz.func255 (by kernel_rfl) (by kernel_rfl) (by kernel_rfl) (e := Extern.AbiNoEscape.same) (by kernel_rfl), Lib.run_noEscape]; rfl) rfl ?_
 refine ap (y_fromu (n := 2) Tryz.underlying287 Tryz.underlying244 ty_246 (by kernel_rfl) rfl (shape_rown 0 rfl rfl)) rfl rfl ?_
 refine ap (bb rfl) rfl rfl ?_
 refine ap (aD gz rfl) rfl rfl ?_
 refine aS ty_244 rfl rfl rfl .z rfl rfl rfl rfl ?_
 refine ae ?_
 refine e_end (ts := []) rfl rfl rfl (fun w hw => ?_)
 exact ⟨(), rfl, (Hp.bldc (.inr rfl) rfl rfl hw).uc⟩
 refine ao ?_
 refine ab ?_
 refine ap (ak rfl) rfl rfl ?_
 refine ap (bb rfl) rfl rfl ?_
 refine ap (aD gz rfl) rfl rfl ?_
 refine ap (aM 0 ty_244 rfl rfl rfl) rfl rfl ?_
 refine ap (gp Tryz.underlying244 rfl rfl) rfl rfl ?_
 refine bW (t := 6) (.bool false) rfl (congrArg Value.bool rfl) ?_
 refine ae ?_
 refine aj ?_
 refine aw rfl ?_
 refine ao ?_
 refine ab ?_
 refine ap (ak rfl) rfl rfl ?_
 refine ap (bb rfl) rfl rfl ?_
 refine ap (aD gz rfl) rfl rfl ?_
 refine ap (aM 0 ty_244 rfl rfl rfl) rfl rfl ?_
 refine ap (ak rfl) rfl rfl ?_
 refine ap (y_neps Tryz.underlying244 ty_246 rfl rfl) rfl rfl ?_
 refine ae ?_
 refine aj ?_
 refine aw rfl ?_
 refine aL ?_
 refine e_end (ts := []) rfl rfl rfl (fun w hw => ?_)
 exact ⟨(), rfl, (Hp.bldc (.inr rfl) rfl rfl hw).uc⟩

theorem c_WriteByte (b : Nat) (A : Option Addr) (c : Nat) (s : aX) (ch : UInt8) (hs : s.length ≤ 1000000000000) : UC Tryz.prog 206 #[.pointer (some ⟨b, 0, none⟩), .int .u8 ch.toNat] [] (Ch.bld 246 5 b A c s) (α := Option Addr × Nat) (fun p => .nilIface) (fun p => Ch.bld 246 5 b p.1 p.2 (s ++ [ch])) := by
 refine eZ (args := [.pointer (some ⟨b, 0, none⟩), .int .u8 ch.toNat]) 17 Tryz.func206 rfl rfl rfl (fun w0 => ?_)
 refine ao ?_
 refine ab ?_
 refine ap (ai rfl) rfl rfl ?_
 refine ae ?_
 refine aj ?_
 refine ao ?_
 refine ab ?_
 refine ap (ak rfl) rfl rfl ?_
 refine cD rfl ent_237 rfl (c_copyCheck _ _ _ _) (fun o => .z) (List.mem_of_getElem? (i := 0) rfl) (fun s hs => nomatch hs) (fun o0 => ?_)
 refine ae ?_
 refine aj ?_
 refine ao ?_
 refine w_bldo fun p hp => ?_
 refine ab ?_
 refine ap (ak rfl) rfl rfl ?_
 refine ap (ak rfl) rfl rfl ?_
 refine ap (bb rfl) rfl rfl ?_
 refine ap (aD d9 rfl) rfl rfl ?_
 refine ap (aM 0 ty_75 rfl rfl rfl) rfl rfl ?_
 refine ap (ak rfl) rfl rfl ?_
 refine gq (vs := [_]) ([_] : List (UInt8)) gP Tryz.underlying75 fA rfl rfl rfl rfl rfl rfl (fun As2 => ?_)
 refine gc (enc := encb) (sz := 1) _ Tryz.underlying75 fA rfl rfl rfl (fun A c => (.s (.s (.z)))) (src_L 0 Tryz.underlying75 rfl) (by simp only [List.length_cons, List.length_nil, Nat.zero_add]; omega) (by simp only [List.length_cons, List.length_nil, Nat.zero_add]; omega) rfl (fun A2 c2 => ?_)
 refine ap (bb rfl) rfl rfl ?_
 refine ap (aD d9 rfl) rfl rfl ?_
 refine aS ty_75 rfl rfl rfl (.s (.z)) rfl rfl rfl rfl ?_
 refine ae ?_
 refine aj ?_
 refine ao ?_
 refine ab ?_
 refine ap (ai rfl) rfl rfl ?_
 refine ae ?_
 refine aj ?_
 refine aH ?_
 refine aN (ts := [4]) rfl rfl rfl (fun w hw => ?_)
 exact ⟨(A2, c2), rfl, (Hp.bldc hp rfl rfl (hw.weak (.cons _ (.cons_cons _ (.cons_cons _ .slnil))) (fun s hs => hs))).uc⟩

theorem c_WriteString (b : Nat) (A : Option Addr) (c : Nat) (s t : aX) (hs : s.length + t.length ≤ 1000000000000) : UC Tryz.prog 207 #[.pointer (some ⟨b, 0, none⟩), .string (ba t)] [] (Ch.bld 246 5 b A c s) (α := Option Addr × Nat) (fun p => .tuple #[.int .i64 t.length, .nilIface]) (fun p => Ch.bld 246 5 b p.1 p.2 (s ++ t)) := by
 refine eZ (args := [.pointer (some ⟨b, 0, none⟩), .string (ba t)]) 19 Tryz.func207 rfl rfl rfl (fun w0 => ?_)
 refine ao ?_
 refine ab ?_
 refine ap (ai rfl) rfl rfl ?_
 refine ap (ai rfl) rfl rfl ?_
 refine ae ?_
 refine aj ?_
 refine ao ?_
 refine ab ?_
 refine ap (ak rfl) rfl rfl ?_
 refine cD rfl ent_237 rfl (c_copyCheck _ _ _ _) (fun o => .z) (List.mem_of_getElem? (i := 0) rfl) (fun s hs => nomatch hs) (fun o0 => ?_)
 refine ae ?_
 refine aj ?_
 refine ao ?_
 refine w_bldo fun p hp => ?_
 refine ab ?_
 refine ap (ak rfl) rfl rfl ?_
 refine ap (ak rfl) rfl rfl ?_
 refine ap (bb rfl) rfl rfl ?_
 refine ap (aD d9 rfl) rfl rfl ?_
 refine ap (aM 0 ty_75 rfl rfl rfl) rfl rfl ?_
 refine ap (ak rfl) rfl rfl ?_
 refine gc (enc := encb) (sz := 1) t Tryz.underlying75 fA rfl rfl rfl (fun A c => (.s (.z))) (src_str Tryz.underlying9) (by omega) (by omega) rfl (fun A1 c1 => ?_)
 refine ap (bb rfl) rfl rfl ?_
 refine ap (aD d9 rfl) rfl rfl ?_
 refine aS ty_75 rfl rfl rfl .z rfl rfl rfl rfl ?_
 refine ae ?_
 refine aj ?_
 refine ao ?_
 refine ab ?_
 refine ap (ak rfl) rfl rfl ?_
 refine ap (dg Tryz.underlying9 rfl) rfl rfl ?_
 refine ap (ai rfl) rfl rfl ?_
 refine ap (ai rfl) rfl rfl ?_
 refine ae ?_
 refine aj ?_
 refine aH ?_
 refine aN (ts := [4, 5]) rfl rfl rfl (fun w hw => ?_)
 exact ⟨(A1, c1), rfl, (Hp.bldc hp rfl rfl (hw.weak (.cons_cons _ (.cons_cons _ .slnil)) (fun s hs => hs))).uc⟩

theorem c_bld_Len (b : Nat) (A : Option Addr) (c : Nat) (s : aX) : RC Tryz.prog 208 #[.pointer (some ⟨b, 0, none⟩)] [Ch.bld 246 5 b A c s] (α := Unit) (fun _ => .int .i64 s.length) (fun _ => []) := by
 refine bh (args := [.pointer (some ⟨b, 0, none⟩)]) 8 Tryz.func208 rfl rfl rfl (fun w0 => ?_)
 refine ao ?_
 refine ab ?_
 refine ap (ai rfl) rfl rfl ?_
 refine ae ?_
 refine aj ?_
 refine ao ?_
 refine ab ?_
 refine ap (ak rfl) rfl rfl ?_
 refine ap (bb rfl) rfl rfl ?_
 refine ap (aD d9 rfl) rfl rfl ?_
 refine ap (y_load ty_75 rfl (fun w hw => bld_cell (hw.sh _ (List.mem_of_getElem? (i := 0) rfl)))) rfl rfl ?_
 refine ap (ck Tryz.underlying75 rfl) rfl rfl ?_
 refine ap (ai rfl) rfl rfl ?_
 refine ae ?_
 refine aj ?_
 refine aH ?_
 refine aN (ts := [2]) rfl rfl rfl (fun w hw => ?_)
 exact ⟨(), rfl, hw.base, hw.toNews⟩

set_option maxRecDepth 100000 in
theorem c_bld_String (b : Nat) (A : Option Addr) (c : Nat) (s : aX) : UC Tryz.prog 209 #[.pointer (some ⟨b, 0, none⟩)] [] (Ch.bld 246 5 b A c s) (α := Unit) (fun _ => .string (ba s)) (fun _ => Ch.nil0) := by
 refine eZ (args := [.pointer (some ⟨b, 0, none⟩)]) 14 Tryz.func209 rfl rfl rfl (fun w0 => ?_)
 refine ao ?_
 refine ab ?_
 refine ap (ai rfl) rfl rfl ?_
 refine ae ?_
 refine aj ?_
 refine ao ?_
 refine w_bldo fun p hp => ?_
 refine w_sf ?_
 refine dH 12 rfl mixed ?_
 refine aB (i := 0) rfl ah (ak rfl) au au rfl (aa aq) (by kernel_rfl) rfl ?_
 refine aB (i := 1) rfl ah (bb rfl) au au rfl (aa aq) (by kernel_rfl) rfl ?_
 refine aB (i := 2) rfl ah (aD d9 rfl) au au rfl (aa aq) (by kernel_rfl) rfl ?_
 refine aB (i := 3) rfl ah (aM 0 ty_75 rfl rfl rfl) au au rfl (aa aq) (by kernel_rfl) rfl ?_
 refine aB (i := 5) rfl ah (ak rfl) au au rfl (aa aq) (by kernel_rfl) rfl ?_
 refine aB (i := 6) rfl ah (bb rfl) au au rfl (aa aq) (by kernel_rfl) rfl ?_
 refine aB (i := 7) rfl ah (aD d9 rfl) au au rfl (aa aq) (by kernel_rfl) rfl ?_
 refine aB (i := 8) rfl ah (aM 0 ty_75 rfl rfl rfl) au au rfl (aa aq) (by kernel_rfl) rfl ?_
 refine aB (i := 9) rfl ah (ck Tryz.underlying75 rfl) au au rfl (aa aq) (by kernel_rfl) rfl ?_
 refine cB (i := 4) rfl rfl rfl (fun _ _ _ => bo (by kernel_rfl)) (by kernel_rfl) rfl ?_
 refine o_usd (c := c) (s := s) Tryz.underlying273 rfl (fun w hw => hw.own _ (List.mem_of_getElem? (i := 1) rfl)) rfl (fun q hq => ?_)
 refine ae ?_
 refine cN au ?_
 refine cB (i := 10) rfl rfl rfl (fun _ _ _ => bo (by kernel_rfl)) (by kernel_rfl) rfl ?_
 refine o_us Tryz.underlying273 (by kernel_rfl) rfl rfl hq (.s .z) rfl ?_
 refine ae ?_
 refine cN au ?_
 refine aB (i := 11) rfl ah (ai rfl) au au rfl (aa aq) (by kernel_rfl) rfl ?_
 refine cm (by kernel_rfl) ?_
 refine aj ?_
 refine aH ?_
 refine aN (ts := [2]) rfl rfl rfl (fun w hw => ?_)
 exact ⟨(), rfl, hw.uc0⟩

/-- No more octets than are held. -/
theorem c4 {α : Type} (l : List α) (d : α) (k : Nat) (h : k < l.length) : l.take (k + 1) = l.take k ++ [l.getD k d] := by
  rw [List.take_succ_eq_append_getElem h]; simp [List.getD_eq_getElem?_getD, h]
theorem dI {α : Type} (l : List α) (d : α) (k : Nat) (h : k < l.length) : l.drop k = l.getD k d :: l.drop (k + 1) := by
  rw [List.drop_eq_getElem_cons h]; simp [List.getD_eq_getElem?_getD, h]
theorem eT (ls : List aX) (k : Nat) : (cM (ls.take k)).length ≤ (cM ls).length := by
  have e : cM ls = cM (ls.take k) ++ cM (ls.drop k) := by rw [← dQ, List.take_append_drop]
  rw [e, List.length_append]; omega
theorem encn_one (s : aX) : cM [s] = UInt8.ofNat s.length :: s := by simp [cM]
theorem encn_ge : ∀ ls : List aX, ls.length ≤ (cM ls).length
  | [] => Nat.le_refl _
  | s :: r => by have := encn_ge r; rw [eH]; simp; omega

theorem c_name_Make (ls : List aX) (A : Option Addr) (ca : Nat) (hl : (cM ls).length ≤ 1000000000000) : RC Tryz.prog 148 #[.slice A ls.length ca] [Ch.rd A 1 fq ls] (α := Unit) (fun _ => .tuple #[.string (ba (ek ls).1), .int .i64 (ek ls).2]) (fun _ => []) := by
 refine bh (args := [.slice A ls.length ca]) 38 Tryz.func148 rfl rfl rfl (fun w0 => ?_)
 have hge := encn_ge ls
 refine ao ?_
 refine ab ?_
 refine ap (ai rfl) rfl rfl ?_
 refine ap (ai rfl) rfl rfl ?_
 refine ae ?_
 refine aj ?_
 refine ao ?_
 refine ao ?_
 refine ab ?_
 refine ap (ak rfl) rfl rfl ?_
 refine ap (ck Tryz.underlying135 rfl) rfl rfl ?_
 refine ap (ak rfl) rfl rfl ?_
 refine ae ?_
 refine aj ?_
 refine aT ?_
 refine bZ (σ := Nat) [2, 3, 5, 6, 12, 13, 14, 15, 16, 17, 18, 19, 20, 21] (fun k => k ≤ ls.length ∧ b8 ls = b8 (ls.drop k)) (fun k => ls.length - k) (fun k => [(12, .int .i64 k)]) (0) ?_ ⟨rfl, trivial⟩ (fun k hI => ?_)
 exact ⟨Nat.zero_le _, rfl⟩
 refine ao ?_
 refine ab ?_
 refine ap (bQ rfl rfl) rfl rfl ?_
 refine aG (t := 13) rfl (fun h2_0 => ?_) (fun h2_0 => ?_)
 refine ae ?_
 refine aj ?_
 refine ao ?_
 refine ay rfl ?_
 refine aL ?_
 refine aj ?_
 refine ao ?_
 refine aT ?_
 refine ao ?_
 refine ab ?_
 refine ap (cp  Tryz.underlying135 eb rfl rfl (cI 0 rfl) rfl (by omega)) rfl rfl ?_
 refine ap (dd fd ([] : aX) eb rfl (cI 0 rfl) (by omega) rfl rfl) rfl rfl ?_
 refine ap (ai rfl) rfl rfl ?_
 refine ae ?_
 refine aj ?_
 refine ao ?_
 refine ab ?_
 refine ap (ak rfl) rfl rfl ?_
 refine aR rfl ent_205 (c_label_Check _) rfl ?_
 refine ap (ai rfl) rfl rfl ?_
 refine ae ?_
 refine aj ?_
 refine ao ?_
 refine ab ?_
 refine ap (ak rfl) rfl rfl ?_
 refine ap (cc rfl rfl) rfl rfl ?_
 refine aG (t := 19) rfl (fun h5_1 => ?_) (fun h5_1 => ?_)
 refine ae ?_
 refine aj ?_
 refine ay rfl ?_
 refine ao ?_
 refine ab ?_
 refine ap (ak rfl) rfl rfl ?_
 refine ap (ai rfl) rfl rfl ?_
 refine ap (ai rfl) rfl rfl ?_
 refine ae ?_
 refine aj ?_
 refine aH ?_
 refine aU ?_
 refine az ?_
 refine bv ?_
 refine aU ?_
 refine az ?_
 refine aN (ts := [2, 3]) rfl rfl rfl (fun w hw => ?_)
 have hk : k < ls.length := by omega
 have hdk := dI ls [] k hk
 have hf : b8 ls = ef (ls.getD k []) := by rw [hI.2, hdk, b8, if_neg (by omega)]
 exact ⟨(), by rw [ek, if_pos (by omega), hf]; rfl, hw.base, hw.toNews⟩
 refine ae ?_
 refine aj ?_
 refine aw rfl ?_
 refine aL ?_
 refine bw ?_
 refine aj ?_
 refine ab ?_
 refine ap (bi rfl rfl (by omega) (by omega)) rfl rfl ?_
 refine ap (ak rfl) rfl rfl ?_
 refine ae ?_
 have hk : k < ls.length := by omega
 have hdk := dI ls [] k hk
 refine bA (k + 1) ?_ ?_ ⟨rfl, trivial⟩ (by repeat (first | exact trivial | refine ⟨rfl, ?_⟩)) au
 exact ⟨by omega, by rw [hI.2, hdk, b8, if_pos (by omega)]⟩
 omega
 refine ae ?_
 refine aj ?_
 refine ao ?_
 refine aw rfl ?_
 refine bG ?_
 refine a7 ?_
 refine aZ ?_
 refine bc ?_
 refine aj ?_
 refine ao ?_
 have hz : b8 ls = 0 := by rw [hI.2, List.drop_of_length_le (by omega)]; rfl
 refine ab ?_
 refine bj ty_246 rfl rfl (fun b1 => ?_)
 refine fc (fun w h => h.bldn 5) ?_
 refine ae ?_
 refine aj ?_
 refine ao ?_
 refine ao ?_
 refine ab ?_
 refine ap (ak rfl) rfl rfl ?_
 refine ap (ck Tryz.underlying135 rfl) rfl rfl ?_
 refine ap (ak rfl) rfl rfl ?_
 refine ae ?_
 refine aj ?_
 refine aT ?_
 refine dO (σ := Nat × Option Addr × Nat) [9, 24, 25, 26, 27, 28, 29, 30, 31, 32, 33, 34] (fun q => q.1 ≤ ls.length) (fun q => ls.length - q.1) (fun q => [(24, .int .i64 q.1)]) (fun q => Ch.bld 246 5 b1 q.2.1 q.2.2 (cM (ls.take q.1))) ((0, none, 0)) ?_ ⟨rfl, trivial⟩ rfl (fun q hI => ?_)
 exact Nat.zero_le _
 obtain ⟨k, A3, c3⟩ := q
 dsimp only at hI ⊢
 have htl := eT ls k
 refine ao ?_
 refine ab ?_
 refine ap (bQ rfl rfl) rfl rfl ?_
 refine aG (t := 25) rfl (fun h10_0 => ?_) (fun h10_0 => ?_)
 refine ae ?_
 refine aj ?_
 refine ao ?_
 refine ay rfl ?_
 refine aL ?_
 refine aj ?_
 refine ao ?_
 refine aT ?_
 refine ao ?_
 refine ab ?_
 refine ap (cp  Tryz.underlying135 eb rfl rfl (cI 0 rfl) rfl (by omega)) rfl rfl ?_
 refine ap (dd fd ([] : aX) eb rfl (cI 0 rfl) (by omega) rfl rfl) rfl rfl ?_
 refine ap (ai rfl) rfl rfl ?_
 refine ae ?_
 refine aj ?_
 refine ao ?_
 refine ab ?_
 refine ap (ak rfl) rfl rfl ?_
 refine ap (dg Tryz.underlying9 rfl) rfl rfl ?_
 refine ap (fv Tryz.underlying3 Tryz.underlying5 rfl) rfl rfl ?_
 have hk : k < ls.length := by omega
 have hlk : 1 ≤ (ls.getD k []).length ∧ (ls.getD k []).length ≤ 63 := firstCk_zero.1 hz (ls.getD k []) (by rw [List.getD_eq_getElem?_getD, List.getElem?_eq_getElem hk]; exact List.getElem_mem hk)
 have hlk2 := hlk
 refine bW (t := 30) (.int .u8 ((UInt8.ofNat (ls.getD k []).length).toNat : Int)) rfl (congrArg _ (by rw [dW (by omega) (by omega), u8len hlk2.2])) ?_
 have htk := c4 ls [] k hk
 have htl2 := eT ls (k + 1)
 rw [htk, dQ, encn_one, List.length_append, List.length_cons] at htl2
 refine cD rfl ent_206 rfl (c_WriteByte _ _ _ _ _ (by omega)) (fun o => .z) (List.mem_of_getElem? (i := 0) rfl) (fun s hs => nomatch hs) (fun o1 => ?_)
 refine ae ?_
 refine aj ?_
 refine ab ?_
 refine ap (ak rfl) rfl rfl ?_
 refine cD rfl ent_207 rfl (c_WriteString _ _ _ _ _ (by rw [List.length_append, List.length_singleton]; omega)) (fun o => .z) (List.mem_of_getElem? (i := 0) rfl) (fun s hs => nomatch hs) (fun o2 => ?_)
 refine ae ?_
 refine bw ?_
 refine aj ?_
 refine ab ?_
 refine ap (bi rfl rfl (by omega) (by omega)) rfl rfl ?_
 refine ap (ak rfl) rfl rfl ?_
 refine ae ?_
 have hk : k < ls.length := by omega
 have htk := c4 ls [] k hk
 refine bA ((k + 1, o2.1, o2.2)) ?_ ?_ ⟨rfl, trivial⟩ (by repeat (first | exact trivial | refine ⟨rfl, ?_⟩)) (fun w h => by show Hp _ _ (Ch.bld _ _ _ _ _ (cM (ls.take (k + 1))) :: _) _ _; rw [htk, dQ, encn_one]; have h2 := h; rw [List.append_assoc] at h2; exact h2)
 show k + 1 ≤ ls.length
 omega
 show ls.length - (k + 1) < ls.length - k
 omega
 refine ae ?_
 refine aj ?_
 refine ao ?_
 refine aw rfl ?_
 refine bG ?_
 refine a7 ?_
 refine aZ ?_
 refine bc ?_
 refine aj ?_
 refine ao ?_
 refine ao ?_
 refine ab ?_
 refine bu rfl ent_208 rfl (c_bld_Len _ _ _ _) (fun w hw => aW (rd_L 0 rfl hw) bf) ?_
 refine ap (dU rfl rfl) rfl rfl ?_
 refine aG (t := 36) rfl (fun h15_1 => ?_) (fun h15_1 => ?_)
 refine ae ?_
 refine aj ?_
 refine ay rfl ?_
 refine ao ?_
 refine ab ?_
 refine ap (ai rfl) rfl rfl ?_
 refine ap (ai rfl) rfl rfl ?_
 refine ae ?_
 refine aj ?_
 refine aH ?_
 refine az ?_
 refine aN (ts := [2, 3]) rfl rfl rfl (fun w hw => ?_)
 have hk : k = ls.length := by omega
 rw [hk, List.take_length] at h15_1
 exact ⟨(), by rw [ek, if_neg (by omega), if_pos (by omega)]; rfl, hw.base, (hw.weak (List.nil_sublist _) (fun s hs => hs)).toNews⟩
 refine ae ?_
 refine aj ?_
 refine aw rfl ?_
 refine aL ?_
 refine aj ?_
 refine ao ?_
 refine ab ?_
 refine cD rfl ent_209 rfl (c_bld_String _ _ _ _) (fun o => .z) (List.mem_of_getElem? (i := 0) rfl) (fun s hs => nomatch hs) (fun o3 => ?_)
 refine ap (ai rfl) rfl rfl ?_
 refine ap (ai rfl) rfl rfl ?_
 refine ae ?_
 refine aj ?_
 refine aH ?_
 refine aN (ts := [2, 3]) rfl rfl rfl (fun w hw => ?_)
 have hk : k = ls.length := by omega
 subst hk
 rw [List.take_length] at h15_1 ⊢
 exact ⟨(), by rw [ek, if_neg (by omega), if_neg (by omega)]; rfl, hw.base, (hw.weak (List.nil_sublist _) (fun s hs => hs)).toNews⟩

theorem mapS_step (t : aX → aX) (l : List aX) (k : Nat) (h : k < l.length) : ((l.take k).map t ++ l.drop k).set k (t (l.getD k [])) = (l.take (k + 1)).map t ++ l.drop (k + 1) := by
  have e : l.getD k [] = l[k] := by simp [List.getD_eq_getElem?_getD, h]
  have hk : k - ((l.take k).map t).length = 0 := by simp; omega
  rw [List.set_append_right _ _ (by simp; omega), hk, List.drop_eq_getElem_cons h, List.set_cons_zero, e, List.take_succ_eq_append_getElem h, List.map_append]
  simp
theorem mapS_at (t : aX → aX) (l : List aX) (k : Nat) (h : k < l.length) : ((l.take k).map t ++ l.drop k).getD k [] = l.getD k [] := by
  simp [List.getD_eq_getElem?_getD, List.getElem?_append_right, Nat.min_eq_left (Nat.le_of_lt h)]
theorem cj (t : aX → aX) (l : List aX) (k : Nat) : ((l.take k).map t ++ l.drop k).length = l.length := by simp; omega
theorem labsN_le (n : aX) (h : n.length ≤ 1000000000) : (bD n).length ≤ 254 ∧ (∀ s ∈ bD n, 1 ≤ s.length ∧ s.length ≤ 63) ∧ (cM ((bD n).map db)).length ≤ 254 := by
  unfold bD
  by_cases hc : bg n = 0
  · rw [if_pos hc]
    obtain ⟨h1, h2⟩ := nameCk_zero.1 hc
    have := labs_len n
    refine ⟨by omega, dX n, ?_⟩
    rw [gL _ (dX n), cJ, eE n h2]; exact h1
  · rw [if_neg hc]; exact ⟨by simp, nofun, by simp [cM]⟩

theorem fold_b {n : aX} {k : Nat} (hk : k < (bD n).length) (h : ∀ s ∈ bD n, 1 ≤ s.length ∧ s.length ≤ 63) : ((((bD n).take k).map db ++ (bD n).drop k).getD k []).length ≤ 1000000000000 := by
  have e : (bD n).getD k [] = (bD n)[k] := by simp [List.getD_eq_getElem?_getD, hk]
  rw [mapS_at db _ k hk, e]
  have := h _ (List.getElem_mem hk)
  omega

theorem c_name_Fold (n : aX) (hn : n.length ≤ 1000000000) : RC Tryz.prog 73 #[.string (ba n)] [] (α := Unit) (fun _ => .string (ba (aY n))) (fun _ => []) := by
 refine bh (args := [.string (ba n)]) 29 Tryz.func73 rfl rfl rfl (fun w0 => ?_)
 refine ao ?_
 refine ab ?_
 refine ap (ai rfl) rfl rfl ?_
 refine ae ?_
 refine aj ?_
 refine ao ?_
 refine ab ?_
 refine ap (ak rfl) rfl rfl ?_
 refine cw rfl ent_146 rfl (c_name_Labels _) (fun w hw => bf) (fun ⟨A0, c0⟩ => ?_)
 have hlb := labsN_le n hn
 refine ap (ai rfl) rfl rfl ?_
 refine ae ?_
 refine aj ?_
 refine ao ?_
 refine ao ?_
 refine ab ?_
 refine ap (ak rfl) rfl rfl ?_
 refine ap (ck Tryz.underlying135 rfl) rfl rfl ?_
 refine ap (ak rfl) rfl rfl ?_
 refine ae ?_
 refine aj ?_
 refine aT ?_
 refine dO (σ := Nat) [3, 4, 5, 10, 12, 13, 14, 15, 16, 17, 18, 19, 20, 21, 22] (fun k => k ≤ (bD n).length) (fun k => (bD n).length - k) (fun k => [(12, .int .i64 k), (10, .slice A0 (((bD n).take k).map db ++ (bD n).drop k).length c0), (3, .slice A0 (((bD n).take k).map db ++ (bD n).drop k).length c0)]) (fun k => Ch.ls A0 c0 9 1 fq (((bD n).take k).map db ++ (bD n).drop k)) (0) ?_ ⟨rfl, rfl, rfl, trivial⟩ rfl (fun k hI => ?_)
 exact Nat.zero_le _
 have hml := cj db (bD n) k
 refine ao ?_
 refine ab ?_
 refine ap (bQ rfl rfl) rfl rfl ?_
 refine aG (t := 13) rfl (fun h3_0 => ?_) (fun h3_0 => ?_)
 refine ae ?_
 refine aj ?_
 refine ao ?_
 refine ay rfl ?_
 refine aL ?_
 refine aj ?_
 refine ao ?_
 refine aT ?_
 refine ao ?_
 refine ab ?_
 refine ap (ak rfl) rfl rfl ?_
 refine ap (cp  Tryz.underlying135 eb rfl rfl (ec 0 rfl) rfl (by rw [cj]; omega)) rfl rfl ?_
 refine ap (dd fd ([] : aX) eb rfl (ec 0 rfl) (by rw [cj]; omega) rfl rfl) rfl rfl ?_
 refine ap (ai rfl) rfl rfl ?_
 refine ap (ai rfl) rfl rfl ?_
 refine ae ?_
 refine aj ?_
 refine ab ?_
 refine ap (ak rfl) rfl rfl ?_
 refine ap (ak rfl) rfl rfl ?_
 refine ap (ak rfl) rfl rfl ?_
 refine aR rfl ent_147 (c_label_Fold _ (fold_b (by omega) hlb.2.1)) rfl ?_
 refine ap (cp  Tryz.underlying135 eb rfl rfl (ec 0 rfl) rfl (by rw [cj]; omega)) rfl rfl ?_
 refine o_stm0 fd ([] : aX) _ eb rfl rfl rfl .z rfl (by rw [cj]; omega) rfl rfl rfl ?_
 refine ae ?_
 refine bw ?_
 refine aj ?_
 refine ab ?_
 refine ap (bi rfl rfl (by omega) (by omega)) rfl rfl ?_
 refine ap (ak rfl) rfl rfl ?_
 refine ae ?_
 have hk : k < (bD n).length := by omega
 refine bA (k + 1) ?_ ?_ ⟨rfl, lk rfl (by rw [cj, cj]), lk rfl (by rw [cj, cj]), trivial⟩ (by repeat (first | exact trivial | refine ⟨rfl, ?_⟩)) (fun w h => by rw [mapS_at db (bD n) k hk, mapS_step db (bD n) k hk] at h; exact h)
 omega
 omega
 refine ae ?_
 refine aj ?_
 refine ao ?_
 refine aw rfl ?_
 refine bG ?_
 refine a7 ?_
 refine aZ ?_
 refine bc ?_
 refine aj ?_
 refine ao ?_
 refine ab ?_
 obtain rfl : k = (bD n).length := by omega
 refine ap (ak rfl) rfl rfl ?_
 refine bu rfl ent_148 rfl (c_name_Make _ _ _ (by have := hlb.2.2; simp; omega)) (fun w hw => (aW (gM 0 rfl hw) bf)) ?_
 refine ap (ak rfl) rfl rfl ?_
 refine ap (aJ rfl rfl) rfl rfl ?_
 refine ap (aJ rfl rfl) rfl rfl ?_
 refine ap (ai rfl) rfl rfl ?_
 refine ap (ai rfl) rfl rfl ?_
 refine ae ?_
 refine aj ?_
 refine ao ?_
 refine ab ?_
 refine ap (ak rfl) rfl rfl ?_
 refine ap (ai rfl) rfl rfl ?_
 refine ae ?_
 refine aj ?_
 refine aH ?_
 refine aN (ts := [2]) rfl rfl rfl (fun w hw => ?_)
 exact ⟨(), by rw [← make_fold]; simp [da], hw.base, (hw.weak (List.nil_sublist _) (fun s hs => hs)).toNews⟩

theorem dP (n : aX) (hn : n.length ≤ 1000000000) : cC Tryz.prog 73 #[.string (ba n)] (.string (ba (aY n))) := rc_pure (c_name_Fold n hn)

end Go.Proofs.YtnpdgmoeoidppaaGreat
