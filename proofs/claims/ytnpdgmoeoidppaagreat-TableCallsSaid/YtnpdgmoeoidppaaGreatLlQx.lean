import Derived.Test.YtnpdgmoeoidppaaGreatCcQx
import Derived.Test.YtnpdgmoeoidppaaGreatPaQx
import Derived.Lib.Bytealg
import GoSem.Extern.BytealgCompare
import Derived.Laws.StructEq
import Derived.ChangeKeysEq
/- the references of labels, names, sums; the kit -/
namespace Go.Proofs.YtnpdgmoeoidppaaGreat
open Go.RowKit Go.Shelf
set_option linter.unusedVariables false
set_option linter.unusedSimpArgs false

theorem gz : Enters Tryz.prog 111 := enters_of Tryz.func111 (by kernel_rfl) rfl
theorem jG : Enters Tryz.prog 112 := enters_of Tryz.func112 (by kernel_rfl) rfl
theorem ent_143 : Enters Tryz.prog 143 := enters_of Tryz.func143 (by kernel_rfl) rfl
theorem ent_180 : Enters Tryz.prog 180 := enters_of Tryz.func180 (by kernel_rfl) rfl
theorem ent_194 : Enters Tryz.prog 194 := enters_of Tryz.func194 (by kernel_rfl) rfl
theorem ent_83 : Enters Tryz.prog 83 := enters_of Tryz.func83 (by kernel_rfl) rfl

theorem gJ (l : a6) : eC Tryz.prog 194 #[.string (ba l)] (.int .i64 (fW l)) := by
 intro w0
 refine bT (ok0 := no) (S := []) (args := [.string (ba l)]) 10 Tryz.func194 rfl rfl rfl (by simp) (by simp) ?_
 refine ap ?_
 refine ae ?_
 refine aq (ai rfl) rfl rfl ?_
 refine aa ?_
 refine aj ?_
 refine ap ?_
 refine aS ?_
 refine ap ?_
 refine ae ?_
 refine aq (am rfl) rfl rfl ?_
 refine aq (eK rfl rfl) rfl rfl ?_
 refine ay (t := 5) rfl (fun h1_1 => ?_) (fun h1_1 => ?_)
 refine aq (ai rfl) rfl rfl ?_
 refine aa ?_
 refine aj ?_
 refine aA rfl ?_
 refine ap ?_
 refine ae ?_
 refine aq (ai rfl) rfl rfl ?_
 refine aa ?_
 refine aj ?_
 refine aN ?_
 refine aJ ?_
 refine ax ?_
 refine aR (ts := [2]) rfl rfl rfl (fun w hw => ?_)
 subst h1_1
 exact ⟨rfl, hw.base⟩
 refine aq (ai rfl) rfl rfl ?_
 refine aa ?_
 refine aj ?_
 refine aD rfl ?_
 refine ap ?_
 refine ae ?_
 refine aq (am rfl) rfl rfl ?_
 refine aq (dp Tryz.underlying9 rfl) rfl rfl ?_
 refine aq (dB rfl rfl) rfl rfl ?_
 refine ay (t := 9) rfl (fun h3_2 => ?_) (fun h3_2 => ?_)
 refine aq (ai rfl) rfl rfl ?_
 refine aa ?_
 refine aj ?_
 refine aA rfl ?_
 refine ap ?_
 refine ae ?_
 refine aq (ai rfl) rfl rfl ?_
 refine aa ?_
 refine aj ?_
 refine aN ?_
 refine aJ ?_
 refine ax ?_
 refine aR (ts := [2]) rfl rfl rfl (fun w hw => ?_)
 have := len_pos h1_1
 exact ⟨by unfold fW; rw [if_neg (by omega)]; first | rw [if_pos (by omega)]; rfl | rw [if_neg (by omega)]; rfl, hw.base⟩
 refine aq (ai rfl) rfl rfl ?_
 refine aa ?_
 refine aj ?_
 refine aD rfl ?_
 refine aQ ?_
 refine bj ?_
 refine aj ?_
 refine ap ?_
 refine ae ?_
 refine aq (ai rfl) rfl rfl ?_
 refine aa ?_
 refine aj ?_
 refine aN ?_
 refine aR (ts := [2]) rfl rfl rfl (fun w hw => ?_)
 have := len_pos h1_1
 exact ⟨by unfold fW; rw [if_neg (by omega)]; first | rw [if_pos (by omega)]; rfl | rw [if_neg (by omega)]; rfl, hw.base⟩

theorem lowB_up {c : UInt8} (h1 : 65 ≤ c.toNat) (h2 : c.toNat ≤ 90) : (c.toNat : Int) + 32 = ((e5 c).toNat : Int) := by
  unfold e5; rw [if_pos ⟨h1, h2⟩]; simp; omega
theorem lowB_no {c : UInt8} (h : ¬ (65 ≤ c.toNat ∧ c.toNat ≤ 90)) : e5 c = c := by unfold e5; rw [if_neg h]
theorem set_same {α : Type} (l : List α) (d : α) (k : Nat) (h : k < l.length) : l.set k (l.getD k d) = l := by
  rw [List.getD_eq_getElem?_getD, List.getElem?_eq_getElem h, Option.getD_some, List.set_getElem_self]

theorem hG (l : a6) (hl : l.length ≤ 1000000000000) : eC Tryz.prog 180 #[.string (ba l)] (.string (ba (bO l))) := by
 intro w0
 refine bT (ok0 := no) (S := []) (args := [.string (ba l)]) 35 Tryz.func180 rfl rfl rfl (by simp) (by simp) ?_
 refine ap ?_
 refine ae ?_
 refine aq (ai rfl) rfl rfl ?_
 refine aa ?_
 refine aj ?_
 refine ap ?_
 refine ae ?_
 refine aq (am rfl) rfl rfl ?_
 refine o_s2b Tryz.underlying9 Tryz.underlying75 Tryz.underlying5 (by omega) rfl rfl (fun As1 cs1 => ?_)
 refine aq (ai rfl) rfl rfl ?_
 refine aa ?_
 refine aj ?_
 refine ap ?_
 refine ap ?_
 refine ae ?_
 refine aq (ai rfl) rfl rfl ?_
 refine aa ?_
 refine aj ?_
 refine aS ?_
 refine dn (σ := Nat) [3, 4, 7, 8, 9, 10, 11, 12, 13, 14, 15, 16, 17, 18, 19, 20, 21, 22, 23, 24, 25, 26, 27, 28, 29, 30, 31, 32] (fun k => k ≤ l.length) (fun k => l.length - k) (fun k => [(4, .int .i64 k), (3, .slice As1 ((l.take k).map e5 ++ l.drop k).length cs1)]) (fun k => Ch.ls As1 cs1 5 1 encb ((l.take k).map e5 ++ l.drop k)) (0) ?_ ⟨rfl, rfl, trivial⟩ rfl (fun k hI => ?_)
 exact Nat.zero_le _
 have hml := cZ e5 l k
 refine ap ?_
 refine ap ?_
 refine ae ?_
 refine aq (am rfl) rfl rfl ?_
 refine aq (am rfl) rfl rfl ?_
 refine aq (bg Tryz.underlying75 rfl) rfl rfl ?_
 refine aq (bW rfl rfl) rfl rfl ?_
 refine ay (t := 10) rfl (fun h3_3 => ?_) (fun h3_3 => ?_)
 refine aa ?_
 refine aj ?_
 refine aA rfl ?_
 refine aQ ?_
 refine aj ?_
 refine ap ?_
 refine aS ?_
 refine ap ?_
 refine ae ?_
 have hk : k < l.length := by omega
 have hat := map_at e5 l k hk
 have hat2 : ((List.map e5 (List.take k l) ++ List.drop k l).getD k 0).toNat = (l.getD k 0).toNat := by rw [hat]
 refine aq (am rfl) rfl rfl ?_
 refine aq (am rfl) rfl rfl ?_
 refine aq (bB  Tryz.underlying75 i8 rfl rfl (dL 0 rfl) rfl (by rw [cZ]; omega)) rfl rfl ?_
 refine aq (bZ enc_b (0 : UInt8) i8 rfl (dL 0 rfl) (by rw [cZ]; omega) rfl rfl) rfl rfl ?_
 refine aq (gD rfl rfl) rfl rfl ?_
 refine ay (t := 17) rfl (fun h5_4 => ?_) (fun h5_4 => ?_)
 refine aq (am rfl) rfl rfl ?_
 refine au rfl rfl ?_
 refine aq (am rfl) rfl rfl ?_
 refine au rfl rfl ?_
 refine aq (am rfl) rfl rfl ?_
 refine au rfl rfl ?_
 refine aq (bB  Tryz.underlying75 i8 rfl rfl (dL 0 rfl) rfl (by rw [cZ]; omega)) rfl rfl ?_
 refine au rfl rfl ?_
 refine aq (bZ enc_b (0 : UInt8) i8 rfl (dL 0 rfl) (by rw [cZ]; omega) rfl rfl) rfl rfl ?_
 refine au rfl rfl ?_
 refine aq (ff rfl rfl) rfl rfl ?_
 refine ay (t := 23) rfl (fun h5_10 => ?_) (fun h5_10 => ?_)
 refine aq (aH rfl rfl) rfl rfl ?_
 refine aa ?_
 refine aj ?_
 refine aA rfl ?_
 refine ae ?_
 refine aq (am rfl) rfl rfl ?_
 refine aq (am rfl) rfl rfl ?_
 refine aq (am rfl) rfl rfl ?_
 refine aq (am rfl) rfl rfl ?_
 refine aq (bB  Tryz.underlying75 i8 rfl rfl (dL 0 rfl) rfl (by rw [cZ]; omega)) rfl rfl ?_
 refine aq (bZ enc_b (0 : UInt8) i8 rfl (dL 0 rfl) (by rw [cZ]; omega) rfl rfl) rfl rfl ?_
 refine aq (y_add rfl rfl) rfl rfl ?_
 refine eo (t := 31) (.int .u8 ((e5 (l.getD k 0)).toNat : Int)) rfl (congrArg (Value.int .u8) (by rw [ij (by omega) (by omega), hat2]; exact lowB_up (by omega) (by omega))) ?_
 refine aq (bB  Tryz.underlying75 i8 rfl rfl (dL 0 rfl) rfl (by rw [cZ]; omega)) rfl rfl ?_
 refine fb enc_b (0 : UInt8) _ i8 rfl rfl rfl .z rfl (by rw [cZ]; omega) rfl rfl rfl ?_
 refine aa ?_
 refine bj ?_
 refine aj ?_
 refine ae ?_
 refine aq (am rfl) rfl rfl ?_
 refine aq (br rfl rfl (by omega) (by omega)) rfl rfl ?_
 refine aq (ai rfl) rfl rfl ?_
 refine aa ?_
 have hcc := UInt8.toNat_lt (l.getD k 0)
 refine bv (k + 1) ?_ ?_ ⟨rfl, lk rfl (by rw [cZ, cZ]), trivial⟩ (by repeat (first | exact trivial | refine ⟨rfl, ?_⟩)) (fun w h => by first | (rw [gu e5 l k hk] at h; exact h) | (rw [← gu e5 l k hk, lowB_no (by omega), ← map_at e5 l k hk, set_same _ _ _ (by rw [cZ]; exact hk)]; exact h))
 omega
 omega
 refine aq (aH rfl rfl) rfl rfl ?_
 refine aa ?_
 refine aj ?_
 refine aD rfl ?_
 refine aQ ?_
 refine bj ?_
 refine aj ?_
 refine ae ?_
 refine aq (am rfl) rfl rfl ?_
 refine aq (br rfl rfl (by omega) (by omega)) rfl rfl ?_
 refine aq (ai rfl) rfl rfl ?_
 refine aa ?_
 have hcc := UInt8.toNat_lt (l.getD k 0)
 refine bv (k + 1) ?_ ?_ ⟨rfl, lk rfl (by rw [cZ, cZ]), trivial⟩ (by repeat (first | exact trivial | refine ⟨rfl, ?_⟩)) (fun w h => by first | (rw [gu e5 l k hk] at h; exact h) | (rw [← gu e5 l k hk, lowB_no (by omega), ← map_at e5 l k hk, set_same _ _ _ (by rw [cZ]; exact hk)]; exact h))
 omega
 omega
 refine aq (am rfl) rfl rfl ?_
 refine ar rfl rfl rfl rfl ?_
 refine ar rfl rfl rfl rfl ?_
 refine ar rfl rfl rfl rfl ?_
 refine ar rfl rfl rfl rfl ?_
 refine ar rfl rfl rfl rfl ?_
 refine aq (aF rfl rfl) rfl rfl ?_
 refine aa ?_
 refine aj ?_
 refine aD rfl ?_
 refine aQ ?_
 refine bj ?_
 refine aj ?_
 refine ae ?_
 refine aq (am rfl) rfl rfl ?_
 refine aq (br rfl rfl (by omega) (by omega)) rfl rfl ?_
 refine aq (ai rfl) rfl rfl ?_
 refine aa ?_
 have hcc := UInt8.toNat_lt (l.getD k 0)
 refine bv (k + 1) ?_ ?_ ⟨rfl, lk rfl (by rw [cZ, cZ]), trivial⟩ (by repeat (first | exact trivial | refine ⟨rfl, ?_⟩)) (fun w h => by first | (rw [gu e5 l k hk] at h; exact h) | (rw [← gu e5 l k hk, lowB_no (by omega), ← map_at e5 l k hk, set_same _ _ _ (by rw [cZ]; exact hk)]; exact h))
 omega
 omega
 refine aa ?_
 refine aj ?_
 refine aD rfl ?_
 refine bJ ?_
 refine aV ?_
 refine aX ?_
 refine a8 ?_
 refine aj ?_
 refine ap ?_
 refine ae ?_
 refine aq (am rfl) rfl rfl ?_
 refine aq (y_b2s Tryz.underlying75 Tryz.underlying9 Tryz.underlying5 rfl (dL 0 rfl)) rfl rfl ?_
 refine aq (ai rfl) rfl rfl ?_
 refine aa ?_
 refine aj ?_
 refine aN ?_
 refine aR (ts := [2]) rfl rfl rfl (fun w hw => ?_)
 obtain rfl : k = l.length := by omega
 exact ⟨by simp [eW, bO], hw.base⟩

theorem g3 (n : a6) (k : Nat) : bt (n.drop k) 0 = bt n k := by
  unfold bt; simp [List.getD_eq_getElem?_getD]
theorem drop_ne {n : a6} {k : Nat} (h : k < n.length) : n.drop k ≠ [] := by
  intro e; have := congrArg List.length e; simp at this; omega
theorem j5 {n : a6} {k : Nat} (h : k < n.length) (h1 : 1 ≤ bt n k) (h2 : bt n k ≤ 63) (h3 : k + 1 + bt n k ≤ n.length) : d4 (n.drop k) = true ∧ rst (n.drop k) = n.drop (k + 1 + bt n k) ∧ lab (n.drop k) = (n.take (k + 1 + bt n k)).drop (k + 1) := by
  refine ⟨cutOk_iff.2 ⟨drop_ne h, by rw [g3]; exact h1, by rw [g3]; exact h2, by rw [g3, List.length_drop]; omega⟩, ?_, ?_⟩
  · rw [rst, g3, List.drop_drop, Nat.add_assoc]
  · rw [lab, g3, List.take_drop, List.drop_drop, Nat.add_assoc]
theorem gE {n : a6} {k : Nat} (h : bt n k < 1 ∨ 63 < bt n k ∨ n.length < k + 1 + bt n k) (hk : k < n.length) : d4 (n.drop k) = false :=
  cut_no (by rw [g3, List.length_drop]; omega)

theorem dV (n : a6) : eC Tryz.prog 111 #[.string (ba n)] (.int .i64 (bd n)) := by
 intro w0
 refine bT (ok0 := no) (S := []) (args := [.string (ba n)]) 35 Tryz.func111 rfl rfl rfl (by simp) (by simp) ?_
 refine ap ?_
 refine ae ?_
 refine aq (ai rfl) rfl rfl ?_
 refine aa ?_
 refine aj ?_
 refine ap ?_
 refine ap ?_
 refine ae ?_
 refine aq (am rfl) rfl rfl ?_
 refine aq (dp Tryz.underlying26 rfl) rfl rfl ?_
 refine aq (dB rfl rfl) rfl rfl ?_
 refine ay (t := 7) rfl (fun h1_2 => ?_) (fun h1_2 => ?_)
 refine aa ?_
 refine aj ?_
 refine aA rfl ?_
 refine ap ?_
 refine ae ?_
 refine aq (ai rfl) rfl rfl ?_
 refine aa ?_
 refine aj ?_
 refine aN ?_
 refine ax ?_
 refine aR (ts := [2]) rfl rfl rfl (fun w hw => ?_)
 exact ⟨by simp [eW, bd, show 254 < n.length by omega], hw.base⟩
 refine aa ?_
 refine aj ?_
 refine aD rfl ?_
 refine aQ ?_
 refine aj ?_
 refine ap ?_
 refine ap ?_
 refine ae ?_
 refine aq (ai rfl) rfl rfl ?_
 refine aa ?_
 refine aj ?_
 refine aS ?_
 refine cC (σ := Nat) [2, 3, 4, 8, 9, 10, 11, 12, 13, 14, 15, 16, 17, 18, 19, 20, 21, 22, 23, 24, 25, 26, 27, 28, 29, 30, 31, 32, 33, 34] (fun k => k ≤ n.length ∧ jx n = jx (n.drop k)) (fun k => n.length - k) (fun k => [(3, .int .i64 k)]) (0) ?_ ⟨rfl, trivial⟩ (fun k hI => ?_)
 exact ⟨Nat.zero_le _, rfl⟩
 have hb := bt_lt n k
 refine ap ?_
 refine ap ?_
 refine ae ?_
 refine aq (am rfl) rfl rfl ?_
 refine aq (am rfl) rfl rfl ?_
 refine aq (dp Tryz.underlying26 rfl) rfl rfl ?_
 refine aq (bW rfl rfl) rfl rfl ?_
 refine ay (t := 11) rfl (fun h4_3 => ?_) (fun h4_3 => ?_)
 refine aa ?_
 refine aj ?_
 refine aA rfl ?_
 refine aQ ?_
 refine aj ?_
 refine aS ?_
 refine ap ?_
 refine ae ?_
 refine aq (am rfl) rfl rfl ?_
 refine aq (am rfl) rfl rfl ?_
 refine aq (fA  Tryz.underlying26 rfl rfl rfl (by omega)) rfl rfl ?_
 refine aq (j6 Tryz.underlying5 Tryz.underlying3 rfl (jA (by omega) (by omega))) rfl rfl ?_
 refine aq (ai rfl) rfl rfl ?_
 refine aa ?_
 refine aj ?_
 refine ap ?_
 refine ap ?_
 refine ae ?_
 refine aq (am rfl) rfl rfl ?_
 refine aq (bW rfl rfl) rfl rfl ?_
 refine ay (t := 17) rfl (fun h6_1 => ?_) (fun h6_1 => ?_)
 refine aq (am rfl) rfl rfl ?_
 refine ar rfl rfl rfl rfl ?_
 refine ar rfl rfl rfl rfl ?_
 refine aq (aH rfl rfl) rfl rfl ?_
 refine aq (am rfl) rfl rfl ?_
 refine ar rfl rfl rfl rfl ?_
 refine ar rfl rfl rfl rfl ?_
 refine ar rfl rfl rfl rfl ?_
 refine ar rfl rfl rfl rfl ?_
 refine ar rfl rfl rfl rfl ?_
 refine ar rfl rfl rfl rfl ?_
 refine ar rfl rfl rfl rfl ?_
 refine aq (aH rfl rfl) rfl rfl ?_
 refine aa ?_
 refine aj ?_
 refine aA rfl ?_
 refine ap ?_
 refine ae ?_
 refine aq (ai rfl) rfl rfl ?_
 refine aa ?_
 refine aj ?_
 refine aN ?_
 refine ax ?_
 refine aJ ?_
 refine bh ?_
 refine aJ ?_
 refine ax ?_
 refine aR (ts := [2]) rfl rfl rfl (fun w hw => ?_)
 focus first
   | (have hc := gE (n := n) (k := k) (by omega) (by omega)
      have ho : jx n = false := by rw [hI.2, gK, hc]; simp; omega
      exact ⟨by simp [eW, bd, show ¬ 254 < n.length by omega, ho], hw.base⟩)
   | (have ho : jx n = true := by rw [hI.2, List.drop_of_length_le (by omega)]; rfl
      exact ⟨by simp [eW, bd, show ¬ 254 < n.length by omega, ho], hw.base⟩)
 refine aq (am rfl) rfl rfl ?_
 refine au rfl rfl ?_
 refine aq (am rfl) rfl rfl ?_
 refine au rfl rfl ?_
 refine aq (dB rfl rfl) rfl rfl ?_
 refine ay (t := 20) rfl (fun h6_4 => ?_) (fun h6_4 => ?_)
 refine aq (aF rfl rfl) rfl rfl ?_
 refine aq (am rfl) rfl rfl ?_
 refine ar rfl rfl rfl rfl ?_
 refine ar rfl rfl rfl rfl ?_
 refine ar rfl rfl rfl rfl ?_
 refine ar rfl rfl rfl rfl ?_
 refine ar rfl rfl rfl rfl ?_
 refine ar rfl rfl rfl rfl ?_
 refine ar rfl rfl rfl rfl ?_
 refine aq (aH rfl rfl) rfl rfl ?_
 refine aa ?_
 refine aj ?_
 refine aA rfl ?_
 refine ap ?_
 refine ae ?_
 refine aq (ai rfl) rfl rfl ?_
 refine aa ?_
 refine aj ?_
 refine aN ?_
 refine ax ?_
 refine aJ ?_
 refine bh ?_
 refine aJ ?_
 refine ax ?_
 refine aR (ts := [2]) rfl rfl rfl (fun w hw => ?_)
 focus first
   | (have hc := gE (n := n) (k := k) (by omega) (by omega)
      have ho : jx n = false := by rw [hI.2, gK, hc]; simp; omega
      exact ⟨by simp [eW, bd, show ¬ 254 < n.length by omega, ho], hw.base⟩)
   | (have ho : jx n = true := by rw [hI.2, List.drop_of_length_le (by omega)]; rfl
      exact ⟨by simp [eW, bd, show ¬ 254 < n.length by omega, ho], hw.base⟩)
 refine aq (aF rfl rfl) rfl rfl ?_
 refine aq (am rfl) rfl rfl ?_
 refine au rfl rfl ?_
 refine aq (am rfl) rfl rfl ?_
 refine au rfl rfl ?_
 refine aq (br rfl rfl (by omega) (by omega)) rfl rfl ?_
 refine au rfl rfl ?_
 refine aq (am rfl) rfl rfl ?_
 refine au rfl rfl ?_
 refine aq (br rfl rfl (by omega) (by omega)) rfl rfl ?_
 refine au rfl rfl ?_
 refine aq (am rfl) rfl rfl ?_
 refine au rfl rfl ?_
 refine aq (dp Tryz.underlying26 rfl) rfl rfl ?_
 refine au rfl rfl ?_
 refine aq (dB rfl rfl) rfl rfl ?_
 refine ay (t := 29) rfl (fun h6_13 => ?_) (fun h6_13 => ?_)
 refine aq (aF rfl rfl) rfl rfl ?_
 refine aa ?_
 refine aj ?_
 refine aA rfl ?_
 refine ap ?_
 refine ae ?_
 refine aq (ai rfl) rfl rfl ?_
 refine aa ?_
 refine aj ?_
 refine aN ?_
 refine ax ?_
 refine aJ ?_
 refine bh ?_
 refine aJ ?_
 refine ax ?_
 refine aR (ts := [2]) rfl rfl rfl (fun w hw => ?_)
 focus first
   | (have hc := gE (n := n) (k := k) (by omega) (by omega)
      have ho : jx n = false := by rw [hI.2, gK, hc]; simp; omega
      exact ⟨by simp [eW, bd, show ¬ 254 < n.length by omega, ho], hw.base⟩)
   | (have ho : jx n = true := by rw [hI.2, List.drop_of_length_le (by omega)]; rfl
      exact ⟨by simp [eW, bd, show ¬ 254 < n.length by omega, ho], hw.base⟩)
 refine aq (aF rfl rfl) rfl rfl ?_
 refine aa ?_
 refine aj ?_
 refine aD rfl ?_
 refine aQ ?_
 refine aj ?_
 refine ae ?_
 refine aq (am rfl) rfl rfl ?_
 refine aq (br rfl rfl (by omega) (by omega)) rfl rfl ?_
 refine aq (am rfl) rfl rfl ?_
 refine aq (br rfl rfl (by omega) (by omega)) rfl rfl ?_
 refine aq (ai rfl) rfl rfl ?_
 refine aa ?_
 refine bj ?_
 obtain ⟨hc1, hc2, hc3⟩ := j5 (n := n) (k := k) (by omega) (by omega) (by omega) (by omega)
 refine bv (k + 1 + bt n k) ?_ ?_ ⟨rfl, trivial⟩ (by repeat (first | exact trivial | refine ⟨rfl, ?_⟩)) aG
 exact ⟨by omega, by rw [hI.2, gK (n.drop k), hc1, hc2]; simp; omega⟩
 omega
 refine aa ?_
 refine aj ?_
 refine aD rfl ?_
 refine bJ ?_
 refine aV ?_
 refine aX ?_
 refine a8 ?_
 refine aj ?_
 refine ap ?_
 refine ae ?_
 refine aq (ai rfl) rfl rfl ?_
 refine aa ?_
 refine aj ?_
 refine aN ?_
 refine aR (ts := [2]) rfl rfl rfl (fun w hw => ?_)
 focus first
   | (have hc := gE (n := n) (k := k) (by omega) (by omega)
      have ho : jx n = false := by rw [hI.2, gK, hc]; simp; omega
      exact ⟨by simp [eW, bd, show ¬ 254 < n.length by omega, ho], hw.base⟩)
   | (have ho : jx n = true := by rw [hI.2, List.drop_of_length_le (by omega)]; rfl
      exact ⟨by simp [eW, bd, show ¬ 254 < n.length by omega, ho], hw.base⟩)

theorem gt (n : a6) : RC Tryz.prog 83 #[.string (ba n)] [] (α := Option Addr × Nat) (fun p => .slice p.1 (bk n).length p.2) (fun p => [Ch.ls p.1 p.2 9 1 dD (bk n)]) := by
 refine bK (args := [.string (ba n)]) 33 Tryz.func83 rfl rfl rfl (fun w0 => ?_)
 refine ap ?_
 refine ae ?_
 refine aq (ai rfl) rfl rfl ?_
 refine aa ?_
 refine aj ?_
 refine ap ?_
 refine ap ?_
 refine ae ?_
 refine aq (am rfl) rfl rfl ?_
 refine bD rfl gz (dV _) rfl ?_
 refine aq (cO rfl rfl) rfl rfl ?_
 refine ay (t := 8) rfl (fun h1_2 => ?_) (fun h1_2 => ?_)
 refine aa ?_
 refine aj ?_
 refine aA rfl ?_
 refine ap ?_
 refine ae ?_
 refine aq (ai rfl) rfl rfl ?_
 refine aa ?_
 refine aj ?_
 refine aN ?_
 refine ax ?_
 refine aR (ts := [2]) rfl rfl rfl (fun w hw => ?_)
 have hl : bk n = [] := if_neg (by omega)
 rw [hl]
 exact ⟨(none, 0), rfl, hw.base, (hw.nilsl 9 1).toNews⟩
 refine aa ?_
 refine aj ?_
 refine aD rfl ?_
 refine aQ ?_
 refine aj ?_
 refine ap ?_
 have hck : bd n = 0 := by omega
 have hnl := nameCk_zero.1 hck
 refine ae ?_
 refine aq (ai rfl) rfl rfl ?_
 refine aa ?_
 refine aj ?_
 refine ap ?_
 refine ap ?_
 refine ae ?_
 refine aq (ai rfl) rfl rfl ?_
 refine aa ?_
 refine aj ?_
 refine aS ?_
 refine cz (fun w h => h.nilsl 9 1) ?_
 refine dn (σ := Nat × List a6 × Option Addr × Nat) [3, 4, 5, 9, 10, 11, 12, 13, 14, 15, 16, 17, 18, 19, 20, 21, 22, 23, 24, 25, 26, 27, 28, 29, 30, 31] (fun q => q.1 ≤ n.length ∧ fj n = q.2.1 ++ fj (n.drop q.1) ∧ jx (n.drop q.1) = true ∧ q.2.1.length ≤ q.1) (fun q => n.length - q.1) (fun q => [(4, .int .i64 q.1), (3, .slice q.2.2.1 q.2.1.length q.2.2.2)]) (fun q => Ch.ls q.2.2.1 q.2.2.2 9 1 dD q.2.1) ((0, [], none, 0)) ?_ ⟨rfl, rfl, trivial⟩ rfl (fun q hI => ?_)
 exact ⟨Nat.zero_le _, rfl, hnl.2, Nat.le_refl _⟩
 obtain ⟨k, pre, A, c⟩ := q
 obtain ⟨hk, hI, hok, hpl⟩ := hI
 dsimp only at hk hI hok hpl ⊢
 have hb := bt_lt n k
 refine ap ?_
 refine ap ?_
 refine ae ?_
 refine aq (am rfl) rfl rfl ?_
 refine aq (am rfl) rfl rfl ?_
 refine aq (dp Tryz.underlying26 rfl) rfl rfl ?_
 refine aq (bW rfl rfl) rfl rfl ?_
 refine ay (t := 12) rfl (fun h5_3 => ?_) (fun h5_3 => ?_)
 have hkl : k < n.length := by omega
 rw [gK] at hok
 have hcu : d4 (n.drop k) = true ∧ jx (rst (n.drop k)) = true := by
   have := drop_ne hkl
   simpa [this] using hok
 have hcc := cutOk_iff.1 hcu.1
 rw [g3, List.length_drop] at hcc
 obtain ⟨hc1, hc2, hc3⟩ := j5 (n := n) (k := k) hkl (by omega) (by omega) (by omega)
 have ho2 := hcu.2
 refine aa ?_
 refine aj ?_
 refine aA rfl ?_
 refine aQ ?_
 refine aj ?_
 refine aS ?_
 refine ap ?_
 refine ae ?_
 refine aq (am rfl) rfl rfl ?_
 refine aq (am rfl) rfl rfl ?_
 refine aq (fA  Tryz.underlying26 rfl rfl rfl (by omega)) rfl rfl ?_
 refine aq (j6 Tryz.underlying5 Tryz.underlying3 rfl (jA (by omega) (by omega))) rfl rfl ?_
 refine aq (ai rfl) rfl rfl ?_
 refine aa ?_
 refine aj ?_
 refine ap ?_
 refine ae ?_
 refine aq (am rfl) rfl rfl ?_
 refine aq (am rfl) rfl rfl ?_
 refine aq (am rfl) rfl rfl ?_
 refine aq (br rfl rfl (by omega) (by omega)) rfl rfl ?_
 refine aq (am rfl) rfl rfl ?_
 refine aq (br rfl rfl (by omega) (by omega)) rfl rfl ?_
 refine aq (am rfl) rfl rfl ?_
 refine aq (br rfl rfl (by omega) (by omega)) rfl rfl ?_
 refine aq (y_slices (m := k + 1) (n := k + 1 + bt n k) Tryz.underlying26 rfl rfl rfl (by omega) (by omega) (by omega) (by omega)) rfl rfl ?_
 refine bY (vs := [_]) ([_] : List (a6)) bV Tryz.underlying135 cI rfl rfl rfl rfl rfl rfl (fun As1 => ?_)
 refine cv (enc := dD) (sz := 1) _ Tryz.underlying135 cI rfl rfl rfl (fun A c => (.s (.z))) (d5 0 Tryz.underlying135 rfl) (by simp only [List.length_cons, List.length_nil, Nat.zero_add]; omega) (by simp only [List.length_cons, List.length_nil, Nat.zero_add]; omega) rfl (fun A1 c1 => ?_)
 refine aq (ai rfl) rfl rfl ?_
 refine aa ?_
 refine aj ?_
 refine ae ?_
 refine aq (am rfl) rfl rfl ?_
 refine aq (br rfl rfl (by omega) (by omega)) rfl rfl ?_
 refine aq (am rfl) rfl rfl ?_
 refine aq (br rfl rfl (by omega) (by omega)) rfl rfl ?_
 refine aq (ai rfl) rfl rfl ?_
 refine aa ?_
 refine bj ?_
 refine bv ((k + 1 + bt n k, pre ++ [(n.take (k + 1 + bt n k)).drop (k + 1)], A1, c1)) ?_ ?_ ⟨rfl, rfl, trivial⟩ (by repeat (first | exact trivial | refine ⟨rfl, ?_⟩)) (bq 1)
 refine ⟨?_, ?_, ?_, ?_⟩
 · show k + 1 + bt n k ≤ _; omega
 · show fj n = (pre ++ [_]) ++ fj (n.drop (k + 1 + bt n k)); rw [hI, ic (n.drop k), if_pos hc1, hc2, hc3]; simp
 · show jx (n.drop (k + 1 + bt n k)) = true; rw [← hc2]; exact ho2
 · show (pre ++ [_]).length ≤ k + 1 + bt n k; simp; omega
 show n.length - (k + 1 + bt n k) < n.length - k
 omega
 refine aa ?_
 refine aj ?_
 refine aD rfl ?_
 refine bJ ?_
 refine aV ?_
 refine aX ?_
 refine a8 ?_
 refine aj ?_
 refine ap ?_
 refine ae ?_
 refine aq (am rfl) rfl rfl ?_
 refine aq (ai rfl) rfl rfl ?_
 refine aa ?_
 refine aj ?_
 refine aN ?_
 refine aR (ts := [2]) rfl rfl rfl (fun w hw => ?_)
 have hl : bk n = pre := by rw [bk, if_pos hck, hI, List.drop_of_length_le (by omega)]; simp [fj, labsF]
 rw [hl]
 exact ⟨(A, c), rfl, hw.base, hw.toNews⟩

theorem make_long {ls : List a6} {k : Nat} (h0 : dO ls = 0) (h : 254 < (eB (ls.take k)).length) : fR ls = ([], 3) := by
  have := hX ls k
  rw [fR, if_neg (by omega), if_pos (by omega)]
theorem make_done {ls : List a6} (h0 : dO ls = 0) (h : (eB ls).length ≤ 254) : fR ls = (eB ls, 0) := by
  rw [fR, if_neg (by omega), if_neg (by omega)]

set_option maxRecDepth 100000 in
theorem jB (ls : List a6) (A : Option Addr) (ca : Nat) (hl : ls.length ≤ 1000000000000) : RC Tryz.prog 143 #[.slice A ls.length ca] [Ch.rd A 1 dD ls] (α := Unit) (fun _ => .tuple #[.string (ba (fR ls).1), .int .i64 (fR ls).2]) (fun _ => []) := by
 refine bK (args := [.slice A ls.length ca]) 47 Tryz.func143 rfl rfl rfl (fun w0 => ?_)
 refine ap ?_
 refine ae ?_
 refine aq (ai rfl) rfl rfl ?_
 refine aq (ai rfl) rfl rfl ?_
 refine aa ?_
 refine aj ?_
 refine ap ?_
 refine ae ?_
 refine aq (ai rfl) rfl rfl ?_
 refine aa ?_
 refine aj ?_
 refine ap ?_
 refine ap ?_
 refine ae ?_
 refine aq (ai rfl) rfl rfl ?_
 refine aa ?_
 refine aj ?_
 refine aS ?_
 refine cC (σ := Nat) [2, 3, 5, 6, 8, 9, 10, 11, 12, 13, 14, 15, 16, 17, 18, 19, 20, 21] (fun k => k ≤ ls.length ∧ dO ls = dO (ls.drop k)) (fun k => ls.length - k) (fun k => [(5, .int .i64 k)]) (0) ?_ ⟨rfl, trivial⟩ (fun k hI => ?_)
 exact ⟨Nat.zero_le _, rfl⟩
 refine ap ?_
 refine ap ?_
 refine ae ?_
 refine aq (am rfl) rfl rfl ?_
 refine aq (am rfl) rfl rfl ?_
 refine aq (bg Tryz.underlying135 rfl) rfl rfl ?_
 refine aq (bW rfl rfl) rfl rfl ?_
 refine ay (t := 11) rfl (fun h3_3 => ?_) (fun h3_3 => ?_)
 refine aa ?_
 refine aj ?_
 refine aA rfl ?_
 refine aQ ?_
 refine aj ?_
 refine ap ?_
 refine aS ?_
 refine ap ?_
 refine ae ?_
 refine aq (am rfl) rfl rfl ?_
 refine aq (am rfl) rfl rfl ?_
 refine aq (bB  Tryz.underlying135 cI rfl rfl (bF 0 rfl) rfl (by omega)) rfl rfl ?_
 refine aq (bZ bV ([] : a6) cI rfl (bF 0 rfl) (by omega) rfl rfl) rfl rfl ?_
 refine bD rfl ent_194 (gJ _) rfl ?_
 refine aq (ai rfl) rfl rfl ?_
 refine aa ?_
 refine aj ?_
 refine ap ?_
 refine ae ?_
 refine aq (am rfl) rfl rfl ?_
 refine aq (cO rfl rfl) rfl rfl ?_
 refine ay (t := 20) rfl (fun h6_1 => ?_) (fun h6_1 => ?_)
 refine aa ?_
 refine aj ?_
 refine aA rfl ?_
 refine ap ?_
 refine ae ?_
 refine aq (am rfl) rfl rfl ?_
 refine aq (ai rfl) rfl rfl ?_
 refine aq (ai rfl) rfl rfl ?_
 refine aa ?_
 refine aj ?_
 refine aN ?_
 refine aJ ?_
 refine ax ?_
 refine bh ?_
 refine aJ ?_
 refine ax ?_
 refine aR (ts := [2, 3]) rfl rfl rfl (fun w hw => ?_)
 have hk : k < ls.length := by omega
 have hdk := bG ls [] k hk
 have hf : dO ls = fW (ls.getD k []) := by rw [hI.2, hdk, dO, if_neg (by omega)]
 exact ⟨(), by rw [fR, if_pos (by omega), hf]; rfl, hw.base, hw.toNews⟩
 refine aa ?_
 refine aj ?_
 refine aD rfl ?_
 refine aQ ?_
 refine bj ?_
 refine aj ?_
 refine ae ?_
 refine aq (am rfl) rfl rfl ?_
 refine aq (br rfl rfl (by omega) (by omega)) rfl rfl ?_
 refine aq (ai rfl) rfl rfl ?_
 refine aa ?_
 have hk : k < ls.length := by omega
 have hdk := bG ls [] k hk
 refine bv (k + 1) ?_ ?_ ⟨rfl, trivial⟩ (by repeat (first | exact trivial | refine ⟨rfl, ?_⟩)) aG
 exact ⟨by omega, by rw [hI.2, hdk, dO, if_pos (by omega)]⟩
 omega
 refine aa ?_
 refine aj ?_
 refine aD rfl ?_
 refine bJ ?_
 refine aV ?_
 refine aX ?_
 refine a8 ?_
 refine aj ?_
 refine ap ?_
 refine ap ?_
 have hz : dO ls = 0 := by rw [hI.2, List.drop_of_length_le (by omega)]; rfl
 refine ae ?_
 refine aq (ai rfl) rfl rfl ?_
 refine aa ?_
 refine aj ?_
 refine aS ?_
 refine cC (σ := Nat) [2, 3, 4, 7, 22, 23, 24, 25, 26, 27, 28, 29, 30, 31, 32, 33, 34, 35, 36, 37, 38, 39, 40, 41, 42, 43, 44, 45] (fun k => k ≤ ls.length ∧ (eB (ls.take k)).length ≤ 254) (fun k => ls.length - k) (fun k => [(7, .int .i64 k), (4, .string (ba (eB (ls.take k))))]) (0) ?_ ⟨rfl, rfl, trivial⟩ (fun k hI => ?_)
 exact ⟨Nat.zero_le _, by simp [eB]⟩
 refine ap ?_
 refine ap ?_
 refine ae ?_
 refine aq (am rfl) rfl rfl ?_
 refine aq (am rfl) rfl rfl ?_
 refine aq (bg Tryz.underlying135 rfl) rfl rfl ?_
 refine aq (bW rfl rfl) rfl rfl ?_
 refine ay (t := 25) rfl (fun h9_3 => ?_) (fun h9_3 => ?_)
 have hk : k < ls.length := by omega
 have hlk : 1 ≤ (ls.getD k []).length ∧ (ls.getD k []).length ≤ 63 := firstCk_zero.1 hz (ls.getD k []) (by rw [List.getD_eq_getElem?_getD, List.getElem?_eq_getElem hk]; exact List.getElem_mem hk)
 have htk := dh ls [] k hk
 have htk2 : eB (ls.take (k + 1)) = eB (ls.take k) ++ ([UInt8.ofNat (ls.getD k []).length] ++ ls.getD k []) := by rw [htk, fN, encn_one]; rfl
 refine aa ?_
 refine aj ?_
 refine aA rfl ?_
 refine aQ ?_
 refine aj ?_
 refine ap ?_
 refine aS ?_
 refine ap ?_
 refine dQ 16 rfl mixed ?_
 refine aK (i := 0) rfl ak (am rfl) aG aG rfl (ah (ao (ah (av (ao (ah aw)))))) (by kernel_rfl) rfl ?_
 refine aK (i := 1) rfl ak (am rfl) aG aG rfl (ah (ao (ah (av (ao (ah aw)))))) (by kernel_rfl) rfl ?_
 refine aK (i := 2) rfl ak (am rfl) aG aG rfl (ah (ao (ah (av (ao (ah aw)))))) (by kernel_rfl) rfl ?_
 refine aK (i := 3) rfl ak (bB  Tryz.underlying135 cI rfl rfl (bF 0 rfl) rfl (by omega)) aG aG rfl (ah (ao (ah (av (ao (ah aw)))))) (by kernel_rfl) rfl ?_
 refine aK (i := 4) rfl ak (bZ bV ([] : a6) cI rfl (bF 0 rfl) (by omega) rfl rfl) aG aG rfl (ah (ao (ah (av (ao (ah aw)))))) (by kernel_rfl) rfl ?_
 refine aK (i := 5) rfl ak (dp Tryz.underlying9 rfl) aG aG rfl (ah (ao (ah (av (ao (ah aw)))))) (by kernel_rfl) rfl ?_
 refine aK (i := 6) rfl ak (y_convii Tryz.underlying3 Tryz.underlying5 rfl) aG aG rfl (ah (ao (ah (av (ao (ah aw)))))) (by kernel_rfl) rfl ?_
 refine gQ (t := 34) (.int .u8 ((UInt8.ofNat (ls.getD k []).length).toNat : Int)) rfl (congrArg _ (by rw [ij (by omega) (by omega), u8len hlk.2])) ?_
 refine aK (i := 10) rfl ak (am rfl) aG aG rfl (ah (ao (ah (av (ao (ah aw)))))) (by kernel_rfl) rfl ?_
 refine aK (i := 11) rfl ak (am rfl) aG aG rfl (ah (ao (ah (av (ao (ah aw)))))) (by kernel_rfl) rfl ?_
 refine aK (i := 12) rfl ak (bB  Tryz.underlying135 cI rfl rfl (bF 0 rfl) rfl (by omega)) aG aG rfl (ah (ao (ah (av (ao (ah aw)))))) (by kernel_rfl) rfl ?_
 refine aK (i := 13) rfl ak (bZ bV ([] : a6) cI rfl (bF 0 rfl) (by omega) rfl rfl) aG aG rfl (ah (ao (ah (av (ao (ah aw)))))) (by kernel_rfl) rfl ?_
 refine dG (i := 7) rfl rfl rfl (fun _ _ _ => aM (by kernel_rfl)) (by kernel_rfl) rfl ?_
 refine bY (vs := [_]) ([_] : List (UInt8)) enc_b Tryz.underlying75 i8 rfl rfl rfl rfl rfl rfl (fun As1 => ?_)
 refine aa ?_
 refine eO (bq 1) ?_
 refine dG (i := 8) rfl rfl rfl (fun _ _ _ => aM (by kernel_rfl)) (by kernel_rfl) rfl ?_
 refine aq (y_b2s Tryz.underlying75 Tryz.underlying9 Tryz.underlying5 rfl (dL 0 rfl)) rfl rfl ?_
 refine aa ?_
 refine eO (bq 1) ?_
 refine aK (i := 9) rfl ak (y_adds rfl rfl (by first | omega | (simp only [List.length_nil, List.length_cons, List.length_take, List.length_drop, List.length_append]; omega))) (bq 1) aG rfl (ah (ao (ah (av (ao (ah aw)))))) (by kernel_rfl) rfl ?_
 refine aK (i := 14) rfl ak (y_adds rfl rfl (by first | omega | (simp only [List.length_nil, List.length_cons, List.length_take, List.length_drop, List.length_append]; omega))) (bq 1) aG rfl (ah (ao (ah (av (ao (ah aw)))))) (by kernel_rfl) rfl ?_
 refine aK (i := 15) rfl ak (ai rfl) (bq 1) aG rfl (ah (ao (ah (av (ao (ah aw)))))) (by kernel_rfl) rfl ?_
 refine cF (by kernel_rfl) ?_
 refine aj ?_
 refine ap ?_
 refine ae ?_
 refine aq (am rfl) rfl rfl ?_
 refine aq (dp Tryz.underlying9 rfl) rfl rfl ?_
 refine aq (dB rfl rfl) rfl rfl ?_
 refine ay (t := 45) rfl (fun h12_2 => ?_) (fun h12_2 => ?_)
 refine aa ?_
 refine aj ?_
 refine aA rfl ?_
 refine ap ?_
 refine ae ?_
 refine aq (ai rfl) rfl rfl ?_
 refine aq (ai rfl) rfl rfl ?_
 refine aa ?_
 refine aj ?_
 refine aN ?_
 refine aJ ?_
 refine ax ?_
 refine bh ?_
 refine aJ ?_
 refine ax ?_
 refine aR (ts := [2, 3]) rfl rfl rfl (fun w hw => ?_)
 focus first
   | (have hlong : 254 < (eB (ls.take (k + 1))).length := by rw [htk2, ← List.append_assoc]; omega
      exact ⟨(), by rw [make_long hz hlong]; rfl, hw.base, (hw.weak (List.nil_sublist _) (fun s hs => hs)).toNews⟩)
   | (have hk : k = ls.length := by omega
      rw [hk, List.take_length] at hI ⊢
      exact ⟨(), by rw [make_done hz hI.2]; rfl, hw.base, (hw.weak (List.nil_sublist _) (fun s hs => hs)).toNews⟩)
   | (trace_state; fail)
 refine aa ?_
 refine aj ?_
 refine aD rfl ?_
 refine aQ ?_
 refine bj ?_
 refine aj ?_
 refine ae ?_
 refine aq (am rfl) rfl rfl ?_
 refine aq (br rfl rfl (by omega) (by omega)) rfl rfl ?_
 refine aq (ai rfl) rfl rfl ?_
 refine aa ?_
 refine bv (k + 1) ?_ ?_ ⟨rfl, lk rfl (by rw [htk2, List.append_assoc]), trivial⟩ (by repeat (first | exact trivial | refine ⟨rfl, ?_⟩)) (bq 1)
 exact ⟨by omega, by rw [htk2, ← List.append_assoc]; omega⟩
 omega
 refine aa ?_
 refine aj ?_
 refine aD rfl ?_
 refine bJ ?_
 refine aV ?_
 refine aX ?_
 refine a8 ?_
 refine aj ?_
 refine ap ?_
 refine ae ?_
 refine aq (am rfl) rfl rfl ?_
 refine aq (ai rfl) rfl rfl ?_
 refine aq (ai rfl) rfl rfl ?_
 refine aa ?_
 refine aj ?_
 refine aN ?_
 refine aR (ts := [2, 3]) rfl rfl rfl (fun w hw => ?_)
 focus first
   | (have hlong : 254 < (eB (ls.take (k + 1))).length := by rw [htk2, ← List.append_assoc]; omega
      exact ⟨(), by rw [make_long hz hlong]; rfl, hw.base, (hw.weak (List.nil_sublist _) (fun s hs => hs)).toNews⟩)
   | (have hk : k = ls.length := by omega
      rw [hk, List.take_length] at hI ⊢
      exact ⟨(), by rw [make_done hz hI.2]; rfl, hw.base, (hw.weak (List.nil_sublist _) (fun s hs => hs)).toNews⟩)
   | (trace_state; fail)

theorem ib (n : a6) (hn : n.length ≤ 1000000000) : RC Tryz.prog 112 #[.string (ba n)] [] (α := Unit) (fun _ => .string (ba (a7 n))) (fun _ => []) := by
 refine bK (args := [.string (ba n)]) 29 Tryz.func112 rfl rfl rfl (fun w0 => ?_)
 refine ap ?_
 refine ae ?_
 refine aq (ai rfl) rfl rfl ?_
 refine aa ?_
 refine aj ?_
 refine ap ?_
 refine ae ?_
 refine aq (am rfl) rfl rfl ?_
 refine dE rfl ent_83 rfl (gt _) (fun w hw => aY) (fun ⟨A0, c0⟩ => ?_)
 have hlb := gS n hn
 refine aq (ai rfl) rfl rfl ?_
 refine aa ?_
 refine aj ?_
 refine ap ?_
 refine ap ?_
 refine ae ?_
 refine aq (ai rfl) rfl rfl ?_
 refine aa ?_
 refine aj ?_
 refine aS ?_
 refine dn (σ := Nat) [3, 4, 9, 10, 11, 12, 13, 14, 15, 16, 17, 18, 19, 20, 21, 22] (fun k => k ≤ (bk n).length) (fun k => (bk n).length - k) (fun k => [(4, .int .i64 k), (3, .slice A0 (((bk n).take k).map bO ++ (bk n).drop k).length c0)]) (fun k => Ch.ls A0 c0 9 1 dD (((bk n).take k).map bO ++ (bk n).drop k)) (0) ?_ ⟨rfl, rfl, trivial⟩ rfl (fun k hI => ?_)
 exact Nat.zero_le _
 have hml := dS bO (bk n) k
 refine ap ?_
 refine ap ?_
 refine ae ?_
 refine aq (am rfl) rfl rfl ?_
 refine aq (am rfl) rfl rfl ?_
 refine aq (bg Tryz.underlying135 rfl) rfl rfl ?_
 refine aq (bW rfl rfl) rfl rfl ?_
 refine ay (t := 12) rfl (fun h3_3 => ?_) (fun h3_3 => ?_)
 refine aa ?_
 refine aj ?_
 refine aA rfl ?_
 refine aQ ?_
 refine aj ?_
 refine ap ?_
 refine aS ?_
 refine ae ?_
 refine aq (am rfl) rfl rfl ?_
 refine aq (am rfl) rfl rfl ?_
 refine aq (am rfl) rfl rfl ?_
 refine aq (am rfl) rfl rfl ?_
 refine aq (bB  Tryz.underlying135 cI rfl rfl (dL 0 rfl) rfl (by rw [dS]; omega)) rfl rfl ?_
 refine aq (bZ bV ([] : a6) cI rfl (dL 0 rfl) (by rw [dS]; omega) rfl rfl) rfl rfl ?_
 refine bD rfl ent_180 (hG _ (fold_b (by omega) hlb.2.1)) rfl ?_
 refine aq (bB  Tryz.underlying135 cI rfl rfl (dL 0 rfl) rfl (by rw [dS]; omega)) rfl rfl ?_
 refine fb bV ([] : a6) _ cI rfl rfl rfl .z rfl (by rw [dS]; omega) rfl rfl rfl ?_
 refine aa ?_
 refine bj ?_
 refine aj ?_
 refine ae ?_
 refine aq (am rfl) rfl rfl ?_
 refine aq (br rfl rfl (by omega) (by omega)) rfl rfl ?_
 refine aq (ai rfl) rfl rfl ?_
 refine aa ?_
 have hk : k < (bk n).length := by omega
 refine bv (k + 1) ?_ ?_ ⟨rfl, lk rfl (by rw [dS, dS]), trivial⟩ (by repeat (first | exact trivial | refine ⟨rfl, ?_⟩)) (fun w h => by rw [mapS_at bO (bk n) k hk, mapS_step bO (bk n) k hk] at h; exact h)
 omega
 omega
 refine aa ?_
 refine aj ?_
 refine aD rfl ?_
 refine bJ ?_
 refine aV ?_
 refine aX ?_
 refine a8 ?_
 refine aj ?_
 refine ap ?_
 refine ae ?_
 obtain rfl : k = (bk n).length := by omega
 refine aq (am rfl) rfl rfl ?_
 refine bA rfl ent_143 rfl (jB _ _ _ (by simp; omega)) (fun w hw => (az (ci 0 rfl hw) aY)) ?_
 refine aq (am rfl) rfl rfl ?_
 refine aq (bn rfl rfl) rfl rfl ?_
 refine aq (bn rfl rfl) rfl rfl ?_
 refine aq (ai rfl) rfl rfl ?_
 refine aq (ai rfl) rfl rfl ?_
 refine aa ?_
 refine aj ?_
 refine ap ?_
 refine ae ?_
 refine aq (am rfl) rfl rfl ?_
 refine aq (ai rfl) rfl rfl ?_
 refine aa ?_
 refine aj ?_
 refine aN ?_
 refine aR (ts := [2]) rfl rfl rfl (fun w hw => ?_)
 exact ⟨(), by rw [← iR]; simp [eW], hw.base, (hw.weak (List.nil_sublist _) (fun s hs => hs)).toNews⟩

theorem ii (n : a6) (hn : n.length ≤ 1000000000) : eC Tryz.prog 112 #[.string (ba n)] (.string (ba (a7 n))) := rc_pure (ib n hn)

theorem fp {α : Type} {a b : List α} (d : α) {k : Nat} (ha : k < a.length) (hb : k < b.length) (h : a.take k = b.take k) (he : a.getD k d = b.getD k d) : a.take (k + 1) = b.take (k + 1) := by
  rw [dh a d k ha, dh b d k hb, h, he]
theorem fG {α : Type} {a b : List α} (d : α) {k : Nat} (he : a.getD k d ≠ b.getD k d) : a ≠ b := fun e => he (by rw [e])

end Go.Proofs.YtnpdgmoeoidppaaGreat

/- Octets compared, slices that are made: plain laws. -/
namespace Go.Proofs.YtnpdgmoeoidppaaGreat
open Go.RowKit Go.Shelf
set_option linter.unusedVariables false
set_option linter.unusedSimpArgs false

/-- Octets compared, one behind the other. -/
def dK : a6 → a6 → Int
  | [], [] => 0
  | [], _ :: _ => -1
  | _ :: _, [] => 1
  | a :: r, b :: t => if a < b then -1 else if b < a then 1 else dK r t
theorem cmpS_zero : ∀ {s t : a6}, dK s t = 0 ↔ s = t
  | [], [] => by simp [dK]
  | [], _ :: _ => by simp [dK]
  | _ :: _, [] => by simp [dK]
  | a :: r, b :: t => by
    have ih := cmpS_zero (s := r) (t := t)
    simp only [dK]
    split
    · rename_i h; simp; intro e; subst e; exact absurd h (UInt8.lt_irrefl _)
    · split
      · rename_i h; simp; intro e; subst e; exact absurd h (UInt8.lt_irrefl _)
      · rename_i h1 h2
        have : a = b := UInt8.le_antisymm (UInt8.not_lt.1 h2) (UInt8.not_lt.1 h1)
        simp [this, ih]
theorem ba_get (s : a6) (i : Nat) : (ba s)[i]! = s.getD i 0 := by
  by_cases h : i < s.length
  · have h' : i < (ba s).size := h
    simp [getElem!_pos, h', List.getD_eq_getElem?_getD, h]
    rfl
  · have h' : ¬ i < (ba s).size := h
    simp [getElem!_neg, h', List.getD_eq_getElem?_getD, h]
    rfl
theorem cmp_eq : ∀ s t : a6, Extern.BytealgCompare.cmp (ba s) (ba t) = dK s t
  | [], [] => rfl
  | [], b :: t => by
    simp [Extern.BytealgCompare.cmp, dK]
    have e1 : (ba ([] : a6)).size = 0 := rfl
    have e2 : (ba (b :: t)).size = t.length + 1 := rfl
    simp [e1, e2]
  | a :: r, [] => by
    simp [Extern.BytealgCompare.cmp, dK]
    have e1 : (ba ([] : a6)).size = 0 := rfl
    have e2 : (ba (a :: r)).size = r.length + 1 := rfl
    simp [e1, e2]
  | a :: r, b :: t => by
    have ih := cmp_eq r t
    have e1 : (ba (a :: r)).size = r.length + 1 := rfl
    have e2 : (ba (b :: t)).size = t.length + 1 := rfl
    have e3 : (ba r).size = r.length := rfl
    have e4 : (ba t).size = t.length := rfl
    simp only [Extern.BytealgCompare.cmp, e1, e2, e3, e4, Nat.add_min_add_right] at ih ⊢
    rw [Lib.find_range_succ]
    simp only [ba_get, List.getD_cons_zero, List.getD_cons_succ] at ih ⊢
    by_cases hab : a = b
    · subst hab
      simp only [bne_self_eq_false, dK, UInt8.lt_irrefl, if_false]
      simp only [Bool.false_eq_true, if_false]
      rw [← ih]
      cases hf : (List.range (min r.length t.length)).find? (fun i => r.getD i 0 != t.getD i 0) with
      | none => simp [hf]
      | some i => simp [hf]
    · have hne : (a != b) = true := by simpa using hab
      simp only [hne, if_true, dK]
      by_cases hlt : a < b
      · simp [hlt]
      · have : b < a := by
          rcases Nat.lt_or_gt_of_ne (fun h => hab (UInt8.toNat_inj.1 h)) with h | h
          · exact absurd (UInt8.lt_iff_toNat_lt.2 h) hlt
          · exact UInt8.lt_iff_toNat_lt.2 h
        simp [hlt, this]
theorem run_cmp {P : Program} (s t : a6) (w : World) : (Extern.BytealgCompare.compare #[.string (ba s), .string (ba t)]).run P w = .ok (.int .i64 (dK s t)) w := by
  rw [← cmp_eq]; rfl
/-! Slices that are made. -/
section
variable {x : Cx} {l : Fr} {L S : List Ch} {Q : Exit → Act → World → Prop} {ops : Array Oper} {rest : List Oper} {d : Nat} {ty : TypeId} {pos : String} {af : Array Edge} {gd : Option (Nat × Bool)}
end
end Go.Proofs.YtnpdgmoeoidppaaGreat

/- names that are the same; the laws of sums -/
namespace Go.Proofs.YtnpdgmoeoidppaaGreat
open Go.RowKit Go.Shelf
set_option linter.unusedVariables false
set_option linter.unusedSimpArgs false

theorem ent_232 : Enters Tryz.prog 232 := enters_of Tryz.func232 (by kernel_rfl) rfl
theorem ent_253 : Enters Tryz.prog 253 := enters_of Tryz.func253 (by kernel_rfl) rfl

theorem c_CompareString (s t : a6) : eC Tryz.prog 253 #[.string (ba s), .string (ba t)] (.int .i64 (dK s t)) := by
 intro w0
 refine bT (ok0 := no) (S := []) (args := [.string (ba s), .string (ba t)]) 8 Tryz.func253 rfl rfl rfl (by simp) (by simp) ?_
 refine ap ?_
 refine ae ?_
 refine aq (ai rfl) rfl rfl ?_
 refine aa ?_
 refine aj ?_
 refine ap ?_
 refine ae ?_
 refine aq (am rfl) rfl rfl ?_
 refine aq (am rfl) rfl rfl ?_
 refine o_ext rfl (fun w => by rw [run_callFunc_extern Tryz.func262 (by kernel_rfl) (by kernel_rfl) (by kernel_rfl) (e := Extern.BytealgCompare.compare) (by kernel_rfl), run_cmp]; rfl) rfl ?_
 refine aq (ai rfl) rfl rfl ?_
 refine aa ?_
 refine aj ?_
 refine aN ?_
 refine aR (ts := [4]) rfl rfl rfl (fun w hw => ?_)
 exact ⟨rfl, hw.base⟩

theorem jM (s t : a6) : eC Tryz.prog 232 #[.string (ba s), .string (ba t)] (.int .i64 (dK s t)) := by
 intro w0
 refine bT (ok0 := no) (S := []) (args := [.string (ba s), .string (ba t)]) 8 Tryz.func232 rfl rfl rfl (by simp) (by simp) ?_
 refine ap ?_
 refine ae ?_
 refine aq (ai rfl) rfl rfl ?_
 refine aa ?_
 refine aj ?_
 refine ap ?_
 refine ae ?_
 refine aq (am rfl) rfl rfl ?_
 refine aq (am rfl) rfl rfl ?_
 refine bD rfl ent_253 (c_CompareString _ _) rfl ?_
 refine aq (ai rfl) rfl rfl ?_
 refine aa ?_
 refine aj ?_
 refine aN ?_
 refine aR (ts := [4]) rfl rfl rfl (fun w hw => ?_)
 exact ⟨rfl, hw.base⟩

theorem c_label_Compare (s t : a6) (hs : s.length ≤ 1000000000000) (ht : t.length ≤ 1000000000000) : eC Tryz.prog 192 #[.string (ba s), .string (ba t)] (.int .i64 (dK (bO s) (bO t))) := by
 intro w0
 refine bT (ok0 := no) (S := []) (args := [.string (ba s), .string (ba t)]) 10 Tryz.func192 rfl rfl rfl (by simp) (by simp) ?_
 refine ap ?_
 refine ae ?_
 refine aq (ai rfl) rfl rfl ?_
 refine aa ?_
 refine aj ?_
 refine ap ?_
 refine ae ?_
 refine aq (am rfl) rfl rfl ?_
 refine bD rfl ent_147 (hY _ (by omega)) rfl ?_
 refine aq (am rfl) rfl rfl ?_
 refine bD rfl ent_147 (hY _ (by omega)) rfl ?_
 refine bD rfl ent_232 (jM _ _) rfl ?_
 refine aq (ai rfl) rfl rfl ?_
 refine aa ?_
 refine aj ?_
 refine aN ?_
 refine aR (ts := [4]) rfl rfl rfl (fun w hw => ?_)
 exact ⟨rfl, hw.base⟩

theorem aZ {α : Type} {l : List α} {d : α} {k : Nat} (h : k < l.length) : l.getD k d ∈ l := by
  rw [List.getD_eq_getElem?_getD, List.getElem?_eq_getElem h]; exact List.getElem_mem h
theorem okN_low {n : a6} (h : jx n = true) : jx (bO n) = true := by
  have e := iy (fj n) (fD n)
  rw [gq n h] at e
  rw [← e]
  refine (gF _ ?_).1
  intro s hs
  obtain ⟨t, ht, rfl⟩ := List.mem_map.1 hs
  rw [dW]; exact fD n t ht
theorem nameCk_low {n : a6} (h : bd n = 0) : bd (bO n) = 0 := by
  obtain ⟨h1, h2⟩ := nameCk_zero.1 h
  exact nameCk_zero.2 ⟨by rw [dW]; exact h1, okN_low h2⟩
end Go.Proofs.YtnpdgmoeoidppaaGreat

/- Structs and arrays compared. -/
namespace Go.Proofs.YtnpdgmoeoidppaaGreat
open Go.RowKit Go.Shelf
set_option linter.unusedVariables false
set_option linter.unusedSimpArgs false

/-- An equality that the model settles so from some depth on. -/
def EqD (P : Program) (n : Nat) (t : TypeId) (v u : Value) (b : Bool) : Prop := ∀ d w, (Op.equalIn (d + n) t v u).run P w = .ok b w
def EqF (P : Program) (n : Nat) (xs ys : Array Value) (fs : List Field) (b : Bool) : Prop := ∀ d w, (Op.eqFields (d + n) xs ys fs).run P w = .ok b w
section
variable {P : Program} {n m : Nat} {t : TypeId} {xs ys : Array Value} {f : Field} {fs : List Field} {v u : Value} {r s : Bool}
theorem EqD.up (h : EqD P m t v u r) (hm : m ≤ n) : EqD P n t v u r := fun d w => by
  obtain ⟨k, rfl⟩ : ∃ k, n = k + m := ⟨n - m, by omega⟩
  rw [← Nat.add_assoc]; exact h _ w
theorem eqd_int {k k' : IntKind} {a b : Int} (h : P.underlying t = some (.int k')) : EqD P 1 t (.int k a) (.int k b) (a == b) := fun d w => run_equalIn_int w d t k k' a b h
theorem eqd_bool {a b : Bool} (h : P.underlying t = some .bool) : EqD P 1 t (.bool a) (.bool b) (a == b) := fun d w => run_equalIn_bool' w d t a b h
theorem eqf_nil : EqF P n xs ys [] true := fun d w => by simp [Op.eqFields]
theorem eqf_cons (hn : (f.name == "_") = false) (ha : ∀ w, (part f.type xs f.offset).run P w = .ok v w) (hb : ∀ w, (part f.type ys f.offset).run P w = .ok u w) (he : EqD P m f.type v u r) (hm : Nat.ble m n = true) (hr : EqF P n xs ys fs s) : EqF P n xs ys (f :: fs) (r && s) := fun d w => by
  have hn' : f.name ≠ "_" := by simpa using hn
  rw [Op.eqFields]
  simp only [if_pos hn', Sem.run_bind, ha, hb, (he.up (Nat.le_of_ble_eq_true hm)) d w, Result.andThen_ok]
  cases r
  · simp
  · simpa using hr d w
theorem eqd_struct {fa : Array Field} (hu : P.underlying t = some (.struct fa)) (hp : P.stoodInHeld t = false) (h : EqF P n xs ys fa.toList r) : EqD P (n + 1) t (.agg xs) (.agg ys) r := fun d w => by
  have hf : P.fieldsOf t = fa := by simp [Program.fieldsOf, hu]
  rw [← Nat.add_assoc, run_equalIn_struct (P := P) w (d + n) t xs ys (by rw [hf]; exact hu) hp, hf]
  exact h d w
end
section
variable {x : Cx} {l : Fr} {L S : List Ch} {d : Nat} {ty : TypeId} {pos : String} {af : Array Edge} {gd : Option (Nat × Bool)}
theorem y_eqst {y z : Operand} {xs ys : Array Value} {b : Bool} {yt zt : TypeId} {n : Nat} (hm : x.P.eqGuardType x.P.depth yt = false) (hy : ev l y = some (.agg xs)) (hz : ev l z = some (.agg ys)) (h : EqD x.P n yt (.agg xs) (.agg ys) b) (hn : Nat.ble n 10000 = true) :
    Yv x l L S ⟨some d, .binOp .eql yt y z zt, ty, pos, af, gd⟩ (.bool b) := fun a w ha hw => by
  have he : (Op.equalIn 10000 yt (.agg xs) (.agg ys)).run x.P w = .ok b w := by
    obtain ⟨k, hk⟩ : ∃ k, 10000 = k + n := ⟨10000 - n, by have := Nat.le_of_ble_eq_true hn; omega⟩
    rw [hk]; exact h k w
  simp only [execOp, ha.ev hy, ha.ev hz]
  simp [run_eqGuard_agg w .eql yt y z xs ys hm, run_eql_struct, he]
theorem y_nest {y z : Operand} {xs ys : Array Value} {b : Bool} {yt zt : TypeId} {n : Nat} (hm : x.P.eqGuardType x.P.depth yt = false) (hy : ev l y = some (.agg xs)) (hz : ev l z = some (.agg ys)) (h : EqD x.P n yt (.agg xs) (.agg ys) b) (hn : Nat.ble n 10000 = true) :
    Yv x l L S ⟨some d, .binOp .neq yt y z zt, ty, pos, af, gd⟩ (.bool (!b)) := fun a w ha hw => by
  have he : (Op.equalIn 10000 yt (.agg xs) (.agg ys)).run x.P w = .ok b w := by
    obtain ⟨k, hk⟩ : ∃ k, 10000 = k + n := ⟨10000 - n, by have := Nat.le_of_ble_eq_true hn; omega⟩
    rw [hk]; exact h k w
  simp only [execOp, ha.ev hy, ha.ev hz]
  simp [run_eqGuard_agg w .neq yt y z xs ys hm, run_neq_struct, he]
theorem y_nestd {y z : Operand} {xs ys : Array Value} {p : Prop} [Decidable p] {yt zt : TypeId} {n : Nat} (hm : x.P.eqGuardType x.P.depth yt = false) (hy : ev l y = some (.agg xs)) (hz : ev l z = some (.agg ys)) (h : EqD x.P n yt (.agg xs) (.agg ys) (decide p)) (hn : Nat.ble n 10000 = true) :
    Yv x l L S ⟨some d, .binOp .neq yt y z zt, ty, pos, af, gd⟩ (.bool (decide (¬ p))) := (y_nest hm hy hz h hn).eq (by rw [decide_not])
end
end Go.Proofs.YtnpdgmoeoidppaaGreat
